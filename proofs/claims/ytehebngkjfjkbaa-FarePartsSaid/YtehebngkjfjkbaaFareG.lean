/-
  Fares: the references PartOf, PenaltyOf, PriceOf.
-/
import Derived.Test.YtehebngkjfjkbaaFareF
namespace Go.Proofs.Ytehebngkjfjkbaa
open Go.RowKit Go.Shelf

theorem PartOf_any (n h : Int) (w : World) (h0 : 0 ≤ n) (h1 : n ≤ 1000000000) (h2 : 0 ≤ h) (h3 : h ≤ 1000) : Calls Try.prog 48 #[.int .i64 n, .int .i64 h] w fun e w' => e = .returned (.int .i64 (partV n h)) ∧ w' = w := by
  have hm := mul_bd (N := 1000000000) (H := 1000) h0 h1 h2 h3
  obtain ⟨q, hq⟩ : ∃ q, q = n * h := ⟨_, rfl⟩
  have hp : partV n h = (q + 50) / 100 := by rw [hq]; rfl
  rw [hp]
  rw [← hq] at hm
  have hw : wrap64 (n * h) = q := by rw [← hq]; unfold wrap64; omega
  have hw2 : IntKind.i64.wrap (n * h) = q := by rw [← hq]; exact IntWalk.i64_in _ (by omega)
  have t1 : q.tdiv 100 = q / 100 := Int.tdiv_eq_ediv_of_nonneg hm.1
  have t2 : q.tmod 100 = q % 100 := Int.tmod_eq_emod_of_nonneg hm.1
  clear hq hp
  go_enter Try.func48, Try.ntmps48
  go_wp2
  all_goals go_ret
  all_goals exact ⟨retI (by omega), rfl⟩

set_option maxHeartbeats 2000000 in
theorem PenaltyOf_any (A : Option Addr) (n cap : Nat) (x : Fares) (B : Option Addr) (m cap2 : Nat) (p days : Int) (w : World) (h : FareR w A n cap x B m cap2) (p0 : 0 ≤ p) (p1 : p ≤ 100000000) (hbp : ∀ b ∈ x.bands, 0 ≤ b.part ∧ b.part ≤ 100) :
    Calls Try.prog 49 #[.agg #[.slice A n cap, .int .i64 x.alone, .int .i64 x.third, .slice B m cap2, .int .i64 x.down], .int .i64 p, .int .i64 days] w fun e w' => e = .returned (.int .i64 (lateV x p days)) ∧ Below w.heap.size w w' := by
  have hb0 : Below w.heap.size w (w.alloc (.cells #[.slice A n cap, .int .i64 x.alone, .int .i64 x.third, .slice B m cap2, .int .i64 x.down] 68)) := (Below.refl _ _).alloc (Nat.le_refl _) _
  have hbd := h.bands.bd
  have HL := Lib.hid h.bands.len
  have HBP := Lib.hid hbp
  clear hbp
  go_enter Try.func49, Try.ntmps49
  go_wp2_with fail
  go_loopg [7] m (fun gk i wr => ∃ k : Nat, k ≤ m ∧ m - k ≤ gk ∧ i = .int .i64 k ∧ Aside ((x.bands.take k).any (fun b => decide (days ≤ b.days)) = false) ∧ wr = w.alloc (.cells #[.slice A n cap, .int .i64 x.alone, .int .i64 x.third, .slice B m cap2, .int .i64 x.down] 68))
  case atStart => exact ⟨0, Nat.zero_le _, by omega, rfl, rfl, rfl⟩
  case round =>
    obtain ⟨k, hk, hgk, rfl, HA, rfl⟩ := hrel
    by_cases hlt : k < m
    · obtain ⟨b, off, y, c0, c1, rfl, hy, ⟨hc, b0, b1⟩, g0, g1⟩ := (h.bands.below bandC_good (by omega) hb0).at2 hlt
      simp only [List.cons.injEq, and_true] at hc
      obtain ⟨rfl, rfl⟩ := hc
      have hyp := HBP.out y (List.mem_of_getElem? hy)
      have HY := Lib.hid hy
      clear hy
      have hpt := fun W => PartOf_any p y.part W p0 (by omega) hyp.1 (by omega)
      by_cases hd : days ≤ y.days
      · have HI := Lib.hid (show lateI x days = (k : Int) from idxF_at (p := fun b : Band => decide (days ≤ b.days)) HA HY.out (decide_eq_true hd))
        go_wp2_with fail
        refine (hpt _).mono ?_
        rintro e w2 ⟨rfl, rfl⟩
        go_wp2_with fail
        go_ret
        refine ⟨retI ?_, hb0⟩
        unfold lateV
        rw [HI.out, if_neg (by omega)]
        simp [HY.out]
      · have HD := Lib.hid (decide_eq_false hd)
        go_wp2_with fail
        go_roundg (m - (k + 1))
        case measure => omega
        case rel => exact ⟨k + 1, by omega, by omega, by go_num, by show _ = _; rw [any_take_succ HY.out, HA, HD.out]; rfl, rfl⟩
    · have : k = m := by omega
      subst this
      have HT := Lib.hid (List.take_of_length_le (Nat.le_of_eq HL.out))
      have HI := Lib.hid (show lateI x days = -1 from idxF_none (by rw [← HT.out]; exact HA))
      go_wp2_with fail
      go_ret
      exact ⟨retI (by unfold lateV; rw [HI.out]; rfl), hb0⟩

/-- What the first j - 1 guests pay together. -/
def upto (s pt : Int) (j : Nat) : Int := if j ≤ 1 then 0 else if j = 2 then s else if j = 3 then 2 * s else if j = 4 then 2 * s + pt else 2 * s + 2 * pt

set_option maxHeartbeats 4000000 in
theorem PriceOf_any (A : Option Addr) (n cap : Nat) (x : Fares) (B : Option Addr) (m cap2 : Nat) (k f t g : Nat) (L : List Int) (w : World) (h : FareR w A n cap x B m cap2) (hL : x.leg[k]? = some L) (hft : f < t) (ht : t ≤ L.length) (h7 : L.length ≤ 7)
    (hv : ∀ v ∈ L, 0 ≤ v ∧ v ≤ 100000) (ha : 0 ≤ x.alone ∧ x.alone ≤ 200) (hth : 0 ≤ x.third ∧ x.third ≤ 100) (hg1 : 1 ≤ g) (hg4 : g ≤ 4) :
    Calls Try.prog 47 #[.agg #[.slice A n cap, .int .i64 x.alone, .int .i64 x.third, .slice B m cap2, .int .i64 x.down], .int .i64 k, .agg #[.int .i64 f, .int .i64 t], .int .i64 g] w fun e w' => e = .returned (.int .i64 (paysV x (seg L f t).sum g)) ∧ Below w.heap.size w w' := by
  have hb0 : Below w.heap.size w ((w.alloc (.cells #[.slice A n cap, .int .i64 x.alone, .int .i64 x.third, .slice B m cap2, .int .i64 x.down] 68)).alloc (.cells #[.int .i64 f, .int .i64 t] 40)) := ((Below.refl _ _).alloc (Nat.le_refl _) _).alloc (by simp) _
  have hF : FareAt ((w.alloc (.cells #[.slice A n cap, .int .i64 x.alone, .int .i64 x.third, .slice B m cap2, .int .i64 x.down] 68)).alloc (.cells #[.int .i64 f, .int .i64 t] 40)) w.heap.size A n cap x B m cap2 := blk2_0 _ _ _
  have hS : SpanAt ((w.alloc (.cells #[.slice A n cap, .int .i64 x.alone, .int .i64 x.third, .slice B m cap2, .int .i64 x.down] 68)).alloc (.cells #[.int .i64 f, .int .i64 t] 40)) (w.heap.size + 1) f t := blk2_1 _ _ _
  have hkn : k < n := by have := (List.getElem?_eq_some_iff.1 hL).1; have := h.leg.len; omega
  have hbd := h.leg.bd
  obtain ⟨b, off, L', c0, hA, hL', ⟨B', q, c2, hc, hsl⟩, g0⟩ := ((h.below hb0).leg).at1 hkn
  obtain rfl : L' = L := by rw [hL] at hL'; injection hL' with e; exact e.symm
  simp only [List.cons.injEq, and_true] at hc
  subst hc
  subst hA
  have hq := hsl.len
  have hqb := hsl.bd
  have htq : t ≤ q := by omega
  have hseg := seg_length (l := L') (f := f) (t := t) ht
  have hsb : ∀ j, 0 ≤ ((seg L' f t).take j).sum ∧ ((seg L' f t).take j).sum ≤ 700000 := fun j => by
    have h1 := sum_bd (l := (seg L' f t).take j) (M := 100000) fun v hv' => hv v (seg_mem (List.mem_of_mem_take hv'))
    have h2 : ((seg L' f t).take j).length ≤ 7 := by rw [List.length_take]; omega
    omega
  have HV := Lib.hid hv
  have HSB := Lib.hid hsb
  have HLEN := Lib.hid hseg
  have j0 := hF.c0
  have j1 := hF.c1
  have j2 := hF.c2
  have s0 := hS.c0
  have s1 := hS.c1
  clear hL hL' hv hsb hq hseg
  go_enter Try.func47, Try.ntmps47
  go_wp2_with fail
  go_loopg [9, 10] (t - f) (fun gk s i wr => ∃ j : Nat, f ≤ j ∧ j ≤ t ∧ t - j ≤ gk ∧ i = .int .i64 j ∧ s = .int .i64 ((seg L' f t).take (j - f)).sum ∧ wr = ((w.alloc (.cells #[.slice (some ⟨b, off, none⟩) n cap, .int .i64 x.alone, .int .i64 x.third, .slice B m cap2, .int .i64 x.down] 68)).alloc (.cells #[.int .i64 f, .int .i64 t] 40)))
  case atStart => exact ⟨f, Nat.le_refl _, by omega, by omega, rfl, by simp, rfl⟩
  case round =>
    obtain ⟨j, hfj, hj, hgj, rfl, rfl, rfl⟩ := hrel
    by_cases hlt : j < t
    · obtain ⟨b4, off4, v, d0, rfl, hv, ⟨hd, v0⟩, e0⟩ := hsl.at1 (k := j) (by omega)
      simp only [List.cons.injEq, and_true] at hd
      subst hd
      have hvb := HV.out v (List.mem_of_getElem? hv)
      have HS := Lib.hid (sum_take_succ (seg_at hv hfj hlt))
      have hs0 := HSB.out (j - f)
      clear hv
      go_wp2_with fail
      go_roundg (t - (j + 1))
      case measure => omega
      case rel => exact ⟨j + 1, by omega, by omega, by omega, by go_num, by rw [show j + 1 - f = j - f + 1 by omega, HS.out], rfl⟩
    · have : j = t := by omega
      subst this
      have hs0 := HSB.out (j - f)
      have HT := Lib.hid (List.take_of_length_le (Nat.le_of_eq HLEN.out))
      rw [HT.out] at hs0
      obtain ⟨S, hS'⟩ : ∃ S, S = (seg L' f j).sum := ⟨_, rfl⟩
      rw [HT.out]
      rw [← hS'] at hs0 ⊢
      have HP := Lib.hid (show paysV x (seg L' f j).sum (g : Int) = if (g : Int) = 1 then S + partV S x.alone else 2 * S + ((g : Int) - 2) * partV S x.third by rw [← hS']; rfl)
      clear hS'
      have hpa := fun W => PartOf_any S x.alone W hs0.1 (by omega) ha.1 (by omega)
      have hpt := fun W => PartOf_any S x.third W hs0.1 (by omega) hth.1 (by omega)
      have ba := partV_bd hs0.1 (by omega) ha.1 ha.2
      have bt := partV_bd hs0.1 (by omega) hth.1 (show x.third ≤ 200 by omega)
      generalize partV S x.alone = pa at *
      generalize partV S x.third = pt at *
      go_wp2_with fail
      go_loopg [11, 12] g (fun gk o i wr => ∃ q : Nat, 1 ≤ q ∧ q ≤ g + 1 ∧ g + 1 - q ≤ gk ∧ i = .int .i64 q ∧ (∃ u, o = .int .i64 u ∧ Aside (u = upto S pt q) ∧ 0 ≤ u ∧ u ≤ 10000000) ∧ wr = ((w.alloc (.cells #[.slice (some ⟨b, off, none⟩) n cap, .int .i64 x.alone, .int .i64 x.third, .slice B m cap2, .int .i64 x.down] 68)).alloc (.cells #[.int .i64 f, .int .i64 j] 40)))
      case atStart => exact ⟨1, Nat.le_refl _, by omega, by omega, rfl, ⟨0, rfl, rfl, by omega, by omega⟩, rfl⟩
      case round =>
        obtain ⟨q', hq1, hq2, hgq, rfl, ⟨u, rfl, HU, u0, u1⟩, rfl⟩ := hrel
        by_cases hqg : q' ≤ g
        · have hU : u = upto S pt q' := HU
          by_cases h2 : q' ≤ 2
          · have HN := Lib.hid (show u + S = upto S pt (q' + 1) by rw [hU]; unfold upto; rcases (show q' = 1 ∨ q' = 2 by omega) with rfl | rfl <;> simp <;> omega)
            have hub : u + S ≤ 10000000 := by rw [hU]; unfold upto; rcases (show q' = 1 ∨ q' = 2 by omega) with rfl | rfl <;> simp <;> omega
            clear hU
            go_wp2_with fail
            go_roundg (g + 1 - (q' + 1))
            case measure => omega
            case rel => exact ⟨q' + 1, by omega, by omega, by omega, by go_num, ⟨u + S, rfl, HN.out, by omega, hub⟩, rfl⟩
          · have HN := Lib.hid (show u + pt = upto S pt (q' + 1) by rw [hU]; unfold upto; rcases (show q' = 3 ∨ q' = 4 by omega) with rfl | rfl <;> simp <;> omega)
            have hub : u + pt ≤ 10000000 := by rw [hU]; unfold upto; rcases (show q' = 3 ∨ q' = 4 by omega) with rfl | rfl <;> simp <;> omega
            clear hU
            go_wp2_with fail
            refine (hpt _).mono ?_
            rintro e w2 ⟨rfl, rfl⟩
            go_wp2_with fail
            go_roundg (g + 1 - (q' + 1))
            case measure => omega
            case rel => exact ⟨q' + 1, by omega, by omega, by omega, by go_num, ⟨u + pt, rfl, HN.out, by omega, hub⟩, rfl⟩
        · have : q' = g + 1 := by omega
          subst this
          have HU' : Hid (u = upto S pt (g + 1)) := Lib.hid HU
          by_cases h1 : g = 1
          · subst h1
            go_wp2_with fail
            refine (hpa _).mono ?_
            rintro e w2 ⟨rfl, rfl⟩
            go_wp2_with fail
            go_ret
            exact ⟨retI (by rw [HP.out, HU'.out]; simp [upto]), hb0⟩
          · have h1' : ((g : Int) == 1) = false := by simp; omega
            go_wp2_with fail
            go_ret
            refine ⟨retI ?_, hb0⟩
            rw [HP.out, HU'.out, if_neg (by omega)]
            rcases (show g = 2 ∨ g = 3 ∨ g = 4 by omega) with rfl | rfl | rfl <;> simp [upto] <;> omega
end Go.Proofs.Ytehebngkjfjkbaa
