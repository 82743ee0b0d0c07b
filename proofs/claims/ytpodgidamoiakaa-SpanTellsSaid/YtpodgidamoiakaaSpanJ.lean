/-
  Spans: the references DoMeet, CheckCalendar.
-/
import Derived.Test.YtpodgidamoiakaaSpanI
namespace Go.Proofs.Ytpodgidamoiakaa
open Go.RowKit Go.Shelf

/-- A span of any voyage that is right. -/
def OkSp (x : Span) : Prop := 0 ≤ x.frm ∧ x.frm < x.upto ∧ x.upto ≤ 7
def legB (i : Int) (x : Span) : Bool := betB i x.frm (x.upto - 1)
theorem meet_leg {x y : Span} (_ : OkSp x) (_ : OkSp y) {i : Int} (h : legB i x = true) (h2 : legB i y = true) : meetB x y = true := by
  unfold legB at h h2
  rw [betB_iff] at h h2
  unfold meetB
  simp
  omega
theorem meet_none {x y : Span} (hx : OkSp x) (hy : OkSp y) (h : ∀ i : Nat, i < 7 → (legB i x && legB i y) = false) : meetB x y = false := by
  cases q : meetB x y with
  | false => rfl
  | true =>
    unfold meetB at q
    simp at q
    obtain ⟨h1, h2, h3⟩ := hx
    obtain ⟨h4, h5, h6⟩ := hy
    obtain ⟨i, hi⟩ := Int.eq_ofNat_of_zero_le (show 0 ≤ max x.frm y.frm by omega)
    have := h i (by omega)
    rw [show legB (i : Int) x = true from betB_true (by omega) (by omega), show legB (i : Int) y = true from betB_true (by omega) (by omega)] at this
    exact absurd this (by decide)

set_option maxRecDepth 100000 in
set_option maxHeartbeats 2000000 in
theorem DoMeet_any (x y : Span) (w : World) (hx : OkSp x) (hy : OkSp y) : Calls Try.prog 32 #[.agg #[.int .i64 x.frm, .int .i64 x.upto], .agg #[.int .i64 y.frm, .int .i64 y.upto]] w fun e w' => e = .returned (.bool (meetB x y)) ∧ Below w.heap.size w w' := by
  obtain ⟨r, hr⟩ : ∃ r, r = meetB x y := ⟨_, rfl⟩
  rw [← hr]
  have hw1 : wrap64 (x.upto - 1) = x.upto - 1 := by unfold OkSp at hx; unfold wrap64; omega
  have hw2 : wrap64 (y.upto - 1) = y.upto - 1 := by unfold OkSp at hy; unfold wrap64; omega
  have HX := Lib.hid hx
  clear hx
  have HY := Lib.hid hy
  clear hy
  have HR := Lib.hid hr
  clear hr
  go_enter Try.func32, Try.ntmps32
  go_upto_region 0 with (fail)
  go_cut [2, 3] (fun p q wx => ∃ g k, p = .pointer (some ⟨g, 0, none⟩) ∧ q = .pointer (some ⟨k, 0, none⟩) ∧ SpanAt wx g x.frm x.upto ∧ SpanAt wx k y.frm y.upto ∧ Below w.heap.size w wx)
  case first => as_aux_lemma =>
    go_wp2_with fail
    go_meet
    exact ⟨_, _, rfl, rfl, blk2_0 _ _ _, blk2_1 _ _ _, bel2 _ _ _⟩
  obtain ⟨g, k, rfl, rfl, hS, hT, hb⟩ := hcut
  have c0 := hS.c0
  have c1 := hS.c1
  have d0 := hT.c0
  have d1 := hT.c1
  go_wp2_with fail
  go_loopg [5] 7 (fun gk i wr => ∃ k : Nat, k ≤ 7 ∧ 7 - k ≤ gk ∧ i = .int .i64 k ∧ Aside (∀ j : Nat, j < k → (legB j x && legB j y) = false) ∧ wr = wc)
  case atStart => exact ⟨0, by omega, by omega, rfl, fun j hj => absurd hj (by omega), rfl⟩
  case round =>
    obtain ⟨i, hi, hgi, rfl, HE, rfl⟩ := hrel
    by_cases hlt : i < 7
    · go_wp2_with fail
      refine (between_any (i : Int) x.frm (x.upto - 1) _).mono ?_
      rintro e w9 ⟨rfl, rfl⟩
      have HL := Lib.hid (show legB (i : Int) x = betB (i : Int) x.frm (x.upto - 1) from rfl)
      have HL2 := Lib.hid (show legB (i : Int) y = betB (i : Int) y.frm (y.upto - 1) from rfl)
      cases q_HB1 : betB (i : Int) x.frm (x.upto - 1) <;> have HB1 := Lib.hid q_HB1 <;> clear q_HB1
      · go_wp2_with fail
        go_roundg (7 - (i + 1))
        case measure => omega
        case rel => exact ⟨i + 1, by omega, by omega, by go_num, (show Aside _ from fun j hj => by
          by_cases e : j = i
          · subst e; rw [HL.out, HB1.out]; rfl
          · exact HE j (by omega)), rfl⟩
      · go_wp2_with fail
        refine (between_any (i : Int) y.frm (y.upto - 1) _).mono ?_
        rintro e w9 ⟨rfl, rfl⟩
        cases q_HB2 : betB (i : Int) y.frm (y.upto - 1) <;> have HB2 := Lib.hid q_HB2 <;> clear q_HB2
        · go_wp2_with fail
          go_roundg (7 - (i + 1))
          case measure => omega
          case rel => exact ⟨i + 1, by omega, by omega, by go_num, (show Aside _ from fun j hj => by
            by_cases e : j = i
            · subst e; rw [HL2.out, HB2.out, Bool.and_false]
            · exact HE j (by omega)), rfl⟩
        · obtain rfl : r = true := by rw [HR.out]; exact meet_leg HX.out HY.out (HL.out.trans HB1.out) (HL2.out.trans HB2.out)
          go_wp2_with fail
          go_ret
          exact ⟨rfl, hb⟩
    · obtain rfl : i = 7 := by omega
      obtain rfl : r = false := by rw [HR.out]; exact meet_none HX.out HY.out fun j hj => HE j hj
      go_wp2_with fail
      go_ret
      exact ⟨rfl, hb⟩

set_option maxRecDepth 100000 in
set_option maxHeartbeats 4000000 in
theorem CheckCalendar_any (A : Option Addr) (n cap : Nat) (l : List Span) (legs : Int) (w : World) (h : Sl spanC 2 w All A n cap l) :
    Calls Try.prog 26 #[.slice A n cap, .int .i64 legs] w fun e w' => e = .returned (.int .i64 (calE l legs)) ∧ Below w.heap.size w w' := by
  have hbd := h.bd
  have hlen := Lib.hid h.len
  obtain ⟨r, hr⟩ : ∃ r, r = calE l legs := ⟨_, rfl⟩
  rw [← hr]
  have HR := Lib.hid hr
  clear hr
  go_enter Try.func26, Try.ntmps26
  go_wp2_with fail
  refine (between_any legs 1 7 _).mono ?_
  rintro e w9 ⟨rfl, rfl⟩
  cases q_HG : betB legs 1 7 <;> have HG := Lib.hid q_HG <;> clear q_HG
  · obtain rfl : r = 3 := by rw [HR.out]; unfold calE; rw [if_pos (show legsB legs = false from HG.out)]
    go_wp2_with fail
    go_ret
    exact ⟨rfl, Below.refl _ _⟩
  have HV := Lib.hid (show r = firstErr (calErr l legs) n by rw [HR.out]; unfold calE; rw [hlen.out, if_neg (by rw [show legsB legs = true from HG.out]; simp)])
  go_wp2_with fail
  go_loopg [5] n (fun gk i wr => ∃ k : Nat, k ≤ n ∧ n - k ≤ gk ∧ i = .int .i64 k ∧ Aside (firstErr (calErr l legs) k = 0) ∧ Below w.heap.size w wr)
  case atStart => exact ⟨0, Nat.zero_le _, by omega, rfl, rfl, Below.refl _ _⟩
  case round =>
    obtain ⟨k, hk, hgk, rfl, HE, hb⟩ := hrel
    by_cases hlt : k < n
    · obtain ⟨b, off, x, c0, c1, rfl, hx, ⟨hc, b0, b1⟩, g0, g1⟩ := (h.bel hb).at2 hlt
      simp only [List.cons.injEq, and_true] at hc
      obtain ⟨rfl, rfl⟩ := hc
      have HX := Lib.hid hx
      clear hx
      have fin : ∀ q : Int, calErr l legs k = q → q ≠ 0 → r = q := fun q h1 h2 => by
        rw [HV.out, firstErr_at (n := n) HE (by rw [h1]; exact h2) hlt, h1]
      have Fin := Lib.hid fin
      clear fin
      go_wp2_with fail
      refine (CheckSpan_any x.frm x.upto legs _).mono ?_
      rintro e w2 ⟨rfl, hb2⟩
      have hbA := hb.trans (hb2.mono hb.size)
      obtain ⟨q, hq⟩ : ∃ q, q = spanE ⟨x.frm, x.upto⟩ legs := ⟨_, rfl⟩
      rw [← hq]
      have HQ := Lib.hid hq
      clear hq
      clear g0 g1
      by_cases h0 : q = 0
      · subst h0
        have herr0 : k = 0 → calErr l legs k = 0 := fun h0 => by
          unfold calErr
          rw [HX.out, Option.getD_some, if_neg (by rw [show spanE x legs = 0 from HQ.out.symm]; simp), if_neg (by omega)]
        have herr : ∀ y, l[k - 1]? = some y → 0 < k → calErr l legs k = if x.frm < y.upto then 4 else 0 := fun y hy h0 => by
          unfold calErr
          rw [HX.out, Option.getD_some, if_neg (by rw [show spanE x legs = 0 from HQ.out.symm]; simp), hy, Option.getD_some]
          by_cases e : x.frm < y.upto
          · rw [if_pos ⟨h0, e⟩, if_pos e]
          · rw [if_neg (fun h => e h.2), if_neg e]
        have Herr := Lib.hid herr
        clear herr
        have Herr0 := Lib.hid herr0
        clear herr0
        rcases k with _ | k
        · go_wp2_with fail
          go_quiet (fail)
          go_wp2_with fail
          go_roundg (n - 1)
          case measure => omega
          case rel => exact ⟨1, by omega, by omega, rfl, (show Aside _ from (firstErr_succ HE).trans (Herr0.out (by trivial))), below_drewN hbA _⟩
        · obtain ⟨b1, off1, x1, f0, f1, hA1, hx1, ⟨hc1, _⟩, g0, g1⟩ := (h.bel hbA).at2 hlt
          injection hA1 with hA1
          injection hA1 with hb1 ho1 _
          subst hb1 ho1
          simp only [List.cons.injEq, and_true] at hc1
          obtain ⟨rfl, rfl⟩ := hc1
          obtain rfl : x1 = x := by have := HX.out; rw [hx1] at this; injection this
          obtain ⟨b2, off2, y, d0, d1, hA2, hy, ⟨hc2, y0, y1⟩, e0, e1⟩ := (h.bel hbA).at2 (show k < n by omega)
          injection hA2 with hA2
          injection hA2 with hb2 ho2 _
          subst hb2 ho2
          simp only [List.cons.injEq, and_true] at hc2
          obtain ⟨rfl, rfl⟩ := hc2
          have Hy := Lib.hid hy
          clear hy
          have hw : IntKind.i64.wrap (k : Int) = k := IntWalk.i64_in _ (by omega)
          have hgt : decide ((0 : Int) < (k : Int) + 1) = true := decide_eq_true (by omega)
          clear hx1
          by_cases hd : x1.frm < y.upto
          · obtain rfl : r = 4 := Fin.out 4 (by rw [Herr.out y (by simpa using Hy.out) (by omega), if_pos hd]) (by decide)
            have hd' : decide (x1.frm < y.upto) = true := decide_eq_true hd
            go_wp2_with fail
            go_quiet (fail)
            go_wp2_with fail
            go_ret
            exact ⟨rfl, below_drewN hbA _⟩
          · have hd' : decide (x1.frm < y.upto) = false := decide_eq_false hd
            have HD := Lib.hid hd
            go_wp2_with fail
            go_quiet (fail)
            go_wp2_with fail
            go_roundg (n - (k + 1 + 1))
            case measure => omega
            case rel => exact ⟨k + 1 + 1, by omega, by omega, by go_num, (show Aside _ from (firstErr_succ HE).trans (by rw [Herr.out y (by simpa using Hy.out) (by omega), if_neg (by have := HD.out; omega)])), below_drewN hbA _⟩
      · have h0' : (q != 0) = true := by simpa using h0
        obtain rfl : r = q := Fin.out q (by
          unfold calErr
          rw [HX.out, Option.getD_some, if_pos (by intro e; exact h0 (HQ.out.trans e))]; exact HQ.out.symm) h0
        clear h0
        go_wp2_with fail
        go_ret
        exact ⟨rfl, hbA⟩
    · obtain rfl : k = n := by omega
      obtain rfl : r = 0 := by rw [HV.out]; exact HE
      go_wp2_with fail
      go_ret
      exact ⟨rfl, hb⟩
end Go.Proofs.Ytpodgidamoiakaa
