/-
  Words, laws and contracts: FolioG, FolioH, SpanB, SpanC, SpanS, StepApp, SpanD, SpanE, SpanF, SpanG, SpanH, SpanI, SpanJ.
-/
import Derived.Test.YtlablioefblmkaaBun3
import Derived.LoopN
import Derived.Test.YtlablioefblmkaaSortSpan
import Derived.Deep.RegionLaw
/-
  Folios: the references SumOf, CheckFolio, SameFolio.
-/
namespace Go.Proofs.Ytlablioefblmkaa
open Go.RowKit Go.Shelf

/-- Entries of a kind (0: all). -/
def kindB (k : Int) (x : Int) : Bool := k == 0 || x == k
def sumOfK (l : List Entry) (k : Int) : Int := sumBy (kindB k) l
theorem sumOfK_zero (l : List Entry) : sumOfK l 0 = dueOf l := by unfold sumOfK dueOf; congr 1

theorem Sl.takeTo {α : Type} {c : Cod α} {size : Nat} {w : World} {S : Nat → Prop} {A : Option Addr} {n cap : Nat} {l : List α} (h : Sl c size w S A n cap l) {i : Nat} (hi : i ≤ n) : Sl c size w S A i cap (l.take i) := by
  have := h.len
  have := h.le
  refine ⟨by rw [List.length_take]; omega, by omega, h.max, fun j x hx => ?_⟩
  have hj : j < i := by
    rcases Nat.lt_or_ge j i with h1 | h1
    · exact h1
    · rw [List.getElem?_eq_none (by rw [List.length_take]; omega)] at hx; cases hx
  rw [List.getElem?_take, if_pos hj] at hx
  exact h.rd j x hx

set_option maxHeartbeats 1000000 in
theorem SumOf_any (A : Option Addr) (n cap : Nat) (l : List Entry) (q : Int) (w : World) (h : Sl entryC 3 w All A n cap l) (hs : Small l) :
    Calls Try.prog 42 #[.slice A n cap, .int .i64 q] w fun e w' => e = .returned (.int .i64 (sumOfK l q)) ∧ w = w' := by
  have hbd := h.bd
  go_enter Try.func42, Try.ntmps42
  go_wp2_with fail
  go_loopg [5, 6] n (fun gk s i wr => ∃ k : Nat, k ≤ n ∧ n - k ≤ gk ∧ i = .int .i64 k ∧ s = .int .i64 (sumOfK (l.take k) q) ∧ wr = w)
  case atStart => exact ⟨0, Nat.zero_le _, by omega, rfl, rfl, rfl⟩
  case round =>
    obtain ⟨k, hk, hgk, rfl, rfl, rfl⟩ := hrel
    by_cases hlt : k < n
    · obtain ⟨b, off, x, c0, c1, c2, rfl, hx, ⟨hc, b0, b1, b2⟩, g0, g1, g2⟩ := h.at3 hlt
      simp only [List.cons.injEq, and_true] at hc
      obtain ⟨rfl, rfl, rfl⟩ := hc
      have s1 : -10000000000000 ≤ sumOfK (l.take k) q ∧ sumOfK (l.take k) q ≤ 10000000000000 := hs.take k (kindB q)
      have HS : Hid (sumOfK (l.take (k + 1)) q = sumOfK (l.take k) q + if kindB q x.kind then x.amount else 0) := by
        have := sumBy_snoc (kindB q) (l.take k) x
        rw [← take_snoc hx] at this
        exact this
      have s3 := hs.2 x (List.mem_of_getElem? hx)
      clear hx
      by_cases hq : q = 0
      · subst hq
        go_wp2_with fail
        go_roundg (n - (k + 1))
        case measure => omega
        case rel => exact ⟨k + 1, by omega, by omega, by go_num, by rw [HS.out]; rfl, rfl⟩
      · have hq' : (q == 0) = false := by simpa using hq
        by_cases hkd : x.kind = q
        · have hkd' : (x.kind == q) = true := by simpa using hkd
          have HB : Hid (kindB q x.kind = true) := by show kindB q x.kind = true; unfold kindB; rw [hq', hkd']; rfl
          clear hkd
          go_wp2_with fail
          go_roundg (n - (k + 1))
          case measure => omega
          case rel => exact ⟨k + 1, by omega, by omega, by go_num, by rw [HS.out, HB.out]; rfl, rfl⟩
        · have hkd' : (x.kind == q) = false := by simpa using hkd
          have HB : Hid (kindB q x.kind = false) := by show kindB q x.kind = false; unfold kindB; rw [hq', hkd']; rfl
          clear hkd
          go_wp2_with fail
          go_roundg (n - (k + 1))
          case measure => omega
          case rel => exact ⟨k + 1, by omega, by omega, by go_num, by rw [HS.out, HB.out]; simp, rfl⟩
    · obtain rfl : k = n := by omega
      have HT := Lib.hid (List.take_of_length_le (Nat.le_of_eq h.len))
      go_wp2_with fail
      go_ret
      exact ⟨retI (by rw [HT.out]), rfl⟩

theorem entry_under : Try.prog.underlying 76 = some (.struct (Try.prog.fieldsOf 76)) := by kernel_rfl
theorem entry_stood : Try.prog.stoodInHeld 76 = false := by kernel_rfl
theorem entry_guard : Try.prog.eqGuardType Try.prog.depth 76 = false := by kernel_rfl
theorem neq_entry (a b c d e f : Int) (w : World) : (binOp .neq 76 (.agg #[.int .i64 a, .int .i64 b, .int .i64 c]) (.agg #[.int .i64 d, .int .i64 e, .int .i64 f])).run Try.prog w = .ok (.bool (!(a == d && b == e && c == f))) w := by
  have u3 := Try.underlying3
  have a3 := Try.isAgg3
  have z3 := Try.sizeOf3
  rw [run_neq_struct, run_equalIn_agg (P := Try.prog) w 9999 76 _ _ entry_under entry_stood]
  simp only [Program.fieldsOf, Try.underlying76]
  go_simp
  by_cases h1 : a = d <;> by_cases h2 : b = e <;> by_cases h3 : c = f <;> simp [h1, h2, h3]

theorem entry_ne {x y : Entry} (h : ¬ x = y) : (!(x.day == y.day && x.kind == y.kind && x.amount == y.amount)) = true := by
  rcases x with ⟨a, b, c⟩
  rcases y with ⟨d, e, f⟩
  simp at h ⊢
  omega

end Go.Proofs.Ytlablioefblmkaa
/-
  Folios: the reference CheckFolio.
-/
namespace Go.Proofs.Ytlablioefblmkaa
open Go.RowKit Go.Shelf

theorem entryE_7 {x : Entry} (h : x.kind < 1 ∨ 4 < x.kind) : entryE x = 7 := if_pos h
theorem entryE_3 {x : Entry} (h : ¬ (x.kind < 1 ∨ 4 < x.kind)) (h2 : x.day < 0 ∨ 9999 < x.day ∨ x.amount < -100000000 ∨ 100000000 < x.amount) : entryE x = 3 := by
  unfold entryE; rw [if_neg h, if_pos h2]
theorem entryE_4 {x : Entry} (h : ¬ (x.kind < 1 ∨ 4 < x.kind)) (h2 : ¬ (x.day < 0 ∨ 9999 < x.day ∨ x.amount < -100000000 ∨ 100000000 < x.amount))
    (h3 : x.amount < 0 ∧ (x.kind = 1 ∨ x.kind = 3) ∨ 0 < x.amount ∧ x.kind = 2) : entryE x = 4 := by
  unfold entryE; rw [if_neg h, if_neg h2, if_pos h3]
theorem entryE_0 {x : Entry} (h : ¬ (x.kind < 1 ∨ 4 < x.kind)) (h2 : ¬ (x.day < 0 ∨ 9999 < x.day ∨ x.amount < -100000000 ∨ 100000000 < x.amount))
    (h3 : ¬ (x.amount < 0 ∧ (x.kind = 1 ∨ x.kind = 3) ∨ 0 < x.amount ∧ x.kind = 2)) : entryE x = 0 := by
  unfold entryE; rw [if_neg h, if_neg h2, if_neg h3]

set_option maxRecDepth 100000 in
set_option maxHeartbeats 4000000 in
theorem CheckFolio_any (A : Option Addr) (n cap : Nat) (l : List Entry) (w : World) (h : Sl entryC 3 w All A n cap l) :
    Calls Try.prog 29 #[.slice A n cap] w fun e w' => e = .returned (.int .i64 (checkFolio l)) ∧ Below w.heap.size w w' := by
  have hbd := h.bd
  have hlen := Lib.hid h.len
  by_cases hn : 12 < n
  · have hn' : (12 : Int) < (n : Int) := by omega
    go_enter Try.func29, Try.ntmps29
    go_wp2_with fail
    go_ret
    exact ⟨retI (by unfold checkFolio; rw [hlen.out, if_pos hn]), Below.refl _ _⟩
  · have hn' : ¬ (12 : Int) < (n : Int) := by omega
    go_enter Try.func29, Try.ntmps29
    go_wp2_with fail
    go_loopg [3] n (fun gk i wr => ∃ k : Nat, k ≤ n ∧ n - k ≤ gk ∧ i = .int .i64 k ∧ Aside (firstErr (errAt l) k = 0) ∧ Below w.heap.size w wr)
    case atStart => exact ⟨0, Nat.zero_le _, by omega, rfl, rfl, Below.refl _ _⟩
    case round =>
      obtain ⟨k, hk, hgk, rfl, HE, hb⟩ := hrel
      by_cases hlt : k < n
      · obtain ⟨b, off, x, c0, c1, c2, rfl, hx, ⟨hc, b0, b1, b2⟩, g0, g1, g2⟩ := (h.below entryC_good (by omega) hb).at3 hlt
        simp only [List.cons.injEq, and_true] at hc
        obtain ⟨rfl, rfl, rfl⟩ := hc
        have HX := Lib.hid hx
        have hb1 := hb.alloc hb.size (.cells #[.int .i64 x.day, .int .i64 x.kind, .int .i64 x.amount] 76)
        have fin : ∀ r : Int, errAt l k = r → r ≠ 0 → r = checkFolio l := fun r h1 h2 => by
          unfold checkFolio
          rw [hlen.out, if_neg hn]
          have := firstErr_at (n := n) HE.out (by rw [h1]; exact h2) hlt
          rw [this, h1, if_pos h2]
        have Fin := Lib.hid fin
        have herr : (∀ y, l[k - 1]? = some y → 0 < k → entryE x = 0 → errAt l k = if x.day < y.day then 4 else 0) := fun y hy h0 hr => by
          unfold errAt
          rw [HX.out, Option.getD_some, hr, if_neg (by simp), hy, Option.getD_some]
          by_cases e : x.day < y.day
          · rw [if_pos ⟨h0, e⟩, if_pos e]
          · rw [if_neg (fun h => e h.2), if_neg e]
        have herr0 : k = 0 → entryE x = 0 → errAt l k = 0 := fun h0 hr => by
          unfold errAt
          rw [HX.out, Option.getD_some, hr, if_neg (by simp), if_neg (by omega)]
        have herr1 : entryE x ≠ 0 → errAt l k = entryE x := fun hr => by
          unfold errAt
          rw [HX.out, Option.getD_some, if_pos hr]
        have Herr := Lib.hid herr
        have Herr0 := Lib.hid herr0
        have Herr1 := Lib.hid herr1
        clear fin herr herr0 herr1 hx
        by_cases c1 : x.kind < 1 ∨ 4 < x.kind
        · have HZ := Lib.hid (entryE_7 c1)
          have t1 := betB_false c1
          clear c1
          go_wp2_with (go_at_call 23; refine (between_any _ _ _ _).mono ?_; rintro e w' ⟨rfl, rfl⟩)
          all_goals
            go_ret
            exact ⟨retI (Fin.out 7 ((Herr1.out (by rw [HZ.out]; omega)).trans HZ.out) (by omega)), hb1⟩
        · have t1 : betB x.kind 1 4 = true := betB_true (by omega) (by omega)
          by_cases c2 : x.day < 0 ∨ 9999 < x.day ∨ x.amount < -100000000 ∨ 100000000 < x.amount
          · have HZ := Lib.hid (entryE_3 c1 c2)
            by_cases c2d : x.day < 0 ∨ 9999 < x.day
            · have t2 := betB_false c2d
              clear c1 c2 c2d
              go_wp2_with (go_at_call 23; refine (between_any _ _ _ _).mono ?_; rintro e w' ⟨rfl, rfl⟩)
              all_goals
                go_ret
                exact ⟨retI (Fin.out 3 ((Herr1.out (by rw [HZ.out]; omega)).trans HZ.out) (by omega)), hb1⟩
            · have t2 : betB x.day 0 9999 = true := betB_true (by omega) (by omega)
              have t3 : betB x.amount (-100000000) 100000000 = false := betB_false (by omega)
              clear c1 c2 c2d
              go_wp2_with (go_at_call 23; refine (between_any _ _ _ _).mono ?_; rintro e w' ⟨rfl, rfl⟩)
              all_goals
                go_ret
                exact ⟨retI (Fin.out 3 ((Herr1.out (by rw [HZ.out]; omega)).trans HZ.out) (by omega)), hb1⟩
          · have t2 : betB x.day 0 9999 = true := betB_true (by omega) (by omega)
            have t3 : betB x.amount (-100000000) 100000000 = true := betB_true (by omega) (by omega)
            by_cases c3 : x.amount < 0 ∧ (x.kind = 1 ∨ x.kind = 3) ∨ 0 < x.amount ∧ x.kind = 2
            · have HZ := Lib.hid (entryE_4 c1 c2 c3)
              go_wp2_with (go_at_call 23; refine (between_any _ _ _ _).mono ?_; rintro e w' ⟨rfl, rfl⟩)
              all_goals
                go_ret
                exact ⟨retI (Fin.out 4 ((Herr1.out (by rw [HZ.out]; omega)).trans HZ.out) (by omega)), hb.alloc hb.size _⟩
            · have HZ := Lib.hid (entryE_0 c1 c2 c3)
              rcases k with _ | k
              · simp only [Nat.zero_mul, Nat.add_zero] at g0 g1 g2
                go_wp2_with (go_at_call 23; refine (between_any _ _ _ _).mono ?_; rintro e w' ⟨rfl, rfl⟩)
                all_goals
                  go_quiet (fail)
                  go_wp2_with fail
                  go_roundg (n - 1)
                  case measure => omega
                  case rel => exact ⟨1, by omega, by omega, rfl, (show Aside _ from (firstErr_succ HE.out).trans (Herr0.out (by trivial) HZ.out)), below_drewN (hb.alloc hb.size _) _⟩
              · obtain ⟨b2, off2, y, d0, d1, d2, hA2, hy, ⟨hc2, y0, y1, y2⟩, e0, e1, e2⟩ := (h.below entryC_good (by omega) hb).at3 (show k < n by omega)
                injection hA2 with hA2
                injection hA2 with hb2 ho2 _
                subst hb2 ho2
                simp only [List.cons.injEq, and_true] at hc2
                obtain ⟨rfl, rfl, rfl⟩ := hc2
                have Hy := Lib.hid hy
                have hblt : b < wr.heap.size := cell_lt e0
                clear hy e1 e2
                have hw : IntKind.i64.wrap (k : Int) = k := IntWalk.i64_in _ (by omega)
                have hgt : decide ((0 : Int) < (k : Int) + 1) = true := decide_eq_true (by omega)
                by_cases hd : x.day < y.day
                · go_wp2_with (go_at_call 23; refine (between_any _ _ _ _).mono ?_; rintro e w' ⟨rfl, rfl⟩)
                  all_goals
                    go_quiet (fail)
                    go_wp2_with fail
                    go_ret
                    exact ⟨retI (Fin.out 4 (by rw [Herr.out y (by simpa using Hy.out) (by omega) HZ.out, if_pos hd]) (by omega)), below_drewN (hb.alloc hb.size _) _⟩
                · go_wp2_with (go_at_call 23; refine (between_any _ _ _ _).mono ?_; rintro e w' ⟨rfl, rfl⟩)
                  all_goals
                    go_quiet (fail)
                    go_wp2_with fail
                    go_roundg (n - (k + 1 + 1))
                    case measure => omega
                    case rel => exact ⟨k + 1 + 1, by omega, by omega, by go_num, (show Aside _ from (firstErr_succ HE.out).trans (by rw [Herr.out y (by simpa using Hy.out) (by omega) HZ.out, if_neg (by omega)])), below_drewN (hb.alloc hb.size _) _⟩
      · obtain rfl : k = n := by omega
        have hsm := small_of_check (l := l) (by rw [hlen.out]; omega) (by rw [hlen.out]; exact HE.out)
        have hcap := h.le
        go_wp2_with fail
        go_loopg [5] k (fun gk i wr => ∃ j : Nat, j ≤ k ∧ k - j ≤ gk ∧ i = .int .i64 ((j : Int) + 1) ∧ Aside (firstErr (sumErr l) j = 0) ∧ Below w.heap.size w wr)
        case atStart => exact ⟨0, Nat.zero_le _, by omega, rfl, rfl, hb⟩
        case round =>
          obtain ⟨j, hj, hgj, rfl, HJ, hbj⟩ := hrel
          by_cases hlt2 : j < k
          · obtain ⟨b, off, x, c0, c1, c2, rfl, hx, ⟨hc, b0, b1, b2⟩, g0, g1, g2⟩ := h.at3 hlt2
            clear hc b0 b1 b2 g0 g1 g2 hx
            have hbound : j + 1 ≤ cap := by omega
            have htk := (h.below entryC_good (by omega) hbj).takeTo (i := j + 1) (by omega)
            have hsmt : Small (l.take (j + 1)) := ⟨by rw [List.length_take]; have := hsm.1; omega, fun y hy => hsm.2 y (List.mem_of_mem_take hy)⟩
            go_wp2_with fail
            refine (SumOf_any _ _ _ (l.take (j + 1)) 0 _ htk hsmt).mono ?_
            rintro e w1 ⟨rfl, rfl⟩
            have hbt := between_any (sumOfK (l.take (j + 1)) 0) (-100000000) 100000000 wr
            have hse : sumErr l j = if betB (sumOfK (l.take (j + 1)) 0) (-100000000) 100000000 then 0 else 3 := by unfold sumErr; rw [sumOfK_zero]; rfl
            generalize betB (sumOfK (l.take (j + 1)) 0) (-100000000) 100000000 = bb at *
            have HB := Lib.hid hbt
            have HSE := Lib.hid hse
            clear hbt hse
            cases bb
            · go_wp2_with (go_at_call 23; refine HB.out.mono ?_; rintro e w' ⟨rfl, rfl⟩)
              go_ret
              exact ⟨retI (by rw [checkFolio_sums (by rw [hlen.out]; exact hn) (by rw [hlen.out]; exact HE.out), hlen.out, firstErr_at HJ.out (by rw [HSE.out]; decide) hlt2, HSE.out]; rfl), hbj⟩
            · go_wp2_with (go_at_call 23; refine HB.out.mono ?_; rintro e w' ⟨rfl, rfl⟩)
              go_roundg (k - (j + 1))
              case measure => omega
              case rel => exact ⟨j + 1, by omega, by omega, by go_num, (show Aside _ from (firstErr_succ HJ.out).trans HSE.out), hbj⟩
          · obtain rfl : j = k := by omega
            have hge : ¬ ((j : Int) + 1 ≤ (j : Int)) := by omega
            go_wp2_with fail
            go_ret
            exact ⟨retI (by rw [checkFolio_sums (by rw [hlen.out]; exact hn) (by rw [hlen.out]; exact HE.out), hlen.out, HJ.out]), hbj⟩
end Go.Proofs.Ytlablioefblmkaa
/-
  Spans: Meet, Meets, calendar, ready, Gaps, Free.
-/
namespace Go.Proofs.Ytlablioefblmkaa
open Go.RowKit Go.Shelf

instance spanK : CodK spanC 2 := ⟨spanC_good, by omega⟩
theorem span_elem : ElemOf Try.prog 32 27 2 16 := .mk' Try.underlying32 (z := .agg #[.int .i64 0, .int .i64 0]) (by kernel_rfl) rfl (by omega)
theorem sl_span (w : World) (S : Nat → Prop) (a b : Int) (t : TypeId) (ha : InI a) (hb : InI b) (hS : S w.heap.size) : Sl spanC 2 (w.alloc (.cells #[.int .i64 a, .int .i64 b] t)) S (some ⟨w.heap.size, 0, none⟩) 1 1 [⟨a, b⟩] :=
  Sl.lit1 w S t (⟨a, b⟩ : Span) [.int .i64 a, .int .i64 b] ⟨rfl, ha, hb⟩ hS

/-- Have two spans a leg in common? -/
def meetB (a b : Span) : Bool := decide (a.frm < b.upto) && decide (b.frm < a.upto)
theorem Meet_any (a b c d : Int) (w : World) : Calls Try.prog 39 #[.agg #[.int .i64 a, .int .i64 b], .agg #[.int .i64 c, .int .i64 d]] w fun e w' => e = .returned (.bool (meetB ⟨a, b⟩ ⟨c, d⟩)) ∧ Below w.heap.size w w' := by
  by_cases h1 : a < d
  · by_cases h2 : c < b
    · have HM := Lib.hid (show meetB ⟨a, b⟩ ⟨c, d⟩ = true by simp [meetB, h1, h2])
      go_enter Try.func39, Try.ntmps39
      go_wp2_with fail
      go_ret
      exact ⟨retB (by rw [HM.out]), bel2 _ _ _⟩
    · have HM := Lib.hid (show meetB ⟨a, b⟩ ⟨c, d⟩ = false by simp [meetB]; omega)
      go_enter Try.func39, Try.ntmps39
      go_wp2_with fail
      go_ret
      exact ⟨retB (by rw [HM.out]), bel2 _ _ _⟩
  · have HM := Lib.hid (show meetB ⟨a, b⟩ ⟨c, d⟩ = false by simp [meetB]; omega)
    go_enter Try.func39, Try.ntmps39
    go_wp2_with fail
    go_ret
    exact ⟨retB (by rw [HM.out]), bel2 _ _ _⟩

/-- What is wrong with two spans of any voyage. -/
def meetsE (a b : Span) : Int := if spanE a 7 ≠ 0 then spanE a 7 else spanE b 7

/-- What is wrong with a calendar. -/
def calErr (l : List Span) (legs : Int) (i : Nat) : Int :=
  if spanE (l[i]?.getD default) legs ≠ 0 then spanE (l[i]?.getD default) legs else if 0 < i ∧ (l[i]?.getD default).frm < (l[i - 1]?.getD default).upto then 4 else 0
def calE (l : List Span) (legs : Int) : Int := if legsB legs = false then 3 else firstErr (calErr l legs) l.length

def readySpE (l : List Span) (legs : Int) (s : Span) : Int := if calE l legs ≠ 0 then calE l legs else spanE s legs
end Go.Proofs.Ytlablioefblmkaa
/-
  Spans: what a right calendar is; Gaps, Free.
-/
namespace Go.Proofs.Ytlablioefblmkaa
open Go.RowKit Go.Shelf

theorem firstErr_none {f : Nat → Int} : ∀ {n : Nat}, firstErr f n = 0 → ∀ i, i < n → f i = 0 := by
  intro n
  induction n with
  | zero => intro _ i hi; omega
  | succ n ih =>
    intro h i hi
    simp only [firstErr] at h
    by_cases e : firstErr f n = 0
    · rw [if_pos e] at h
      by_cases e2 : i = n
      · rw [e2]; exact h
      · exact ih e i (by omega)
    · rw [if_neg e] at h; exact absurd h e
theorem firstErr_all {f : Nat → Int} {n : Nat} (h : ∀ i, i < n → f i = 0) : firstErr f n = 0 := by
  induction n with
  | zero => rfl
  | succ n ih => rw [firstErr_succ (ih fun i hi => h i (by omega))]; exact h n (by omega)

theorem span_ok {s : Span} {legs : Int} (h : spanE s legs = 0) : 1 ≤ legs ∧ legs ≤ 7 ∧ 0 ≤ s.frm ∧ s.frm < s.upto ∧ s.upto ≤ legs := by
  unfold spanE at h
  by_cases e : legsB legs = false ∨ s.frm < 0 ∨ legs < s.upto
  · rw [if_pos e] at h; omega
  · rw [if_neg e] at h
    by_cases e2 : s.upto ≤ s.frm
    · rw [if_pos e2] at h; omega
    · have hl : betB legs 1 7 = true := by
        cases q : betB legs 1 7 with
        | true => rfl
        | false => exact absurd (.inl q) e
      have := betB_iff.1 hl
      omega
theorem span_zero {s : Span} {legs : Int} (h0 : 1 ≤ legs) (h1 : legs ≤ 7) (h2 : 0 ≤ s.frm) (h3 : s.frm < s.upto) (h4 : s.upto ≤ legs) : spanE s legs = 0 := by
  unfold spanE
  rw [if_neg (by rw [show legsB legs = true from betB_true h0 h1]; simp; omega), if_neg (by omega)]

/-- What is so of a calendar that is right. -/
structure CalOk (l : List Span) (legs : Int) : Prop where
  lo : 1 ≤ legs
  hi : legs ≤ 7
  el : ∀ (i : Nat) (x : Span), l[i]? = some x → 0 ≤ x.frm ∧ x.frm < x.upto ∧ x.upto ≤ legs
  ord : ∀ (i : Nat) (x y : Span), l[i]? = some x → l[i + 1]? = some y → x.upto ≤ y.frm
theorem cal_ok {l : List Span} {legs : Int} (h : calE l legs = 0) : CalOk l legs := by
  unfold calE at h
  cases q : legsB legs with
  | false => rw [if_pos q] at h; omega
  | true =>
    rw [if_neg (by simp [q])] at h
    have hall := firstErr_none h
    have hl := betB_iff.1 q
    have one : ∀ (i : Nat) (x : Span), l[i]? = some x → spanE x legs = 0 ∧ ¬ (0 < i ∧ x.frm < (l[i - 1]?.getD default).upto) := fun i x hx => by
      have hi := hall i (List.getElem?_eq_some_iff.1 hx).1
      unfold calErr at hi
      rw [hx, Option.getD_some] at hi
      by_cases e1 : spanE x legs = 0
      · rw [if_neg (by simp [e1])] at hi
        refine ⟨e1, fun e2 => ?_⟩
        rw [if_pos e2] at hi; omega
      · rw [if_pos e1] at hi; exact absurd hi e1
    refine ⟨hl.1, hl.2, fun i x hx => ?_, fun i x y hx hy => ?_⟩
    · have := span_ok (one i x hx).1; omega
    · have := (one _ y hy).2
      rw [show i + 1 - 1 = i by omega, hx, Option.getD_some] at this
      omega
theorem cal_zero {l : List Span} {legs : Int} (h : CalOk l legs) : calE l legs = 0 := by
  unfold calE
  rw [if_neg (by rw [show legsB legs = true from betB_true h.lo h.hi]; simp)]
  refine firstErr_all fun i hi => ?_
  unfold calErr
  have hx : l[i]? = some l[i] := List.getElem?_eq_getElem hi
  have h1 := h.el i _ hx
  rw [hx, Option.getD_some, if_neg (by rw [span_zero h.lo h.hi h1.1 h1.2.1 h1.2.2]; simp), if_neg]
  rintro ⟨h0, h2⟩
  have hy : l[i - 1]? = some l[i - 1] := List.getElem?_eq_getElem (by omega)
  rw [hy, Option.getD_some] at h2
  have := h.ord (i - 1) _ _ hy (by rw [show i - 1 + 1 = i by omega]; exact hx)
  omega
theorem CalOk.ge {l : List Span} {legs : Int} (h : CalOk l legs) : ∀ (i : Nat) (x : Span), l[i]? = some x → (i : Int) + 1 ≤ x.upto := by
  intro i
  induction i with
  | zero => intro x hx; have := h.el 0 x hx; omega
  | succ i ih =>
    intro y hy
    have hi : i < l.length := by have := (List.getElem?_eq_some_iff.1 hy).1; omega
    have h1 := ih _ (List.getElem?_eq_getElem hi)
    have h2 := h.ord i _ y (List.getElem?_eq_getElem hi) hy
    have h3 := h.el _ y hy
    omega
theorem CalOk.len {l : List Span} {legs : Int} (h : CalOk l legs) : (l.length : Int) ≤ legs := by
  rcases Nat.eq_zero_or_pos l.length with e | e
  · have := h.lo; omega
  · have h1 := h.ge (l.length - 1) _ (List.getElem?_eq_getElem (by omega))
    have h2 := h.el (l.length - 1) _ (List.getElem?_eq_getElem (by omega))
    omega
/-- Of two spans of a right calendar the later one begins where the other ends, or behind it. -/
theorem CalOk.apart {l : List Span} {legs : Int} (h : CalOk l legs) : ∀ {i j : Nat} {x y : Span}, i < j → l[i]? = some x → l[j]? = some y → x.upto ≤ y.frm := by
  intro i j x y hij
  induction j generalizing y with
  | zero => omega
  | succ j ih =>
    intro hx hy
    by_cases e : i = j
    · subst e; exact h.ord _ x y hx hy
    · have hj : j < l.length := by have := (List.getElem?_eq_some_iff.1 hy).1; omega
      have h1 := ih (y := l[j]) (by omega) hx (List.getElem?_eq_getElem hj)
      have h2 := h.ord j _ y (List.getElem?_eq_getElem hj) hy
      have h3 := h.el j _ (List.getElem?_eq_getElem hj)
      omega

/-- What is free between two ends. -/
def gap (a b : Int) : List Span := if a < b then [⟨a, b⟩] else []
def gapF (acc : List Span × Int) (s : Span) : List Span × Int := (acc.1 ++ gap acc.2 s.frm, s.upto)
def gapsS (l : List Span) : List Span × Int := l.foldl gapF ([], 0)
/-- What is free. -/
def gapsL (l : List Span) (legs : Int) : List Span := (gapsS l).1 ++ gap (gapsS l).2 legs
theorem gapsS_snoc (l : List Span) (x : Span) : gapsS (l ++ [x]) = gapF (gapsS l) x := by simp [gapsS]
theorem gap_len (a b : Int) : (gap a b).length ≤ 1 := by unfold gap; split <;> simp
theorem gapsS_len (l : List Span) : (gapsS l).1.length ≤ l.length := by
  have key : ∀ (l : List Span) (acc : List Span × Int), (l.foldl gapF acc).1.length ≤ acc.1.length + l.length := by
    intro l
    induction l with
    | nil => intro acc; simp
    | cons x l ih =>
      intro acc
      rw [List.foldl_cons]
      have h1 := ih (gapF acc x)
      have h2 := gap_len acc.2 x.frm
      simp only [gapF, List.length_append, List.length_cons] at h1 ⊢
      omega
  have := key l ([], 0)
  simpa [gapsS] using this
theorem gapsS_in {l : List Span} (h : ∀ x ∈ l, InI x.upto) : InI (gapsS l).2 := by
  rcases List.eq_nil_or_concat l with rfl | ⟨l', x, rfl⟩
  · exact .of (by decide) (by decide)
  · rw [List.concat_eq_append, gapsS_snoc]; exact h x (by simp)

/-- 'out' and 'at' between two calls of 'gap'. -/
structure Gapw (w : World) (O D : Nat) (t : Int) (l : List Span) (W : World) (A : Option Addr) (n cap : Nat) (xs : List Value) : Prop where
  o : W.heap[O]? = some (.cells #[.slice A n cap] 32 (0, 0))
  d : W.heap[D]? = some (.cells #[.int .i64 t] 3 (0, 0))
  own : Own spanC 2 27 W w.heap.size (.slice A n cap) l xs
  ne : (Value.slice A n cap).ownBlock ≠ some O
  neD : (Value.slice A n cap).ownBlock ≠ some D
  od : O ≠ D
  b : Below w.heap.size w W
  le : w.heap.size ≤ O
  leD : w.heap.size ≤ D
  len : l.length ≤ 10000

def Gapped (w : World) (O D : Nat) (t : Int) (l : List Span) (W : World) (r : Option Nat) (W' : World) : Prop :=
  ∃ A n cap xs, Gapw w O D t l W' A n cap xs ∧ ∀ k, k < W.heap.size → k ≠ O → some k ≠ r → W'.heap[k]? = W.heap[k]?
theorem gapw_below {w W W' : World} {O D : Nat} {t : Int} {l : List Span} {A : Option Addr} {n cap : Nat} {xs : List Value} (h : Gapw w O D t l W A n cap xs) (hb : Below W.heap.size W W') : Gapw w O D t l W' A n cap xs :=
  ⟨(hb.block _ (lt_of_block h.o)).trans h.o, (hb.block _ (lt_of_block h.d)).trans h.d, h.own.bel hb, h.ne, h.neD, h.od, h.b.trans (hb.mono h.b.size), h.le, h.leD, h.len⟩

end Go.Proofs.Ytlablioefblmkaa
/-
  Spans: slices.SortFunc as span.Add calls it, by the shelf's contract: an own row is sorted in place.
-/
namespace Go.Proofs.Ytlablioefblmkaa
open Go.RowKit Go.Shelf Go.Lib
open Go.Sort hiding Below

def encSp (x : Span) : List Value := [.int .i64 x.frm, .int .i64 x.upto]
/-- Spans whose ends may be taken one from another. -/
abbrev SmSpan := { x : Span // -1000 ≤ x.frm ∧ x.frm ≤ 1000 }
instance : Inhabited SmSpan := ⟨⟨⟨0, 0⟩, by decide, by decide⟩⟩
def encSm (x : SmSpan) : List Value := encSp x.1
def cmpSm (x y : SmSpan) : Int := x.1.frm - y.1.frm
theorem swoSm : Go.Sort.SWO (ltOf cmpSm) := ⟨fun x => by simp [ltOf, cmpSm], fun x y z h1 h2 => by
  have h1 : cmpSm x y < 0 := of_decide_eq_true h1
  have h2 : cmpSm y z < 0 := of_decide_eq_true h2
  refine decide_eq_true ?_
  unfold cmpSm at *
  omega, fun x y z h1 h2 => by
  have h1 : ¬ cmpSm x y < 0 := of_decide_eq_false h1
  have h2 : ¬ cmpSm y z < 0 := of_decide_eq_false h2
  refine decide_eq_false ?_
  unfold cmpSm at *
  omega⟩
theorem lenAny (n : Nat) (W : World) (h : n ≤ 12) : Calls Try.prog 57 #[.int .u64 n] W fun e w' => (∃ l : Int, e = .returned (.int .i64 l)) ∧ w' = W :=
  (Any.bits_Len Try.bitsLen n W (by omega) (by omega)).mono fun _ _ ⟨he, hw⟩ => ⟨⟨_, he⟩, hw⟩

section
variable {α : Type} [Inhabited α] {enc : α → List Value} {k : Nat} {w : World} {blk n j : Nat} {d' : Array α} {os : Array Obj}
theorem sortWorld_old (hj : j < w.heap.size) (hne : j ≠ blk) : (sortWorldK enc k w blk 0 n d' os).heap[j]? = w.heap[j]? := by
  have h1 : (w.heap.modify blk (Go.Sort.onCells (Go.Sort.putCells id 0 (flatK enc k d')))).size = w.heap.size := by simp
  unfold sortWorldK Go.Sort.grow putRowK Go.Sort.putRow Go.Sort.mapBlock Go.Sort.ahead
  simp only
  rw [Array.getElem?_append_left (by rw [h1]; exact hj), Array.getElem?_modify, if_neg (fun e => hne e.symm)]
theorem sortWorld_at {cur : Array Value} {e : TypeId} (h : w.heap[blk]? = some (.cells cur e (0, 0))) : (sortWorldK enc k w blk 0 n d' os).heap[blk]? = some (.cells (Go.Sort.putCells id 0 (flatK enc k d') cur) e (0, 0)) := by
  have h1 : (w.heap.modify blk (Go.Sort.onCells (Go.Sort.putCells id 0 (flatK enc k d')))).size = w.heap.size := by simp
  unfold sortWorldK Go.Sort.grow putRowK Go.Sort.putRow Go.Sort.mapBlock Go.Sort.ahead
  simp only
  rw [Array.getElem?_append_left (by rw [h1]; exact (Array.getElem?_eq_some_iff.1 h).1), Array.getElem?_modify, if_pos rfl, h]
  rfl
theorem sortWorld_size : w.heap.size ≤ (sortWorldK enc k w blk 0 n d' os).heap.size := by
  unfold sortWorldK Go.Sort.grow putRowK Go.Sort.putRow Go.Sort.mapBlock Go.Sort.ahead
  simp
theorem sortWorld_kept : Kept (fun j => j = blk) w (sortWorldK enc k w blk 0 n d' os) := ⟨rfl, rfl, rfl, sortWorld_size, fun _ hj hS => sortWorld_old hj hS⟩
end

theorem flat_at (d : Array SmSpan) (i j : Nat) (hi : i < d.size) (hj : j < 2) : (flatK encSm 2 d)[i * 2 + j]! = (encSm d[i]!)[j]! := by
  rw [get_flatK _ _ _ _ (by omega), show (i * 2 + j) / 2 = i by omega, show (i * 2 + j) % 2 = j by omega]

end Go.Proofs.Ytlablioefblmkaa
/-
  Append as one step of a region that draws its order; 'append(append([]T{}, l...), x)'.
-/
namespace Go.Proofs.Ytlablioefblmkaa
open Go.RowKit

section
variable {P : Program} {α : Type} {c : Cod α} {size bytes : Nat} {t e : TypeId} {w : World} {base : Nat} {v : Value} {l : List α} {xs : List Value}

theorem step_app {ops : Array Oper} {o : Oper} {a : Act} {K : Act → World → Prop} {Q : Exit → Act → World → Prop} {E : Prop} (hgd : o.guard = none) (s x : Operand)
    (ho : o.op = .call { callee := .builtin .append, args := #[s, x], argTypes := #[t, t] })
    (he : ElemOf P t e size bytes) (hg : Good c) {A : Option Addr} {m cap : Nat} {S : Nat → Prop} {l2 : List α} (hs : a.eval s = v) (hx : a.eval x = .slice A m cap) (hown : Own c size e w base v l xs) (hsl : Sl c size w S A m cap l2)
    (hS : ∀ x cs, c w S x cs → c w (Beside base v) x cs) (hbytes : (l.length + m) * bytes ≤ 140737488355328) (hb1 : 1 ≤ bytes) (hbase : base ≤ w.heap.size)
    (h : ∀ v' w' xs', Own c size e w' base v' (l ++ l2) xs' → w.grownBy w' v.ownBlock → (v'.ownBlock = v.ownBlock ∨ v'.ownBlock = some w.heap.size) → K (a.put o.dst v') w') :
    if Region.wanted o (yielded ops a.tmps) = true then Oper.wp P o a w K Q else E := by
  have hw : Region.wanted o (yielded ops a.tmps) = true := by simp [Region.wanted, hgd]
  rw [if_pos hw]
  exact wp_app s x ho he hg hs hown hx hsl hS hbytes hb1 hbase h

/-- An empty literal's block. -/
theorem Own.empty (c : Cod α) (size : Nat) {g : Nat} (hb : base ≤ g) (hg : w.heap[g]? = some (.cells #[] e (0, 0))) : Own c size e w base (.slice (some ⟨g, 0, none⟩) 0 0) [] [] :=
  ⟨⟨by simp, .inr ⟨g, 0, #[], rfl, hb, hg, Nat.le_refl _, by simp [maxLen], by simp, by simp⟩⟩, fun i x h => by simp at h⟩
end
end Go.Proofs.Ytlablioefblmkaa
/-
  Spans: span.Add.
-/
namespace Go.Proofs.Ytlablioefblmkaa
open Go.RowKit Go.Shelf

/-- What is wrong with an adding. -/
def spAddE (l : List Span) (legs : Int) (s : Span) : Int := if readySpE l legs s ≠ 0 then readySpE l legs s else if l.any (fun x => meetB x s) then 6 else 0
theorem readySp_ok {l : List Span} {legs : Int} {s : Span} (h : readySpE l legs s = 0) : CalOk l legs ∧ spanE s legs = 0 := by
  unfold readySpE at h
  by_cases h1 : calE l legs ≠ 0
  · rw [if_pos h1] at h; exact absurd h h1
  · rw [if_neg h1] at h; exact ⟨cal_ok (by omega), h⟩

theorem sl_heap2 {w : World} {b : Nat} {x y : Int} {t : TypeId} (h : Blk w b #[.int .i64 x, .int .i64 y] t) (hx : InI x) (hy : InI y) : Sl spanC 2 w All (some ⟨b, 0, none⟩) 1 1 [⟨x, y⟩] :=
  Sl.ofBlk h [(⟨x, y⟩ : Span)] (by simp) trivial fun i z hz => by
    rcases i with _ | i
    · simp at hz; subst hz
      exact ⟨[.int .i64 x, .int .i64 y], ⟨rfl, hx, hy⟩, rfl, fun j u hu => by rcases j with _ | _ | j <;> simp_all⟩
    · simp at hz
end Go.Proofs.Ytlablioefblmkaa
/-
  Spans: slices.Index, slices.Delete; span.Take.
-/
namespace Go.Proofs.Ytlablioefblmkaa
open Go.RowKit Go.Shelf

def spanQ (x y : Span) : Bool := decide (x = y)
set_option maxRecDepth 100000 in
theorem span_eq (x y : Span) (W : World) : (binOp .eql 27 (.agg #[.int .i64 x.frm, .int .i64 x.upto]) (.agg #[.int .i64 y.frm, .int .i64 y.upto])).run Try.prog W = .ok (.bool (spanQ x y)) W := by
  unfold spanQ
  obtain ⟨a, b⟩ := x
  obtain ⟨c, d⟩ := y
  simp only [Span.mk.injEq]
  go_simp
  repeat' split
  all_goals simp_all

theorem span_info : ∃ j, Try.prog.info? 27 = some j ∧ j.size = 2 := by
  have hi : (Try.prog.info? 27).isSome = true := by kernel_rfl
  have hz : ((Try.prog.info? 27).map fun j => j.size) = some 2 := by kernel_rfl
  obtain ⟨j, hj⟩ := Option.isSome_iff_exists.1 hi
  rw [hj] at hz
  exact ⟨j, hj, by simpa using hz⟩
theorem take_set_cons {α : Type} (cur : List α) (o : Nat) (v : α) (vs : List α) (h : o + (vs.length + 1) ≤ cur.length) : (cur.set o v).take (o + 1) ++ vs ++ (cur.set o v).drop (o + 1 + vs.length) = cur.take o ++ (v :: vs) ++ cur.drop (o + (vs.length + 1)) := by
  have h1 : (cur.set o v).take (o + 1) = cur.take o ++ [v] := by
    rw [List.take_add_one, List.getElem?_set_self (by omega), List.take_set, List.set_eq_of_length_le (by rw [List.length_take]; omega)]
    rfl
  have h2 : (cur.set o v).drop (o + 1 + vs.length) = cur.drop (o + (vs.length + 1)) := by
    rw [List.drop_set, if_pos (by omega), show o + 1 + vs.length = o + (vs.length + 1) by omega]
  rw [h1, h2]; simp
theorem heap_setCells {g : Nat} {e : TypeId} {fz : Nat × Nat} : ∀ (vs : List Value) (o : Nat) (w : World) (cur : List Value), w.heap[g]? = some (.cells cur.toArray e fz) → o + vs.length ≤ cur.length →
    (w.setCells g o vs).heap[g]? = some (.cells (cur.take o ++ vs ++ cur.drop (o + vs.length)).toArray e fz) := by
  intro vs
  induction vs with
  | nil => intro o w cur h _; simp only [World.setCells, List.length_nil, Nat.add_zero, List.append_nil, List.take_append_drop]; exact h
  | cons v vs ih =>
    intro o w cur h hl
    rw [List.length_cons] at hl
    have h1 : (w.setCell ⟨g, o, none⟩ v).heap[g]? = some (.cells (cur.set o v).toArray e fz) := by
      simp only [World.setCell, Array.getElem?_modify, if_true]
      rw [h]
      simp
    rw [World.setCells, ih (o + 1) _ _ h1 (by rw [List.length_set]; omega), take_set_cons cur o v vs hl, List.length_cons]
theorem Kept.setCells {S : Nat → Prop} {g : Nat} (hg : S g) : ∀ (vs : List Value) (o : Nat) {a w : World}, Kept S a w → Kept S a (w.setCells g o vs) := by
  intro vs
  induction vs with
  | nil => intro o a w h; exact h
  | cons v vs ih => intro o a w h; exact ih (o + 1) (h.setCell (p := ⟨g, o, none⟩) (.inl hg) v)
theorem flat_sp (l : List Span) : ∀ i x, l[i]? = some x → ∀ j u, (encSp x)[j]? = some u → (l.flatMap encSp)[i * 2 + j]? = some u := by
  induction l with
  | nil => intro i x h; simp at h
  | cons y l ih =>
    intro i x h j u hu
    have hj : j < 2 := (List.getElem?_eq_some_iff.1 hu).1
    have hf : ∀ x, (encSp x).length = 2 := fun _ => rfl
    rw [List.flatMap_cons]
    cases i with
    | zero =>
      simp at h; subst h
      rw [List.getElem?_append_left (by rw [hf]; omega)]; simpa using hu
    | succ i =>
      rw [List.getElem?_append_right (by rw [hf]; omega), hf, show (i + 1) * 2 + j - 2 = i * 2 + j by omega]
      exact ih i x (by simpa using h) j u hu
theorem flat_sp_len (l : List Span) : (l.flatMap encSp).length = l.length * 2 := by
  induction l with
  | nil => rfl
  | cons y l ih => rw [List.flatMap_cons, List.length_append, ih, List.length_cons]; show 2 + _ = _; omega
theorem Own.spans {w : World} {base g n cap : Nat} {l : List Span} {xs : List Value} (h : Own spanC 2 27 w base (.slice (some ⟨g, 0, none⟩) n cap) l xs) :
    n = l.length ∧ base ≤ g ∧ l.length ≤ cap ∧ cap ≤ maxLen ∧ (∃ cur, w.heap[g]? = some (.cells cur 27 (0, 0)) ∧ cur.size = cap * 2 ∧ cur.toList.take (l.length * 2) = l.flatMap encSp) ∧ ∀ x ∈ l, InI x.frm ∧ InI x.upto := by
  have hxs : xs = l.flatMap encSp := by
    refine List.ext_getElem? fun q => ?_
    by_cases hq : q < l.length * 2
    · have hi : q / 2 < l.length := by omega
      obtain ⟨cs, ⟨rfl, _⟩, _, hcell⟩ := h.el (q / 2) _ (List.getElem?_eq_getElem hi)
      have hu : (encSp l[q / 2])[q % 2]? = some ((encSp l[q / 2])[q % 2]'(by show q % 2 < 2; omega)) := List.getElem?_eq_getElem _
      have h1 := hcell (q % 2) _ hu
      have h2 := flat_sp l (q / 2) _ (List.getElem?_eq_getElem hi) (q % 2) _ hu
      rw [show q / 2 * 2 + q % 2 = q by omega] at h1 h2
      rw [h1, h2]
    · have := h.row.1
      rw [List.getElem?_eq_none (by omega), List.getElem?_eq_none (by rw [flat_sp_len]; omega)]
  have hin : ∀ x ∈ l, InI x.frm ∧ InI x.upto := fun x hx => by
    obtain ⟨i, hi⟩ := List.getElem?_of_mem hx
    obtain ⟨_, hcc, _⟩ := h.el i x hi
    exact hcc.2
  rcases h.row.2 with ⟨hv, _⟩ | ⟨g', cap', cur, hv, hb, hg, hnc, hcm, hcs, ht⟩
  · cases hv
  · simp only [Value.slice.injEq, Option.some.injEq, Addr.mk.injEq, and_true] at hv
    obtain ⟨rfl, rfl, rfl⟩ := hv
    exact ⟨rfl, hb, hnc, hcm, ⟨cur, hg, hcs, by rw [ht, hxs]⟩, hin⟩
theorem Own.ofSpans {w : World} {base g cap : Nat} {l : List Span} {cur : Array Value} (hb : base ≤ g) (hle : l.length ≤ cap) (hm : cap ≤ maxLen) (hg : w.heap[g]? = some (.cells cur 27 (0, 0))) (hs : cur.size = cap * 2)
    (ht : cur.toList.take (l.length * 2) = l.flatMap encSp) (hi : ∀ x ∈ l, InI x.frm ∧ InI x.upto) : Own spanC 2 27 w base (.slice (some ⟨g, 0, none⟩) l.length cap) l (l.flatMap encSp) :=
  ⟨⟨flat_sp_len l, .inr ⟨g, cap, cur, rfl, hb, hg, hle, hm, hs, ht⟩⟩, fun i x hx => ⟨encSp x, ⟨rfl, hi x (List.mem_of_getElem? hx)⟩, rfl, fun j u hu => flat_sp l i x hx j u hu⟩⟩

theorem run_clear1 {w : World} {b o c : Nat} (hc : ∀ j, j < 2 → (w.cell? ⟨b, o + j, none⟩).isSome = true) (hf : ∀ j, j < 2 → w.frozen? ⟨b, o + j, none⟩ = false) (ty : TypeId) :
    (Builtin.clear_ #[32] ty #[.slice (some ⟨b, o, none⟩) 1 c]).run Try.prog w = .ok (.tuple #[]) (w.setCells b o [.int .i64 0, .int .i64 0]) := by
  have hst := run_storeCells_cells (P := Try.prog) b o [.int .i64 0, .int .i64 0] 0 w (by simpa using hc) (by simpa using hf) (by intro v hv; simp at hv; subst hv; rfl)
  simp only [Nat.add_zero] at hst
  have hz : (Builtin.zeroCells (Value.agg #[.int .i64 0, .int .i64 0]).cells 1).toList = [.int .i64 0, .int .i64 0] := by kernel_rfl
  simp [Builtin.clear_, run_underlying Try.underlying32, Try.zeroValue27]
  rw [hz, hst]
  rfl

end Go.Proofs.Ytlablioefblmkaa
/-
  Spans: span.Take.
-/
namespace Go.Proofs.Ytlablioefblmkaa
open Go.RowKit Go.Shelf

/-- A list without its first element that is s. -/
def delSp (l : List Span) (s : Span) : List Span := l.take (l.findIdx (spanQ s)) ++ l.drop (l.findIdx (spanQ s) + 1)
def takeE (l : List Span) (legs : Int) (s : Span) : Int := if readySpE l legs s ≠ 0 then readySpE l legs s else if l.any (spanQ s) then 0 else 5

end Go.Proofs.Ytlablioefblmkaa
/-
  Spans: plain laws on calendars: what is added lies in its place; what is added is taken again.
-/
namespace Go.Proofs.Ytlablioefblmkaa
open Go.RowKit Go.Shelf

/-- A calendar with a span more. -/
def insSp (s : Span) : List Span → List Span
  | [] => [s]
  | x :: l => if s.frm < x.frm then s :: x :: l else x :: insSp s l
theorem ins_perm (s : Span) (l : List Span) : (insSp s l).Perm (l ++ [s]) := by
  induction l with
  | nil => exact List.Perm.refl _
  | cons x l ih =>
    unfold insSp
    split
    · exact (List.perm_append_singleton s (x :: l)).symm
    · exact ih.cons x
theorem sorted_unique {l m : List Span} (hp : l.Perm m) (hl : l.Pairwise (fun x y => x.frm ≤ y.frm)) (hm : m.Pairwise (fun x y => x.frm < y.frm)) : l = m := by
  induction m generalizing l with
  | nil => exact hp.eq_nil
  | cons y m ih =>
    cases l with
    | nil => exact absurd hp.symm.eq_nil (by simp)
    | cons x l =>
      rw [List.pairwise_cons] at hl hm
      have hx : x ∈ y :: m := hp.subset (List.mem_cons_self ..)
      have hy : y ∈ x :: l := hp.symm.subset (List.mem_cons_self ..)
      have he : x = y := by
        rcases List.mem_cons.1 hx with e | hx
        · exact e
        · rcases List.mem_cons.1 hy with e | hy
          · exact e.symm
          · have h1 := hl.1 y hy
            have h2 := hm.1 x hx
            omega
      subst he
      rw [ih (List.Perm.cons_inv hp) hl.2 hm.2]
theorem cal_pair {l : List Span} {legs : Int} (h : CalOk l legs) : l.Pairwise (fun x y => x.upto ≤ y.frm) := by
  rw [List.pairwise_iff_getElem]
  intro i j hi hj hij
  exact h.apart hij (List.getElem?_eq_getElem hi) (List.getElem?_eq_getElem hj)
theorem cal_mem {l : List Span} {legs : Int} (h : CalOk l legs) {x : Span} (hx : x ∈ l) : 0 ≤ x.frm ∧ x.frm < x.upto ∧ x.upto ≤ legs := by
  obtain ⟨i, hi⟩ := List.getElem?_of_mem hx
  exact h.el i x hi
theorem cal_of {l : List Span} {legs : Int} (h1 : 1 ≤ legs) (h2 : legs ≤ 7) (hm : ∀ x ∈ l, 0 ≤ x.frm ∧ x.frm < x.upto ∧ x.upto ≤ legs) (hp : l.Pairwise (fun x y => x.upto ≤ y.frm)) : CalOk l legs := by
  refine ⟨h1, h2, fun i x hx => hm x (List.mem_of_getElem? hx), fun i x y hx hy => ?_⟩
  rw [List.pairwise_iff_getElem] at hp
  obtain ⟨hi, rfl⟩ := List.getElem?_eq_some_iff.1 hx
  obtain ⟨hj, rfl⟩ := List.getElem?_eq_some_iff.1 hy
  exact hp i (i + 1) hi hj (by omega)
theorem meet_apart {x s : Span} (h : meetB x s = false) (_ : x.frm < x.upto) (_ : s.frm < s.upto) : x.upto ≤ s.frm ∨ s.upto ≤ x.frm := by
  unfold meetB at h
  simp at h
  omega
theorem ins_pair {s : Span} {l : List Span} (hs : s.frm < s.upto) (hm : ∀ x ∈ l, x.frm < x.upto) (hp : l.Pairwise (fun x y => x.upto ≤ y.frm)) (hn : l.any (fun x => meetB x s) = false) : (insSp s l).Pairwise (fun x y => x.upto ≤ y.frm) := by
  induction l with
  | nil => simp [insSp]
  | cons x l ih =>
    rw [List.pairwise_cons] at hp
    have hn' := List.any_eq_false.1 hn
    have hx := hm x (List.mem_cons_self ..)
    have hmx := meet_apart (by simpa using hn' x (List.mem_cons_self ..)) hx hs
    unfold insSp
    split
    · next h =>
      rw [List.pairwise_cons, List.pairwise_cons]
      refine ⟨fun y hy => ?_, hp⟩
      rcases List.mem_cons.1 hy with rfl | hy
      · omega
      · have h1 := hp.1 y hy
        omega
    · next h =>
      rw [List.pairwise_cons]
      refine ⟨fun y hy => ?_, ih (fun y hy => hm y (List.mem_cons_of_mem _ hy)) hp.2 (List.any_eq_false.2 fun y hy => hn' y (List.mem_cons_of_mem _ hy))⟩
      rcases List.mem_append.1 ((ins_perm s l).subset hy) with hy | hy
      · exact hp.1 y hy
      · simp only [List.mem_singleton] at hy
        subst hy
        omega
theorem add_zero {l : List Span} {legs : Int} {s : Span} (h : spAddE l legs s = 0) : CalOk l legs ∧ spanE s legs = 0 ∧ l.any (fun x => meetB x s) = false := by
  unfold spAddE at h
  by_cases h1 : readySpE l legs s ≠ 0
  · rw [if_pos h1] at h; exact absurd h h1
  · rw [if_neg h1] at h
    obtain ⟨h2, h3⟩ := readySp_ok (show readySpE l legs s = 0 by omega)
    refine ⟨h2, h3, ?_⟩
    cases q : l.any (fun x => meetB x s) with
    | false => rfl
    | true => rw [if_pos q] at h; exact absurd h (by decide)
theorem ins_cal {l : List Span} {legs : Int} {s : Span} (h : spAddE l legs s = 0) : CalOk (insSp s l) legs := by
  obtain ⟨hok, hsp, hn⟩ := add_zero h
  have hs := span_ok hsp
  refine cal_of hok.lo hok.hi (fun x hx => ?_) (ins_pair hs.2.2.2.1 (fun x hx => (cal_mem hok hx).2.1) (cal_pair hok) hn)
  rcases List.mem_append.1 ((ins_perm s l).subset hx) with hx | hx
  · exact cal_mem hok hx
  · simp only [List.mem_singleton] at hx
    subst hx
    exact hs.2.2
theorem pair_lt {l : List Span} (hm : ∀ x ∈ l, x.frm < x.upto) (hp : l.Pairwise (fun x y => x.upto ≤ y.frm)) : l.Pairwise (fun x y => x.frm < y.frm) := by
  induction l with
  | nil => exact List.Pairwise.nil
  | cons x l ih =>
    rw [List.pairwise_cons] at hp ⊢
    refine ⟨fun y hy => ?_, ih (fun y hy => hm y (List.mem_cons_of_mem _ hy)) hp.2⟩
    have := hp.1 y hy
    have := hm x (List.mem_cons_self ..)
    omega
/-- What lies sorted is what lies in its place. -/
theorem add_eq {l l' : List Span} {legs : Int} {s : Span} (h : spAddE l legs s = 0) (hp : l'.Perm (l ++ [s])) (hw : l'.Pairwise (fun x y => x.frm ≤ y.frm)) : l' = insSp s l := by
  have hc := ins_cal h
  exact sorted_unique (hp.trans (ins_perm s l).symm) hw (pair_lt (fun x hx => (cal_mem hc hx).2.1) (cal_pair hc))
theorem spanQ_iff {x y : Span} : spanQ x y = true ↔ x = y := by simp [spanQ]
/-- What is added is taken again. -/
theorem del_ins {s : Span} {l : List Span} (h : ∀ x ∈ l, x ≠ s) : delSp (insSp s l) s = l := by
  unfold delSp
  induction l with
  | nil => simp [insSp, spanQ]
  | cons x l ih =>
    have hx := h x (List.mem_cons_self ..)
    have hq : spanQ s x = false := by simp [spanQ]; exact fun e => hx e.symm
    unfold insSp
    split
    · simp [List.findIdx_cons, spanQ]
    · have := ih fun y hy => h y (List.mem_cons_of_mem _ hy)
      rw [List.findIdx_cons, hq]
      simp only [cond_false, List.take_succ_cons, List.drop_succ_cons, List.cons_append]
      rw [this]
theorem ins_back {l : List Span} {legs : Int} {s : Span} (h : spAddE l legs s = 0) : takeE (insSp s l) legs s = 0 ∧ delSp (insSp s l) s = l ∧ spAddE (insSp s l) legs s = 6 := by
  obtain ⟨hok, hsp, hn⟩ := add_zero h
  have hs := span_ok hsp
  have hc := ins_cal h
  have hm : s ∈ insSp s l := (ins_perm s l).symm.subset (by simp)
  have hr : readySpE (insSp s l) legs s = 0 := by unfold readySpE; rw [cal_zero hc, if_neg (by simp), hsp]
  refine ⟨?_, del_ins fun x hx e => ?_, ?_⟩
  · unfold takeE; rw [hr, if_neg (by simp), if_pos (List.any_eq_true.2 ⟨s, hm, spanQ_iff.2 rfl⟩)]
  · have := List.any_eq_false.1 hn x hx
    subst e
    apply this
    unfold meetB
    simp
    omega
  · unfold spAddE; rw [hr, if_neg (by simp), if_pos (List.any_eq_true.2 ⟨s, hm, by unfold meetB; simp; omega⟩)]

end Go.Proofs.Ytlablioefblmkaa
/-
  Spans: the reference SameSpans; the laws' helper spanBegun.
-/
namespace Go.Proofs.Ytlablioefblmkaa
open Go.RowKit Go.Shelf

set_option maxRecDepth 100000 in
theorem span_ne (x y : Span) (W : World) : (binOp .neq 27 (.agg #[.int .i64 x.frm, .int .i64 x.upto]) (.agg #[.int .i64 y.frm, .int .i64 y.upto])).run Try.prog W = .ok (.bool (decide (x ≠ y))) W := by
  obtain ⟨a, b⟩ := x
  obtain ⟨c, d⟩ := y
  simp only [Span.mk.injEq, ne_eq]
  go_simp
  repeat' split
  all_goals simp_all
set_option maxHeartbeats 1000000 in
theorem SameSpans_any (A B : Option Addr) (n cap m cap2 : Nat) (l l2 : List Span) (w : World) (h : Sl spanC 2 w All A n cap l) (h2 : Sl spanC 2 w All B m cap2 l2) :
    Calls Try.prog 16 #[.slice A n cap, .slice B m cap2] w fun e w' => e = .returned (.bool (decide (l = l2))) ∧ ∃ q, w' = w.drewN q := by
  have hbd := h.bd
  have hlen := Lib.hid h.len
  have hlen2 := Lib.hid h2.len
  by_cases hnm : n = m
  · subst hnm
    go_enter Try.func16, Try.ntmps16
    go_wp2_with fail
    go_loopg [5] n (fun gk i wr => ∃ k q : Nat, k ≤ n ∧ n - k ≤ gk ∧ i = .int .i64 k ∧ Aside (∀ j, j < k → l[j]? = l2[j]?) ∧ wr = w.drewN q)
    case atStart => exact ⟨0, 0, Nat.zero_le _, by omega, rfl, fun j hj => absurd hj (by omega), rfl⟩
    case round =>
      obtain ⟨k, q, hk, hgk, rfl, HE, rfl⟩ := hrel
      by_cases hlt : k < n
      · obtain ⟨b, off, x, c0, c1, rfl, hx, hc, g0, g1⟩ := h.at2 hlt
        obtain ⟨hc, hw⟩ := hc
        simp only [List.cons.injEq, and_true] at hc
        obtain ⟨rfl, rfl⟩ := hc
        obtain ⟨b', off', y, d0, d1, rfl, hy, hd, e0, e1⟩ := h2.at2 hlt
        obtain ⟨hd, hw'⟩ := hd
        simp only [List.cons.injEq, and_true] at hd
        obtain ⟨rfl, rfl⟩ := hd
        have HX := Lib.hid hx
        have HY := Lib.hid hy
        clear hx hy
        have hqn := fun W => span_ne x y W
        by_cases hxy : x = y
        · have he : (decide (x ≠ y)) = false := by subst hxy; simp
          have HXY := Lib.hid hxy
          clear hxy
          go_wp2_with fail
          go_quiet (fail)
          go_wp2_with fail
          go_roundg (n - (k + 1))
          case measure => omega
          case rel =>
            refine ⟨k + 1, _, by omega, by omega, by go_num, (show Aside _ from fun j hj => ?_), rfl⟩
            by_cases e : j = k
            · subst e; rw [HX.out, HY.out, HXY.out]
            · exact HE.out j (by omega)
        · have he : (decide (x ≠ y)) = true := by simpa using hxy
          have HXY := Lib.hid hxy
          clear hxy
          go_wp2_with fail
          go_quiet (fail)
          go_wp2_with fail
          go_ret
          refine ⟨retB ?_, _, World.drewN_drewN _ _ _⟩
          symm
          rw [decide_eq_false_iff_not]
          intro hll
          subst hll
          rw [HX.out] at HY
          exact HXY.out (by have := HY.out; injection this)
      · obtain rfl : k = n := by omega
        have hll : l = l2 := by
          apply List.ext_getElem?
          intro j
          by_cases hj : j < k
          · exact HE.out j hj
          · rw [List.getElem?_eq_none (by rw [hlen.out]; omega), List.getElem?_eq_none (by rw [hlen2.out]; omega)]
        have HLL := Lib.hid hll
        clear hll
        go_wp2_with fail
        go_ret
        exact ⟨retB (by rw [decide_eq_true HLL.out]), _, rfl⟩
  · have hnm' : ((n : Int) != (m : Int)) = true := by simp; omega
    have hll : ¬ l = l2 := fun e => hnm (by rw [← hlen.out, ← hlen2.out, e])
    have HLL := Lib.hid hll
    clear hll hnm
    go_enter Try.func16, Try.ntmps16
    go_wp2_with fail
    go_ret
    exact ⟨retB (by rw [decide_eq_false HLL.out]), 0, rfl⟩

theorem Sl.ofSpans {w : World} {S : Nat → Prop} {b : Nat} {cs : Array Value} {t : TypeId} (l : List Span) (h : Blk w b cs t) (hl : l.length ≤ 1000) (hS : S b) (he : cs.toList = l.flatMap encSp) (hi : ∀ x ∈ l, InI x.frm ∧ InI x.upto) :
    Sl spanC 2 w S (some ⟨b, 0, none⟩) l.length l.length l :=
  Sl.ofBlk h l (by omega) hS fun i x hx => ⟨encSp x, ⟨rfl, hi x (List.mem_of_getElem? hx)⟩, rfl, fun j u hu => by
    have := flat_sp l i x hx j u hu
    rw [← he] at this
    simpa using this⟩

end Go.Proofs.Ytlablioefblmkaa
/-
  Spans: plain laws: each leg is of one span or of one that is free; free ones lie apart.
-/
namespace Go.Proofs.Ytlablioefblmkaa
open Go.RowKit Go.Shelf

def inLeg (i : Int) (x : Span) : Bool := decide (x.frm ≤ i) && decide (i < x.upto)
def cnt (i : Int) (l : List Span) : Int := ((l.filter (inLeg i)).length : Int)
theorem cnt_app (i : Int) (l m : List Span) : cnt i (l ++ m) = cnt i l + cnt i m := by simp [cnt]
theorem cnt_one (i : Int) (x : Span) : cnt i [x] = if x.frm ≤ i ∧ i < x.upto then 1 else 0 := by
  unfold cnt inLeg
  by_cases h1 : x.frm ≤ i <;> by_cases h2 : i < x.upto <;> simp [h1, h2]
theorem cnt_nil (i : Int) : cnt i [] = 0 := rfl
theorem cnt_gap (i a b : Int) : cnt i (gap a b) = if a ≤ i ∧ i < b then 1 else 0 := by
  unfold gap
  split
  · rw [cnt_one]
  · rw [cnt_nil, if_neg (by omega)]
theorem cnt_succ {l : List Span} {k : Nat} {x : Span} (i : Int) (h : l[k]? = some x) : cnt i (l.take (k + 1)) = cnt i (l.take k) + if x.frm ≤ i ∧ i < x.upto then 1 else 0 := by rw [take_snoc h, cnt_app, cnt_one]
theorem cnt_bd (i : Int) (l : List Span) : 0 ≤ cnt i l ∧ cnt i l ≤ (l.length : Int) := by
  unfold cnt
  have := List.length_filter_le (inLeg i) l
  omega

theorem gaps_inv (l : List Span) : (∀ x ∈ l, 0 ≤ x.frm ∧ x.frm < x.upto) → l.Pairwise (fun x y => x.upto ≤ y.frm) →
    0 ≤ (gapsS l).2 ∧ (∀ x ∈ l, x.upto ≤ (gapsS l).2) ∧ (∀ i, 0 ≤ i → cnt i l + cnt i (gapsS l).1 = if i < (gapsS l).2 then 1 else 0) ∧
    (gapsS l).1.Pairwise (fun x y => x.upto < y.frm) ∧ (∀ y ∈ (gapsS l).1, y.upto < (gapsS l).2) ∧ ((gapsS l).2 = 0 ∨ ∃ x ∈ l, (gapsS l).2 = x.upto) := by
  have key : ∀ n (l : List Span), l.length = n → (∀ x ∈ l, 0 ≤ x.frm ∧ x.frm < x.upto) → l.Pairwise (fun x y => x.upto ≤ y.frm) →
    0 ≤ (gapsS l).2 ∧ (∀ x ∈ l, x.upto ≤ (gapsS l).2) ∧ (∀ i, 0 ≤ i → cnt i l + cnt i (gapsS l).1 = if i < (gapsS l).2 then 1 else 0) ∧
    (gapsS l).1.Pairwise (fun x y => x.upto < y.frm) ∧ (∀ y ∈ (gapsS l).1, y.upto < (gapsS l).2) ∧ ((gapsS l).2 = 0 ∨ ∃ x ∈ l, (gapsS l).2 = x.upto) := by
    intro n
    induction n with
    | zero =>
      intro l hl _ _
      obtain rfl : l = [] := List.length_eq_zero_iff.1 hl
      refine ⟨by decide, by simp, fun i hi => ?_, List.Pairwise.nil, by simp [gapsS], .inl rfl⟩
      show cnt i [] + cnt i [] = if i < 0 then 1 else 0
      rw [cnt_nil, if_neg (by omega)]; rfl
    | succ n ih =>
      intro l hl hm hp
      rcases List.eq_nil_or_concat l with rfl | ⟨l', x, rfl⟩
      · simp at hl
      · rw [List.concat_eq_append] at *
        rw [List.pairwise_append] at hp
        have hx := hm x (by simp)
        obtain ⟨h1, h2, h3, h4, h5, h6⟩ := ih l' (by simp at hl; omega) (fun y hy => hm y (List.mem_append_left _ hy)) hp.1
        have hle : (gapsS l').2 ≤ x.frm := by
          rcases h6 with e | ⟨y, hy, e⟩
          · omega
          · rw [e]; exact hp.2.2 y hy x (by simp)
        rw [gapsS_snoc]
        unfold gapF
        simp only
        refine ⟨by omega, fun y hy => ?_, fun i hi => ?_, ?_, fun y hy => ?_, .inr ⟨x, by simp, rfl⟩⟩
        · rcases List.mem_append.1 hy with hy | hy
          · have := h2 y hy; omega
          · simp only [List.mem_singleton] at hy; subst hy; omega
        · have hi3 := h3 i hi
          rw [cnt_app, cnt_app, cnt_one, cnt_gap]
          by_cases e1 : i < (gapsS l').2
          · rw [if_pos e1] at hi3
            rw [if_neg (by omega), if_neg (by omega), if_pos (by omega)]; omega
          · rw [if_neg e1] at hi3
            by_cases e2 : i < x.frm
            · rw [if_neg (by omega), if_pos (by omega), if_pos (by omega)]; omega
            · by_cases e3 : i < x.upto
              · rw [if_pos (by omega), if_neg (by omega), if_pos e3]; omega
              · rw [if_neg (by omega), if_neg (by omega), if_neg e3]; omega
        · rw [List.pairwise_append]
          refine ⟨h4, by unfold gap; split <;> simp, fun y hy z hz => ?_⟩
          unfold gap at hz
          split at hz
          · simp only [List.mem_singleton] at hz; subst hz; exact h5 y hy
          · simp at hz
        · rcases List.mem_append.1 hy with hy | hy
          · have := h5 y hy; omega
          · unfold gap at hy
            split at hy
            · simp only [List.mem_singleton] at hy; subst hy; show x.frm < x.upto; omega
            · simp at hy
  exact key l.length l rfl
theorem free_cnt {l : List Span} {legs : Int} (h : CalOk l legs) {i : Int} (h0 : 0 ≤ i) (h1 : i < legs) : cnt i l + cnt i (gapsL l legs) = 1 := by
  obtain ⟨g1, g2, g3, g4, g5, g6⟩ := gaps_inv l (fun x hx => ⟨(cal_mem h hx).1, (cal_mem h hx).2.1⟩) (cal_pair h)
  have := g3 i h0
  unfold gapsL
  rw [cnt_app, cnt_gap]
  by_cases e : i < (gapsS l).2
  · rw [if_pos e] at this; rw [if_neg (by omega)]; omega
  · rw [if_neg e] at this; rw [if_pos (by omega)]; omega
theorem free_apart {l : List Span} {legs : Int} (h : CalOk l legs) : (gapsL l legs).Pairwise (fun x y => x.upto < y.frm) := by
  obtain ⟨g1, g2, g3, g4, g5, g6⟩ := gaps_inv l (fun x hx => ⟨(cal_mem h hx).1, (cal_mem h hx).2.1⟩) (cal_pair h)
  unfold gapsL
  rw [List.pairwise_append]
  refine ⟨g4, by unfold gap; split <;> simp, fun y hy z hz => ?_⟩
  unfold gap at hz
  split at hz
  · simp only [List.mem_singleton] at hz; subst hz; exact g5 y hy
  · simp at hz
theorem gaps_len {l : List Span} {legs : Int} : (gapsL l legs).length ≤ l.length + 1 := by
  unfold gapsL
  have := gapsS_len l
  have := gap_len (gapsS l).2 legs
  rw [List.length_append]; omega
end Go.Proofs.Ytlablioefblmkaa
/-
  Spans: the references DoMeet, CheckCalendar.
-/
namespace Go.Proofs.Ytlablioefblmkaa
open Go.RowKit Go.Shelf

/-- A span of any voyage that is right. -/
def OkSp (x : Span) : Prop := 0 ≤ x.frm ∧ x.frm < x.upto ∧ x.upto ≤ 7
def legB (i : Int) (x : Span) : Bool := betB i x.frm (x.upto - 1)
theorem meet_leg {x y : Span} (_ : OkSp x) (_ : OkSp y) {i : Int} (h : legB i x = true) (h2 : legB i y = true) : meetB x y = true := by
  unfold legB at h h2
  rw [betB_iff] at h h2
  unfold meetB
  simp
  omega
theorem meet_none {x y : Span} (hx : OkSp x) (hy : OkSp y) (h : ∀ i : Nat, i < 7 → (legB i x && legB i y) = false) : meetB x y = false := by
  cases q : meetB x y with
  | false => rfl
  | true =>
    unfold meetB at q
    simp at q
    obtain ⟨h1, h2, h3⟩ := hx
    obtain ⟨h4, h5, h6⟩ := hy
    obtain ⟨i, hi⟩ := Int.eq_ofNat_of_zero_le (show 0 ≤ max x.frm y.frm by omega)
    have := h i (by omega)
    rw [show legB (i : Int) x = true from betB_true (by omega) (by omega), show legB (i : Int) y = true from betB_true (by omega) (by omega)] at this
    exact absurd this (by decide)

set_option maxRecDepth 100000 in
set_option maxHeartbeats 2000000 in
theorem DoMeet_any (x y : Span) (w : World) (hx : OkSp x) (hy : OkSp y) : Calls Try.prog 43 #[.agg #[.int .i64 x.frm, .int .i64 x.upto], .agg #[.int .i64 y.frm, .int .i64 y.upto]] w fun e w' => e = .returned (.bool (meetB x y)) ∧ Below w.heap.size w w' := by
  obtain ⟨r, hr⟩ : ∃ r, r = meetB x y := ⟨_, rfl⟩
  rw [← hr]
  have hw1 : wrap64 (x.upto - 1) = x.upto - 1 := by unfold OkSp at hx; unfold wrap64; omega
  have hw2 : wrap64 (y.upto - 1) = y.upto - 1 := by unfold OkSp at hy; unfold wrap64; omega
  have HX := Lib.hid hx
  clear hx
  have HY := Lib.hid hy
  clear hy
  have HR := Lib.hid hr
  clear hr
  go_enter Try.func43, Try.ntmps43
  go_upto_region 0 with (fail)
  go_cut [2, 3] (fun p q wx => ∃ g k, p = .pointer (some ⟨g, 0, none⟩) ∧ q = .pointer (some ⟨k, 0, none⟩) ∧ SpanAt wx g x.frm x.upto ∧ SpanAt wx k y.frm y.upto ∧ Below w.heap.size w wx)
  case first => as_aux_lemma =>
    go_wp2_with fail
    go_meet
    exact ⟨_, _, rfl, rfl, blk2_0 _ _ _, blk2_1 _ _ _, bel2 _ _ _⟩
  obtain ⟨g, k, rfl, rfl, hS, hT, hb⟩ := hcut
  have c0 := hS.c0
  have c1 := hS.c1
  have d0 := hT.c0
  have d1 := hT.c1
  go_wp2_with fail
  go_loopg [5] 7 (fun gk i wr => ∃ k : Nat, k ≤ 7 ∧ 7 - k ≤ gk ∧ i = .int .i64 k ∧ Aside (∀ j : Nat, j < k → (legB j x && legB j y) = false) ∧ wr = wc)
  case atStart => exact ⟨0, by omega, by omega, rfl, fun j hj => absurd hj (by omega), rfl⟩
  case round =>
    obtain ⟨i, hi, hgi, rfl, HE, rfl⟩ := hrel
    by_cases hlt : i < 7
    · go_wp2_with fail
      refine (between_any (i : Int) x.frm (x.upto - 1) _).mono ?_
      rintro e w9 ⟨rfl, rfl⟩
      have HL := Lib.hid (show legB (i : Int) x = betB (i : Int) x.frm (x.upto - 1) from rfl)
      have HL2 := Lib.hid (show legB (i : Int) y = betB (i : Int) y.frm (y.upto - 1) from rfl)
      cases q_HB1 : betB (i : Int) x.frm (x.upto - 1) <;> have HB1 := Lib.hid q_HB1 <;> clear q_HB1
      · go_wp2_with fail
        go_roundg (7 - (i + 1))
        case measure => omega
        case rel => exact ⟨i + 1, by omega, by omega, by go_num, (show Aside _ from fun j hj => by
          by_cases e : j = i
          · subst e; rw [HL.out, HB1.out]; rfl
          · exact HE j (by omega)), rfl⟩
      · go_wp2_with fail
        refine (between_any (i : Int) y.frm (y.upto - 1) _).mono ?_
        rintro e w9 ⟨rfl, rfl⟩
        cases q_HB2 : betB (i : Int) y.frm (y.upto - 1) <;> have HB2 := Lib.hid q_HB2 <;> clear q_HB2
        · go_wp2_with fail
          go_roundg (7 - (i + 1))
          case measure => omega
          case rel => exact ⟨i + 1, by omega, by omega, by go_num, (show Aside _ from fun j hj => by
            by_cases e : j = i
            · subst e; rw [HL2.out, HB2.out, Bool.and_false]
            · exact HE j (by omega)), rfl⟩
        · obtain rfl : r = true := by rw [HR.out]; exact meet_leg HX.out HY.out (HL.out.trans HB1.out) (HL2.out.trans HB2.out)
          go_wp2_with fail
          go_ret
          exact ⟨rfl, hb⟩
    · obtain rfl : i = 7 := by omega
      obtain rfl : r = false := by rw [HR.out]; exact meet_none HX.out HY.out fun j hj => HE j hj
      go_wp2_with fail
      go_ret
      exact ⟨rfl, hb⟩

end Go.Proofs.Ytlablioefblmkaa
