/-
  Words, laws and contracts: FolioH, FolioI.
-/
import Derived.Test.YtoilcdgpeilgaaaGreatBun7
import Derived.Deep.DeepCutAuto
set_option linter.unusedSimpArgs false
set_option linter.unusedVariables false
namespace Go.Proofs.YtoilcdgpeilgaaaGreat
open Go.RowKit Go.Shelf
theorem entryE_7 {x : Entry} (h : x.kind < 1 ∨ 4 < x.kind) : entryE x = 7 := if_pos h
theorem entryE_3 {x : Entry} (h : ¬ (x.kind < 1 ∨ 4 < x.kind)) (h2 : x.day < 0 ∨ 9999 < x.day ∨ x.amount < -100000000 ∨ 100000000 < x.amount) : entryE x = 3 := by
  unfold entryE; rw [if_neg h, if_pos h2]
theorem entryE_4 {x : Entry} (h : ¬ (x.kind < 1 ∨ 4 < x.kind)) (h2 : ¬ (x.day < 0 ∨ 9999 < x.day ∨ x.amount < -100000000 ∨ 100000000 < x.amount))
    (h3 : x.amount < 0 ∧ (x.kind = 1 ∨ x.kind = 3) ∨ 0 < x.amount ∧ x.kind = 2) : entryE x = 4 := by
  unfold entryE; rw [if_neg h, if_neg h2, if_pos h3]
theorem entryE_0 {x : Entry} (h : ¬ (x.kind < 1 ∨ 4 < x.kind)) (h2 : ¬ (x.day < 0 ∨ 9999 < x.day ∨ x.amount < -100000000 ∨ 100000000 < x.amount))
    (h3 : ¬ (x.amount < 0 ∧ (x.kind = 1 ∨ x.kind = 3) ∨ 0 < x.amount ∧ x.kind = 2)) : entryE x = 0 := by
  unfold entryE; rw [if_neg h, if_neg h2, if_neg h3]
set_option maxRecDepth 100000 in
set_option maxHeartbeats 4000000 in
theorem CheckFolio_any (A : Option Addr) (n cap : Nat) (l : List Entry) (w : World) (h : Sl entryC 3 w All A n cap l) :
    Calls Tryz.prog 113 #[.slice A n cap] w fun e w' => e = .returned (.int .i64 (checkFolio l)) ∧ Below w.heap.size w w' := by
  have hbd := h.bd
  have hlen := Lib.hid h.len
  by_cases hn : 12 < n
  · have hn' : (12 : Int) < (n : Int) := by omega
    go_enter Tryz.func113, Tryz.ntmps113
    go_wp2_with fail
    go_ret
    exact ⟨retI (by unfold checkFolio; rw [hlen.out, if_pos hn]), Below.refl _ _⟩
  · have hn' : ¬ (12 : Int) < (n : Int) := by omega
    go_enter Tryz.func113, Tryz.ntmps113
    go_wp2_with fail
    go_loopg [3] n (fun gk i wr => ∃ k : Nat, k ≤ n ∧ n - k ≤ gk ∧ i = .int .i64 k ∧ Aside (firstErr (errAt l) k = 0) ∧ Below w.heap.size w wr)
    case atStart => exact ⟨0, Nat.zero_le _, by omega, rfl, rfl, Below.refl _ _⟩
    case round =>
      obtain ⟨k, hk, hgk, rfl, HE, hb⟩ := hrel
      by_cases hlt : k < n
      · obtain ⟨b, off, x, c0, c1, c2, rfl, hx, ⟨hc, b0, b1, b2⟩, g0, g1, g2⟩ := (h.below entryC_good (by omega) hb).at3 hlt
        simp only [List.cons.injEq, and_true] at hc
        obtain ⟨rfl, rfl, rfl⟩ := hc
        have HX := Lib.hid hx
        have hb1 := hb.alloc hb.size (.cells #[.int .i64 x.day, .int .i64 x.kind, .int .i64 x.amount] 57)
        have fin : ∀ r : Int, errAt l k = r → r ≠ 0 → r = checkFolio l := fun r h1 h2 => by
          unfold checkFolio
          rw [hlen.out, if_neg hn]
          have := firstErr_at (n := n) HE.out (by rw [h1]; exact h2) hlt
          rw [this, h1, if_pos h2]
        have Fin := Lib.hid fin
        have herr : (∀ y, l[k - 1]? = some y → 0 < k → entryE x = 0 → errAt l k = if x.day < y.day then 4 else 0) := fun y hy h0 hr => by
          unfold errAt
          rw [HX.out, Option.getD_some, hr, if_neg (by simp), hy, Option.getD_some]
          by_cases e : x.day < y.day
          · rw [if_pos ⟨h0, e⟩, if_pos e]
          · rw [if_neg (fun h => e h.2), if_neg e]
        have herr0 : k = 0 → entryE x = 0 → errAt l k = 0 := fun h0 hr => by
          unfold errAt
          rw [HX.out, Option.getD_some, hr, if_neg (by simp), if_neg (by omega)]
        have herr1 : entryE x ≠ 0 → errAt l k = entryE x := fun hr => by
          unfold errAt
          rw [HX.out, Option.getD_some, if_pos hr]
        have Herr := Lib.hid herr
        have Herr0 := Lib.hid herr0
        have Herr1 := Lib.hid herr1
        clear fin herr herr0 herr1 hx
        by_cases c1 : x.kind < 1 ∨ 4 < x.kind
        · have HZ := Lib.hid (entryE_7 c1)
          have t1 := betB_false c1
          clear c1
          go_wp2_with (go_at_call 107; refine (between_any _ _ _ _).mono ?_; rintro e w' ⟨rfl, rfl⟩)
          all_goals
            go_ret
            exact ⟨retI (Fin.out 7 ((Herr1.out (by rw [HZ.out]; omega)).trans HZ.out) (by omega)), hb1⟩
        · have t1 : betB x.kind 1 4 = true := betB_true (by omega) (by omega)
          by_cases c2 : x.day < 0 ∨ 9999 < x.day ∨ x.amount < -100000000 ∨ 100000000 < x.amount
          · have HZ := Lib.hid (entryE_3 c1 c2)
            by_cases c2d : x.day < 0 ∨ 9999 < x.day
            · have t2 := betB_false c2d
              clear c1 c2 c2d
              go_wp2_with (go_at_call 107; refine (between_any _ _ _ _).mono ?_; rintro e w' ⟨rfl, rfl⟩)
              all_goals
                go_ret
                exact ⟨retI (Fin.out 3 ((Herr1.out (by rw [HZ.out]; omega)).trans HZ.out) (by omega)), hb1⟩
            · have t2 : betB x.day 0 9999 = true := betB_true (by omega) (by omega)
              have t3 : betB x.amount (-100000000) 100000000 = false := betB_false (by omega)
              clear c1 c2 c2d
              go_wp2_with (go_at_call 107; refine (between_any _ _ _ _).mono ?_; rintro e w' ⟨rfl, rfl⟩)
              all_goals
                go_ret
                exact ⟨retI (Fin.out 3 ((Herr1.out (by rw [HZ.out]; omega)).trans HZ.out) (by omega)), hb1⟩
          · have t2 : betB x.day 0 9999 = true := betB_true (by omega) (by omega)
            have t3 : betB x.amount (-100000000) 100000000 = true := betB_true (by omega) (by omega)
            by_cases c3 : x.amount < 0 ∧ (x.kind = 1 ∨ x.kind = 3) ∨ 0 < x.amount ∧ x.kind = 2
            · have HZ := Lib.hid (entryE_4 c1 c2 c3)
              go_wp2_with (go_at_call 107; refine (between_any _ _ _ _).mono ?_; rintro e w' ⟨rfl, rfl⟩)
              all_goals
                go_ret
                exact ⟨retI (Fin.out 4 ((Herr1.out (by rw [HZ.out]; omega)).trans HZ.out) (by omega)), hb.alloc hb.size _⟩
            · have HZ := Lib.hid (entryE_0 c1 c2 c3)
              rcases k with _ | k
              · simp only [Nat.zero_mul, Nat.add_zero] at g0 g1 g2
                go_wp2_with (go_at_call 107; refine (between_any _ _ _ _).mono ?_; rintro e w' ⟨rfl, rfl⟩)
                all_goals
                  go_quiet (fail)
                  go_wp2_with fail
                  go_roundg (n - 1)
                  case measure => omega
                  case rel => exact ⟨1, by omega, by omega, rfl, (show Aside _ from (firstErr_succ HE.out).trans (Herr0.out (by trivial) HZ.out)), below_drewN (hb.alloc hb.size _) _⟩
              · obtain ⟨b2, off2, y, d0, d1, d2, hA2, hy, ⟨hc2, y0, y1, y2⟩, e0, e1, e2⟩ := (h.below entryC_good (by omega) hb).at3 (show k < n by omega)
                injection hA2 with hA2
                injection hA2 with hb2 ho2 _
                subst hb2 ho2
                simp only [List.cons.injEq, and_true] at hc2
                obtain ⟨rfl, rfl, rfl⟩ := hc2
                have Hy := Lib.hid hy
                have hblt : b < wr.heap.size := cell_lt e0
                clear hy e1 e2
                have hw : IntKind.i64.wrap (k : Int) = k := IntWalk.i64_in _ (by omega)
                have hgt : decide ((0 : Int) < (k : Int) + 1) = true := decide_eq_true (by omega)
                by_cases hd : x.day < y.day
                · go_wp2_with (go_at_call 107; refine (between_any _ _ _ _).mono ?_; rintro e w' ⟨rfl, rfl⟩)
                  all_goals
                    go_quiet (fail)
                    go_wp2_with fail
                    go_ret
                    exact ⟨retI (Fin.out 4 (by rw [Herr.out y (by simpa using Hy.out) (by omega) HZ.out, if_pos hd]) (by omega)), below_drewN (hb.alloc hb.size _) _⟩
                · go_wp2_with (go_at_call 107; refine (between_any _ _ _ _).mono ?_; rintro e w' ⟨rfl, rfl⟩)
                  all_goals
                    go_quiet (fail)
                    go_wp2_with fail
                    go_roundg (n - (k + 1 + 1))
                    case measure => omega
                    case rel => exact ⟨k + 1 + 1, by omega, by omega, by go_num, (show Aside _ from (firstErr_succ HE.out).trans (by rw [Herr.out y (by simpa using Hy.out) (by omega) HZ.out, if_neg (by omega)])), below_drewN (hb.alloc hb.size _) _⟩
      · obtain rfl : k = n := by omega
        have hsm := small_of_check (l := l) (by rw [hlen.out]; omega) (by rw [hlen.out]; exact HE.out)
        have hcap := h.le
        go_wp2_with fail
        go_loopg [5] k (fun gk i wr => ∃ j : Nat, j ≤ k ∧ k - j ≤ gk ∧ i = .int .i64 ((j : Int) + 1) ∧ Aside (firstErr (sumErr l) j = 0) ∧ Below w.heap.size w wr)
        case atStart => exact ⟨0, Nat.zero_le _, by omega, rfl, rfl, hb⟩
        case round =>
          obtain ⟨j, hj, hgj, rfl, HJ, hbj⟩ := hrel
          by_cases hlt2 : j < k
          · obtain ⟨b, off, x, c0, c1, c2, rfl, hx, ⟨hc, b0, b1, b2⟩, g0, g1, g2⟩ := h.at3 hlt2
            clear hc b0 b1 b2 g0 g1 g2 hx
            have hbound : j + 1 ≤ cap := by omega
            have htk := (h.below entryC_good (by omega) hbj).takeTo (i := j + 1) (by omega)
            have hsmt : Small (l.take (j + 1)) := ⟨by rw [List.length_take]; have := hsm.1; omega, fun y hy => hsm.2 y (List.mem_of_mem_take hy)⟩
            go_wp2_with fail
            refine (SumOf_any _ _ _ (l.take (j + 1)) 0 _ htk hsmt).mono ?_
            rintro e w1 ⟨rfl, rfl⟩
            have hbt := between_any (sumOfK (l.take (j + 1)) 0) (-100000000) 100000000 wr
            have hse : sumErr l j = if betB (sumOfK (l.take (j + 1)) 0) (-100000000) 100000000 then 0 else 3 := by unfold sumErr; rw [sumOfK_zero]; rfl
            generalize betB (sumOfK (l.take (j + 1)) 0) (-100000000) 100000000 = bb at *
            have HB := Lib.hid hbt
            have HSE := Lib.hid hse
            clear hbt hse
            cases bb
            · go_wp2_with (go_at_call 107; refine HB.out.mono ?_; rintro e w' ⟨rfl, rfl⟩)
              go_ret
              exact ⟨retI (by rw [checkFolio_sums (by rw [hlen.out]; exact hn) (by rw [hlen.out]; exact HE.out), hlen.out, firstErr_at HJ.out (by rw [HSE.out]; decide) hlt2, HSE.out]; rfl), hbj⟩
            · go_wp2_with (go_at_call 107; refine HB.out.mono ?_; rintro e w' ⟨rfl, rfl⟩)
              go_roundg (k - (j + 1))
              case measure => omega
              case rel => exact ⟨j + 1, by omega, by omega, by go_num, (show Aside _ from (firstErr_succ HJ.out).trans HSE.out), hbj⟩
          · obtain rfl : j = k := by omega
            have hge : ¬ ((j : Int) + 1 ≤ (j : Int)) := by omega
            go_wp2_with fail
            go_ret
            exact ⟨retI (by rw [checkFolio_sums (by rw [hlen.out]; exact hn) (by rw [hlen.out]; exact HE.out), hlen.out, HJ.out]), hbj⟩
end Go.Proofs.YtoilcdgpeilgaaaGreat
namespace Go.Proofs.YtoilcdgpeilgaaaGreat
open Go.RowKit Go.Shelf
def OwnE (w wx : World) (v : Value) (l : List Entry) : Prop := ∃ A n cap xs, v = .slice A n cap ∧ Own entryC 3 57 wx w.heap.size v l xs ∧ Below w.heap.size w wx
theorem OwnE.sl {w wx : World} {A : Option Addr} {n cap : Nat} {l : List Entry} (h : OwnE w wx (.slice A n cap) l) : Sl entryC 3 wx All A n cap l := by
  obtain ⟨A1, n1, c1, xs, _, hown, _⟩ := h
  obtain ⟨A2, n2, cap2, he, hsl⟩ := hown.sl entryC_good
  injection he with e1 e2 e3
  subst e1 e2 e3
  exact hsl.all entryC_good (by omega)
theorem list_app_entry {w wx : World} {A : Option Addr} {n cap : Nat} {l : List Entry} {d k m : Int} {ops : Array Oper} {rest : List Oper} {o : Oper} {a : Act} {Q : Exit → Act → World → Prop} (hgd : o.guard = none) (s x : Operand)
    (ho : o.op = .call { callee := .builtin .append, args := #[s, x], argTypes := #[35, 35] })
    (hs : a.eval s = .slice A n cap) (hx : a.eval x = .slice (some ⟨wx.heap.size, 0, none⟩) 1 1) (h : OwnE w wx (.slice A n cap) l) (hl : l.length ≤ 1000) (hd : InI d) (hk : InI k) (hm : InI m)
    (K : ∀ A' n' cap' w', OwnE w w' (.slice A' n' cap') (l ++ [⟨d, k, m⟩]) → wpList Tryz.prog ops Q rest (a.put o.dst (.slice A' n' cap')) w') :
    wpList Tryz.prog ops Q (o :: rest) a (wx.alloc (.cells #[.int .i64 d, .int .i64 k, .int .i64 m] 57)) := by
  obtain ⟨A1, n1, c1, xs, hv, hown, hb⟩ := h
  injection hv with e1 e2 e3
  subst e1 e2 e3
  have hown1 := hown.below entryC_good ((Below.refl wx.heap.size wx).alloc (Nat.le_refl _) (.cells #[.int .i64 d, .int .i64 k, .int .i64 m] 57))
  have hb1 := hb.alloc hb.size (.cells #[.int .i64 d, .int .i64 k, .int .i64 m] 57)
  refine list_app (e := 57) (bytes := 24) hgd s x ho entry_elem entryC_good hs hown1 hx (sl_entry wx All d k m 57 hd hk hm trivial) (fun _ _ hc => hc) (by omega) (by omega) hb1.size ?_
  intro v' w' xs' hown2 hg2 _
  obtain ⟨A2, n2, cap2, rfl, _⟩ := hown2.sl entryC_good
  exact K _ _ _ _ ⟨_, _, _, _, rfl, hown2, below_app hb1 hown1 hg2 hb1.size⟩
theorem faresOf_kinds (l : List Entry) : sumOfK l 1 + sumOfK l 4 = faresOf l := by
  induction l with
  | nil => rfl
  | cons x l ih =>
    simp only [sumOfK, faresOf, sumBy, List.filter_cons] at ih ⊢
    have h1 : kindB 1 x.kind = (x.kind == 1) := by simp [kindB]
    have h4 : kindB 4 x.kind = (x.kind == 4) := by simp [kindB]
    rw [h1, h4]
    unfold isFare
    by_cases e1 : x.kind = 1
    · simp [e1]; simp only [isFare] at ih; omega
    · by_cases e4 : x.kind = 4
      · simp [e4]; simp only [isFare] at ih; omega
      · simp [e1, e4]; simp only [isFare] at ih; omega
set_option maxHeartbeats 4000000 in
theorem CancelOf_any (A : Option Addr) (n cap : Nat) (l : List Entry) (d p : Int) (w : World) (h : Sl entryC 3 w All A n cap l) (hd : InI d) (hp : InI p) (hc : checkFolio l = 0) (hp0 : 0 ≤ p) (hp1 : p ≤ 100000000) :
    Calls Tryz.prog 195 #[.slice A n cap, .int .i64 d, .int .i64 p] w fun e w' => ∃ v xs, e = .returned (.tuple #[v, .int .i64 (checkFolio (cancelL l d p))]) ∧
      Own entryC 3 57 w' w.heap.size v (okL (checkFolio (cancelL l d p)) (cancelL l d p)) xs ∧ Below w.heap.size w w' := by
  obtain ⟨lc, hlc⟩ : ∃ lc, lc = cancelL l d p := ⟨_, rfl⟩
  obtain ⟨r, hr⟩ : ∃ r, r = checkFolio lc := ⟨_, rfl⟩
  rw [← hlc, ← hr]
  have HLC := Lib.hid hlc
  have HRR := Lib.hid hr
  clear hlc hr
  have hsm := check_small hc
  have hl := check_len hc
  have h1 := check_sum hc (kindB 1)
  have h4 := check_sum hc (kindB 4)
  rw [show sumBy (kindB 1) l = sumOfK l 1 from rfl] at h1
  rw [show sumBy (kindB 4) l = sumOfK l 4 from rfl] at h4
  have hlen := h.len
  have hn12 : n ≤ 12 := by omega
  have HF := Lib.hid (faresOf_kinds l)
  have HAM := Lib.hid (check_amounts hc)
  have HL := Lib.hid hl
  have HLEN := Lib.hid hlen
  clear hc hl hlen
  have hb0 : Below w.heap.size w (w.alloc (.cells #[] 57)) := (Below.refl _ _).alloc (Nat.le_refl _) _
  go_enter Tryz.func195, Tryz.ntmps195
  go_wp2_with (at_builtin; refine list_app (t := 35) (e := 57) (bytes := 24) rfl (.tmp 11) (.tmp 12) rfl entry_elem entryC_good rfl (Own.made w entryC 3 57 w.heap.size #[] 0 (Nat.le_refl _) (by simp [maxLen]) rfl) rfl (h.below entryC_good (by omega) hb0) (fun _ _ hc => hc) (by simp; omega) (by omega) (by simp) ?_; intro v1 w1 xs1 hown1 hg1 _; obtain ⟨A1, n1, cap1, rfl, hsl1⟩ := hown1.sl entryC_good)
  have hb1 : Below w.heap.size w w1 := below_app hb0 (Own.made w entryC 3 57 w.heap.size #[] 0 (Nat.le_refl _) (by simp [maxLen]) rfl) hg1 (by simp)
  have hO1 : OwnE w w1 (.slice A1 n1 cap1) l := ⟨_, _, _, _, rfl, hown1, hb1⟩
  clear hg1 hsl1 hown1
  refine (SumOf_any _ _ _ l 1 _ (h.below entryC_good (by omega) hb1) hsm).mono ?_
  rintro e w2 ⟨rfl, rfl⟩
  go_wp2_with fail
  refine (SumOf_any _ _ _ l 4 _ (h.below entryC_good (by omega) hb1) hsm).mono ?_
  rintro e w2 ⟨rfl, rfl⟩
  go_upto_if 20 with (fail)
  go_cut [8] (fun v wx => OwnE w wx v (putL l d 4 (-faresOf l)))
  case first =>
    by_cases hz : sumOfK l 1 + sumOfK l 4 = 0
    · have hz' : (sumOfK l 1 + sumOfK l 4 != 0) = false := by simp [hz]
      have HO := Lib.hid hO1
      have HZ := Lib.hid (show putL l d 4 (-faresOf l) = l by unfold putL; rw [← HF.out, if_pos (by omega)])
      clear hz hO1
      go_wp2_with fail
      go_meet
      rw [HZ.out]
      exact HO.out
    · have hz' : (sumOfK l 1 + sumOfK l 4 != 0) = true := by simpa using hz
      have HZ := Lib.hid (show putL l d 4 (-faresOf l) = l ++ [⟨d, 4, -(sumOfK l 1 + sumOfK l 4)⟩] by unfold putL; rw [← HF.out, if_neg (by omega)])
      clear hz
      go_wp2_with (at_builtin; refine list_app_entry rfl (.tmp 21) (.tmp 26) rfl rfl rfl hO1 (by have := HL.out; omega) hd (.of (by omega) (by omega)) (.of (by omega) (by omega)) ?_; intro A2 n2 cap2 w2 hO2)
      go_meet
      rw [HZ.out]
      exact hO2
  case rest =>
    obtain ⟨A2, n2, cap2, xs2, rfl, hown2, hb2⟩ := hcut
    have hO2 : OwnE w wc (.slice A2 n2 cap2) (putL l d 4 (-faresOf l)) := ⟨_, _, _, _, rfl, hown2, hb2⟩
    have hl2 := putL_length l d 4 (-faresOf l)
    have hs2 := putL_small (d := d) (k := 4) (m := -faresOf l) hsm.2 (by have := HF.out; omega) (by have := HF.out; omega)
    obtain ⟨l2, hl2e⟩ : ∃ l2, l2 = putL l d 4 (-faresOf l) := ⟨_, rfl⟩
    rw [← hl2e] at hO2 hl2 hs2
    have HL2 := Lib.hid hl2e
    have HLL2 := Lib.hid hl2
    have HS2 := Lib.hid hs2
    clear hl2e hl2 hs2 hown2 hb2 hO1
    go_upto_if 29 with (fail)
    go_cut [8] (fun v wx => OwnE w wx v (putL l2 d 3 p))
    case first =>
      by_cases hz : p = 0
      · have hz' : (p != 0) = false := by simp [hz]
        have HO := Lib.hid hO2
        have HZ := Lib.hid (show putL l2 d 3 p = l2 by unfold putL; rw [if_pos hz])
        clear hz hO2
        go_wp2_with fail
        go_meet
        rw [HZ.out]
        exact HO.out
      · have hz' : (p != 0) = true := by simpa using hz
        have HZ := Lib.hid (show putL l2 d 3 p = l2 ++ [⟨d, 3, p⟩] by unfold putL; rw [if_neg hz])
        clear hz
        go_wp2_with (at_builtin; refine list_app_entry rfl (.tmp 30) (.tmp 34) rfl rfl rfl hO2 (by have := HL.out; have := HLL2.out; omega) hd (.of (by omega) (by omega)) hp ?_; intro A3 n3 cap3 w3 hO3)
        go_meet
        rw [HZ.out]
        exact hO3
    case rest =>
      obtain ⟨A3, n3, cap3, xs3, rfl, hown3, hb3⟩ := hcut
      have hO3 : OwnE w wc (.slice A3 n3 cap3) (putL l2 d 3 p) := ⟨_, _, _, _, rfl, hown3, hb3⟩
      have hl3 : (putL l2 d 3 p).length ≤ 14 := by have := putL_length l2 d 3 p; have := HLL2.out; have := HL.out; omega
      have hs3 : Small (putL l2 d 3 p) := ⟨by omega, putL_small HS2.out (by omega) (by omega)⟩
      have HZ3 := Lib.hid (show lc = putL (putL l2 d 3 p) d 4 (max 0 (-dueOf (putL l2 d 3 p))) by rw [HLC.out]; unfold cancelL; rw [HL2.out])
      generalize putL l2 d 3 p = l3 at *
      have hdue : -10000000000000 ≤ sumOfK l3 0 ∧ sumOfK l3 0 ≤ 10000000000000 := hs3.sum _
      have hsl3 := hO3.sl
      clear hown3 hb3 hO2
      go_wp2_with fail
      refine (SumOf_any _ _ _ l3 0 _ hsl3 hs3).mono ?_
      rintro e w4 ⟨rfl, rfl⟩
      go_upto_if 39 with (fail)
      go_cut [8] (fun v wx => OwnE w wx v lc)
      case first =>
        by_cases hz : sumOfK l3 0 < 0
        · have HZ := Lib.hid (show lc = l3 ++ [⟨d, 4, -(sumOfK l3 0)⟩] by rw [HZ3.out, ← sumOfK_zero]; unfold putL; rw [if_neg (by omega)]; congr 4; omega)
          go_wp2_with (at_builtin; refine list_app_entry rfl (.tmp 40) (.tmp 45) rfl rfl rfl hO3 (by omega) hd (.of (by omega) (by omega)) (.of (by omega) (by omega)) ?_; intro A4 n4 cap4 w4 hO4)
          go_meet
          rw [HZ.out]
          exact hO4
        · have HZ := Lib.hid (show lc = l3 by rw [HZ3.out, ← sumOfK_zero]; unfold putL; rw [if_pos (by omega)])
          go_wp2_with fail
          go_meet
          rw [HZ.out]
          exact hO3
      case rest =>
        obtain ⟨A5, n5, cap5, xs5, rfl, hown5, hb5⟩ := hcut
        have hO5 : OwnE w wc (.slice A5 n5 cap5) lc := ⟨_, _, _, _, rfl, hown5, hb5⟩
        have hck := CheckFolio_any _ _ _ _ _ hO5.sl
        rw [← HRR.out] at hck
        have HK := Lib.hid hck
        clear hck hO3
        by_cases hr : r = 0
        · subst hr
          go_wp2_with (go_at_call 113; refine HK.out.mono ?_; rintro e w' ⟨rfl, hb6⟩)
          go_ret2
          exact ⟨_, _, rfl, hown5.below entryC_good hb6, hb5.trans (hb6.mono hb5.size)⟩
        · have hr' : (r != 0) = true := by simpa using hr
          have HR := Lib.hid hr
          clear hr
          go_wp2_with (go_at_call 113; refine HK.out.mono ?_; rintro e w' ⟨rfl, hb6⟩)
          go_ret2
          exact ⟨_, _, rfl, by rw [okL_ne HR.out]; exact Own.nil _ _ _ _ _, hb5.trans (hb6.mono hb5.size)⟩
end Go.Proofs.YtoilcdgpeilgaaaGreat
