/-
  Folios: the reference CancelOf; the laws' small helpers.
-/
import Derived.Test.YtehebngkjfjkbaaFolioH
import Derived.Deep.DeepCutAuto
namespace Go.Proofs.Ytehebngkjfjkbaa
open Go.RowKit Go.Shelf

/-- 'v is a slice of the call's own that holds l'. -/
def OwnE (w wx : World) (v : Value) (l : List Entry) : Prop := ∃ A n cap xs, v = .slice A n cap ∧ Own entryC 3 24 wx w.heap.size v l xs ∧ Below w.heap.size w wx

theorem OwnE.sl {w wx : World} {A : Option Addr} {n cap : Nat} {l : List Entry} (h : OwnE w wx (.slice A n cap) l) : Sl entryC 3 wx All A n cap l := by
  obtain ⟨A1, n1, c1, xs, _, hown, _⟩ := h
  obtain ⟨A2, n2, cap2, he, hsl⟩ := hown.sl entryC_good
  injection he with e1 e2 e3
  subst e1 e2 e3
  exact hsl.all entryC_good (by omega)

theorem list_app_entry {w wx : World} {A : Option Addr} {n cap : Nat} {l : List Entry} {d k m : Int} {ops : Array Oper} {rest : List Oper} {o : Oper} {a : Act} {Q : Exit → Act → World → Prop} (hgd : o.guard = none) (s x : Operand)
    (ho : o.op = .call { callee := .builtin .append, args := #[s, x], argTypes := #[22, 22] })
    (hs : a.eval s = .slice A n cap) (hx : a.eval x = .slice (some ⟨wx.heap.size, 0, none⟩) 1 1) (h : OwnE w wx (.slice A n cap) l) (hl : l.length ≤ 1000) (hd : InI d) (hk : InI k) (hm : InI m)
    (K : ∀ A' n' cap' w', OwnE w w' (.slice A' n' cap') (l ++ [⟨d, k, m⟩]) → wpList Try.prog ops Q rest (a.put o.dst (.slice A' n' cap')) w') :
    wpList Try.prog ops Q (o :: rest) a (wx.alloc (.cells #[.int .i64 d, .int .i64 k, .int .i64 m] 24)) := by
  obtain ⟨A1, n1, c1, xs, hv, hown, hb⟩ := h
  injection hv with e1 e2 e3
  subst e1 e2 e3
  have hown1 := hown.below entryC_good ((Below.refl wx.heap.size wx).alloc (Nat.le_refl _) (.cells #[.int .i64 d, .int .i64 k, .int .i64 m] 24))
  have hb1 := hb.alloc hb.size (.cells #[.int .i64 d, .int .i64 k, .int .i64 m] 24)
  refine list_app (e := 24) (bytes := 24) hgd s x ho entry_elem entryC_good hs hown1 hx (sl_entry wx All d k m 24 hd hk hm trivial) (fun _ _ hc => hc) (by omega) (by omega) hb1.size ?_
  intro v' w' xs' hown2 hg2 _
  obtain ⟨A2, n2, cap2, rfl, _⟩ := hown2.sl entryC_good
  exact K _ _ _ _ ⟨_, _, _, _, rfl, hown2, below_app hb1 hown1 hg2 hb1.size⟩

theorem faresOf_kinds (l : List Entry) : sumOfK l 1 + sumOfK l 4 = faresOf l := by
  induction l with
  | nil => rfl
  | cons x l ih =>
    simp only [sumOfK, faresOf, sumBy, List.filter_cons] at ih ⊢
    have h1 : kindB 1 x.kind = (x.kind == 1) := by simp [kindB]
    have h4 : kindB 4 x.kind = (x.kind == 4) := by simp [kindB]
    rw [h1, h4]
    unfold isFare
    by_cases e1 : x.kind = 1
    · simp [e1]; simp only [isFare] at ih; omega
    · by_cases e4 : x.kind = 4
      · simp [e4]; simp only [isFare] at ih; omega
      · simp [e1, e4]; simp only [isFare] at ih; omega

set_option maxHeartbeats 4000000 in
theorem CancelOf_any (A : Option Addr) (n cap : Nat) (l : List Entry) (d p : Int) (w : World) (h : Sl entryC 3 w All A n cap l) (hd : InI d) (hp : InI p) (hc : checkFolio l = 0) (hp0 : 0 ≤ p) (hp1 : p ≤ 100000000) :
    Calls Try.prog 18 #[.slice A n cap, .int .i64 d, .int .i64 p] w fun e w' => ∃ v xs, e = .returned (.tuple #[v, .int .i64 (checkFolio (cancelL l d p))]) ∧
      Own entryC 3 24 w' w.heap.size v (okL (checkFolio (cancelL l d p)) (cancelL l d p)) xs ∧ Below w.heap.size w w' := by
  obtain ⟨lc, hlc⟩ : ∃ lc, lc = cancelL l d p := ⟨_, rfl⟩
  obtain ⟨r, hr⟩ : ∃ r, r = checkFolio lc := ⟨_, rfl⟩
  rw [← hlc, ← hr]
  have HLC := Lib.hid hlc
  have HRR := Lib.hid hr
  clear hlc hr
  have hsm := check_small hc
  have hl := check_len hc
  have h1 := check_sum hc (kindB 1)
  have h4 := check_sum hc (kindB 4)
  rw [show sumBy (kindB 1) l = sumOfK l 1 from rfl] at h1
  rw [show sumBy (kindB 4) l = sumOfK l 4 from rfl] at h4
  have hlen := h.len
  have hn12 : n ≤ 12 := by omega
  have HF := Lib.hid (faresOf_kinds l)
  have HAM := Lib.hid (check_amounts hc)
  have HL := Lib.hid hl
  have HLEN := Lib.hid hlen
  clear hc hl hlen
  have hb0 : Below w.heap.size w (w.alloc (.cells #[] 24)) := (Below.refl _ _).alloc (Nat.le_refl _) _
  go_enter Try.func18, Try.ntmps18
  go_wp2_with (at_builtin; refine list_app (t := 22) (e := 24) (bytes := 24) rfl (.tmp 11) (.tmp 12) rfl entry_elem entryC_good rfl (Own.made w entryC 3 24 w.heap.size #[] 0 (Nat.le_refl _) (by simp [maxLen]) rfl) rfl (h.below entryC_good (by omega) hb0) (fun _ _ hc => hc) (by simp; omega) (by omega) (by simp) ?_; intro v1 w1 xs1 hown1 hg1 _; obtain ⟨A1, n1, cap1, rfl, hsl1⟩ := hown1.sl entryC_good)
  have hb1 : Below w.heap.size w w1 := below_app hb0 (Own.made w entryC 3 24 w.heap.size #[] 0 (Nat.le_refl _) (by simp [maxLen]) rfl) hg1 (by simp)
  have hO1 : OwnE w w1 (.slice A1 n1 cap1) l := ⟨_, _, _, _, rfl, hown1, hb1⟩
  clear hg1 hsl1 hown1
  refine (SumOf_any _ _ _ l 1 _ (h.below entryC_good (by omega) hb1) hsm).mono ?_
  rintro e w2 ⟨rfl, rfl⟩
  go_wp2_with fail
  refine (SumOf_any _ _ _ l 4 _ (h.below entryC_good (by omega) hb1) hsm).mono ?_
  rintro e w2 ⟨rfl, rfl⟩
  go_upto_if 20 with (fail)
  go_cut [8] (fun v wx => OwnE w wx v (putL l d 4 (-faresOf l)))
  case first =>
    by_cases hz : sumOfK l 1 + sumOfK l 4 = 0
    · have hz' : (sumOfK l 1 + sumOfK l 4 != 0) = false := by simp [hz]
      have HO := Lib.hid hO1
      have HZ := Lib.hid (show putL l d 4 (-faresOf l) = l by unfold putL; rw [← HF.out, if_pos (by omega)])
      clear hz hO1
      go_wp2_with fail
      go_meet
      rw [HZ.out]
      exact HO.out
    · have hz' : (sumOfK l 1 + sumOfK l 4 != 0) = true := by simpa using hz
      have HZ := Lib.hid (show putL l d 4 (-faresOf l) = l ++ [⟨d, 4, -(sumOfK l 1 + sumOfK l 4)⟩] by unfold putL; rw [← HF.out, if_neg (by omega)])
      clear hz
      go_wp2_with (at_builtin; refine list_app_entry rfl (.tmp 21) (.tmp 26) rfl rfl rfl hO1 (by have := HL.out; omega) hd (.of (by omega) (by omega)) (.of (by omega) (by omega)) ?_; intro A2 n2 cap2 w2 hO2)
      go_meet
      rw [HZ.out]
      exact hO2
  case rest =>
    obtain ⟨A2, n2, cap2, xs2, rfl, hown2, hb2⟩ := hcut
    have hO2 : OwnE w wc (.slice A2 n2 cap2) (putL l d 4 (-faresOf l)) := ⟨_, _, _, _, rfl, hown2, hb2⟩
    have hl2 := putL_length l d 4 (-faresOf l)
    have hs2 := putL_small (d := d) (k := 4) (m := -faresOf l) hsm.2 (by have := HF.out; omega) (by have := HF.out; omega)
    obtain ⟨l2, hl2e⟩ : ∃ l2, l2 = putL l d 4 (-faresOf l) := ⟨_, rfl⟩
    rw [← hl2e] at hO2 hl2 hs2
    have HL2 := Lib.hid hl2e
    have HLL2 := Lib.hid hl2
    have HS2 := Lib.hid hs2
    clear hl2e hl2 hs2 hown2 hb2 hO1
    go_upto_if 29 with (fail)
    go_cut [8] (fun v wx => OwnE w wx v (putL l2 d 3 p))
    case first =>
      by_cases hz : p = 0
      · have hz' : (p != 0) = false := by simp [hz]
        have HO := Lib.hid hO2
        have HZ := Lib.hid (show putL l2 d 3 p = l2 by unfold putL; rw [if_pos hz])
        clear hz hO2
        go_wp2_with fail
        go_meet
        rw [HZ.out]
        exact HO.out
      · have hz' : (p != 0) = true := by simpa using hz
        have HZ := Lib.hid (show putL l2 d 3 p = l2 ++ [⟨d, 3, p⟩] by unfold putL; rw [if_neg hz])
        clear hz
        go_wp2_with (at_builtin; refine list_app_entry rfl (.tmp 30) (.tmp 34) rfl rfl rfl hO2 (by have := HL.out; have := HLL2.out; omega) hd (.of (by omega) (by omega)) hp ?_; intro A3 n3 cap3 w3 hO3)
        go_meet
        rw [HZ.out]
        exact hO3
    case rest =>
      obtain ⟨A3, n3, cap3, xs3, rfl, hown3, hb3⟩ := hcut
      have hO3 : OwnE w wc (.slice A3 n3 cap3) (putL l2 d 3 p) := ⟨_, _, _, _, rfl, hown3, hb3⟩
      have hl3 : (putL l2 d 3 p).length ≤ 14 := by have := putL_length l2 d 3 p; have := HLL2.out; have := HL.out; omega
      have hs3 : Small (putL l2 d 3 p) := ⟨by omega, putL_small HS2.out (by omega) (by omega)⟩
      have HZ3 := Lib.hid (show lc = putL (putL l2 d 3 p) d 4 (max 0 (-dueOf (putL l2 d 3 p))) by rw [HLC.out]; unfold cancelL; rw [HL2.out])
      generalize putL l2 d 3 p = l3 at *
      have hdue : -10000000000000 ≤ sumOfK l3 0 ∧ sumOfK l3 0 ≤ 10000000000000 := hs3.sum _
      have hsl3 := hO3.sl
      clear hown3 hb3 hO2
      go_wp2_with fail
      refine (SumOf_any _ _ _ l3 0 _ hsl3 hs3).mono ?_
      rintro e w4 ⟨rfl, rfl⟩
      go_upto_if 39 with (fail)
      go_cut [8] (fun v wx => OwnE w wx v lc)
      case first =>
        by_cases hz : sumOfK l3 0 < 0
        · have HZ := Lib.hid (show lc = l3 ++ [⟨d, 4, -(sumOfK l3 0)⟩] by rw [HZ3.out, ← sumOfK_zero]; unfold putL; rw [if_neg (by omega)]; congr 4; omega)
          go_wp2_with (at_builtin; refine list_app_entry rfl (.tmp 40) (.tmp 45) rfl rfl rfl hO3 (by omega) hd (.of (by omega) (by omega)) (.of (by omega) (by omega)) ?_; intro A4 n4 cap4 w4 hO4)
          go_meet
          rw [HZ.out]
          exact hO4
        · have HZ := Lib.hid (show lc = l3 by rw [HZ3.out, ← sumOfK_zero]; unfold putL; rw [if_pos (by omega)])
          go_wp2_with fail
          go_meet
          rw [HZ.out]
          exact hO3
      case rest =>
        obtain ⟨A5, n5, cap5, xs5, rfl, hown5, hb5⟩ := hcut
        have hO5 : OwnE w wc (.slice A5 n5 cap5) lc := ⟨_, _, _, _, rfl, hown5, hb5⟩
        have hck := CheckFolio_any _ _ _ _ _ hO5.sl
        rw [← HRR.out] at hck
        have HK := Lib.hid hck
        clear hck hO3
        by_cases hr : r = 0
        · subst hr
          go_wp2_with (go_at_call 16; refine HK.out.mono ?_; rintro e w' ⟨rfl, hb6⟩)
          go_ret2
          exact ⟨_, _, rfl, hown5.below entryC_good hb6, hb5.trans (hb6.mono hb5.size)⟩
        · have hr' : (r != 0) = true := by simpa using hr
          have HR := Lib.hid hr
          clear hr
          go_wp2_with (go_at_call 16; refine HK.out.mono ?_; rintro e w' ⟨rfl, hb6⟩)
          go_ret2
          exact ⟨_, _, rfl, by rw [okL_ne HR.out]; exact Own.nil _ _ _ _ _, hb5.trans (hb6.mono hb5.size)⟩
end Go.Proofs.Ytehebngkjfjkbaa
