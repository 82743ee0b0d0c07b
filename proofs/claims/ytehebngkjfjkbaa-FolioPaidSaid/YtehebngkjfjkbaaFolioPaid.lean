/-
  The law FolioPaid returns true for every folio, every day and every amount, and changes nothing that was there.
-/
import Derived.Test.YtehebngkjfjkbaaFolioJ
import Derived.Test.YtehebngkjfjkbaaFolioLift
namespace Go.Proofs.Ytehebngkjfjkbaa
open Go.ChangeShapes Go.WideShapes Go.ChangeAt Go.RowKit Go.Shelf

theorem addE_ok {l : List Entry} {x : Entry} (h : addE l x = 0) : checkFolio l = 0 ∧ checkFolio (l ++ [x]) = 0 := by
  unfold addE at h
  by_cases e : checkFolio l = 0
  · rw [if_pos e] at h; exact ⟨e, h⟩
  · rw [if_neg e] at h; exact absurd h e

set_option maxHeartbeats 4000000 in
theorem FolioPaid_walk (W : World) (A : Option Addr) (n cap : Nat) (l : List Entry) (h : Sl entryC 3 W All A n cap l) (d : Int) (hd : InI d) (a : Int) (_ha : InI a) :
    Calls Try.prog 5 #[.slice A n cap, .int .i64 d, .int .i64 a] W fun e w' => e = .returned (.bool true) ∧ Below W.heap.size W w' := by
  have how := Owed_any A n cap l W h
  obtain ⟨r, hr⟩ : ∃ r, r = checkFolio l := ⟨_, rfl⟩
  rw [← hr] at how
  have HR := Lib.hid hr
  have HO := Lib.hid how
  have hlen := Lib.hid h.len
  clear hr how
  by_cases hr0 : r = 0
  · subst hr0
    have hsum : -1200000000 ≤ dueOf l ∧ dueOf l ≤ 1200000000 := check_sum HR.out.symm _
    have hl12 := check_len HR.out.symm
    have hn12 : n ≤ 12 := by have := hlen.out; omega
    clear hl12
    by_cases ha0 : a < 0
    · go_enter Try.func5, Try.ntmps5
      go_wp2_with (first | (go_at_call 13; refine HO.out.mono ?_; rintro e w' ⟨rfl, hb1⟩; rw [okI_zero]) | (go_at_call 19; refine (folioBegun_any _).mono ?_; rintro e w' ⟨rfl, hb2⟩))
      go_ret
      exact ⟨rfl, hb1.trans (hb2.mono hb1.size)⟩
    · by_cases ha1 : 100000000 < a
      · go_enter Try.func5, Try.ntmps5
        go_wp2_with (first | (go_at_call 13; refine HO.out.mono ?_; rintro e w' ⟨rfl, hb1⟩; rw [okI_zero]) | (go_at_call 19; refine (folioBegun_any _).mono ?_; rintro e w' ⟨rfl, hb2⟩))
        go_ret
        exact ⟨rfl, hb1.trans (hb2.mono hb1.size)⟩
      · have ha2 : 0 ≤ a := by omega
        have ha3 : a ≤ 100000000 := by omega
        go_enter Try.func5, Try.ntmps5
        go_wp2_with (first | (go_at_call 13; refine HO.out.mono ?_; rintro e w' ⟨rfl, hb1⟩; rw [okI_zero]) | (go_at_call 19; refine (folioBegun_any _).mono ?_; rintro e w' ⟨rfl, hb2⟩))
        replace hb1 := hb1.trans (hb2.mono hb1.size)
        clear hb2
        have hadd := Add_any A n cap l d 2 (-a) _ (h.below entryC_good (by omega) hb1) hd (.of (by omega) (by omega)) (.of (by omega) (by omega))
        obtain ⟨ra, hra⟩ : ∃ ra, ra = addE l ⟨d, 2, -a⟩ := ⟨_, rfl⟩
        rw [← hra] at hadd
        refine hadd.mono ?_
        rintro e w3 ⟨v, xs, rfl, hown, hb3⟩
        replace hb3 := hb1.trans (hb3.mono hb1.size)
        obtain ⟨A4, n4, cap4, rfl, hs4⟩ := hown.sl entryC_good
        have hs4' := hs4.all entryC_good (by omega)
        have hlen4 := hs4.len
        have HRA := Lib.hid hra
        clear hadd hown hs4 hb1 hra
        by_cases hra0 : ra = 0
        · subst hra0
          obtain ⟨_, hck⟩ := addE_ok HRA.out.symm
          rw [okL_zero] at hs4' hlen4
          rw [List.length_append, hlen.out] at hlen4
          have hn4 : n4 = n + 1 := by simpa using hlen4.symm
          subst hn4
          have how2 := Owed_any _ _ _ _ _ hs4'
          rw [hck, okI_zero, dueOf_snoc] at how2
          have HO2 := Lib.hid how2
          clear how2 hck hlen4 hs4'
          go_wp2_with (go_at_call 13; refine HO2.out.mono ?_; rintro e w' ⟨rfl, hb5⟩)
          go_ret
          exact ⟨rfl, hb3.trans (hb5.mono hb3.size)⟩
        · have hra1 : (ra != 0) = true := by simpa using hra0
          rw [okL_ne hra0] at hlen4
          have hn4 : n4 = 0 := by simpa using hlen4.symm
          subst hn4
          clear hra0 hlen4
          go_wp2_with fail
          go_ret
          exact ⟨rfl, hb3⟩
  · have hr1 : (r != 0) = true := by simpa using hr0
    have ho := okI_ne hr0 (dueOf l)
    have HOI := Lib.hid ho
    clear hr0 ho
    go_enter Try.func5, Try.ntmps5
    go_wp2_with (first | (go_at_call 13; refine HO.out.mono ?_; rintro e w' ⟨rfl, hb1⟩; rw [HOI.out]) | (go_at_call 19; refine (folioBegun_any _).mono ?_; rintro e w' ⟨rfl, hb2⟩))
    go_ret
    exact ⟨rfl, hb1.trans (hb2.mono hb1.size)⟩

set_option maxRecDepth 100000 in
theorem FolioPaid_lifted (os : Os) (started : os.Started) (H : Type) (enc : TypeId × Value → H) :
    ReturnsInHanded {} Try.checked os 5 .any (Rows.folioPaidSpec.pre6 enc Try.prog Try.f5 Rows.folioPaidRow.domain false) (Rows.folioPaidSpec.post enc Try.prog Try.f5 false true false false) := by
  refine returnsInHanded_of_change (C := Try.checked) own started (by kernel_rfl) Try.func5
    (ChangeSpec.witness6 (enc := enc) (C := Try.checked) false ⟨#[], #[.slice none 0 0, .int .i64 0, .int .i64 0], []⟩ 8 (by kernel_rfl) (by kernel_rfl) (by kernel_rfl) (by kernel_rfl)) ?_
  intro W base args ds gs before hval0 hW hcnd _
  have hval : ∀ (j : Nat) t v, Try.f5.params[j]? = some t → args[j]? = some v → Value.okWide Try.prog W .any base t v := hval0
  have hW' := hW
  obtain ⟨p, q, hA0, hV, rfl, hfz, hnd⟩ := hW
  have hA : DataW.TrodAll enc Try.prog W 0 (fun _ => true) true Try.f5.params.toList args.toList ds p := hA0
  rw [Try.params5] at hA hval
  obtain ⟨v0, vs0, d0, ds0, p0, q0, hargs, rfl, rfl, h0, r0⟩ := trodAll_cons hA
  obtain ⟨v1, vs1, d1, ds1, p1, q1, rfl, rfl, rfl, h1, r1⟩ := trodAll_cons r0
  obtain ⟨v2, vs2, d2, ds2, p2, q2, rfl, rfl, rfl, h2, r2⟩ := trodAll_cons r1
  obtain ⟨rfl, rfl, rfl⟩ := trodAll_nil r2
  obtain rfl : args = #[v0, v1, v2] := by cases args; simp_all
  obtain ⟨rfl, rfl⟩ := trodVars_none hV
  have lt0 := arg_lt h0
  have k0 := h0
  obtain ⟨A0, n0, c0, a0, rfl, w0⟩ := arg_sl (size := 3) Try.underlying22 (by kernel_rfl) (by omega) opens_entryC (hval 0 22 v0 rfl rfl) h0
  have lt1 := arg_lt h1
  have k1 := h1
  obtain ⟨a1, rfl, w1⟩ := arg_int Try.underlying3 (hval 1 3 v1 rfl rfl) h1
  have lt2 := arg_lt h2
  have k2 := h2
  obtain ⟨a2, rfl, w2⟩ := arg_int Try.underlying3 (hval 2 3 v2 rfl rfl) h2
  clear hA0 hval0
  refine (FolioPaid_walk W A0 n0 c0 a0 w0 a1 w1 a2 w2).mono fun e W' ⟨he, bel⟩ => ?_
  subst he
  exact ⟨_, rfl, _, _, _, [], _, [], hW', trodAll_mk1 (shut_bool Try.underlying4 _), (trodAll_cons_mk (Below.trod laidOut (by kernel_rfl) (of_decide_eq_true (by kernel_rfl)) k0 bel lt0) (trodAll_cons_mk (Below.trod laidOut (by kernel_rfl) (of_decide_eq_true (by kernel_rfl)) k1 bel lt1) (trodAll_cons_mk (Below.trod laidOut (by kernel_rfl) (of_decide_eq_true (by kernel_rfl)) k2 bel lt2) trodAll_mk0))), rfl, bel.frame _, fun h => by cases h⟩

/-- THE GIVEN STATEMENT FolioPaid. -/
theorem folioPaid_holds : Rows.FolioPaidSaid :=
  OpenClaim.holds_of_wide 5 Try.f5 rfl rfl rfl rfl rfl rfl rfl ⟨rfl, rfl, rfl, rfl, rfl⟩ rfl rfl rfl rfl rfl (by kernel_rfl) Try.func5 (by kernel_rfl)
    (of_decide_eq_true (by kernel_rfl)) (by unfold Func.isWrapper; rw [if_neg (of_decide_eq_false (by kernel_rfl))]; exact ⟨rfl, rfl⟩)
    (fun os started H enc _ => FolioPaid_lifted os started H enc)
#print axioms folioPaid_holds
end Go.Proofs.Ytehebngkjfjkbaa
