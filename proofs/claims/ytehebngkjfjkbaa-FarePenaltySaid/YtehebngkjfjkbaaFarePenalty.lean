/-
  The law FarePenalty returns true, whatever it is handed, and changes nothing that was there.
-/
import Derived.Test.YtehebngkjfjkbaaFareI
import Derived.Test.YtehebngkjfjkbaaFareJ
import Derived.Test.YtehebngkjfjkbaaFareLift
namespace Go.Proofs.Ytehebngkjfjkbaa
open Go.ChangeShapes Go.WideShapes Go.ChangeAt Go.RowKit Go.Shelf

set_option maxRecDepth 100000 in
set_option maxHeartbeats 8000000 in
theorem FarePenalty_walk (W : World) (cs : Array Value) (x : Fares) (hx : fareC W All x cs.toList) (c : Int) (_ : InI c) (g : Int) (_ : InI g) (p : Int) (_ : InI p) (d : Int) (_ : InI d) (q : Int) (_ : InI q) :
    Calls Try.prog 11 #[.agg cs, .int .i64 c, .int .i64 g, .int .i64 p, .int .i64 d, .int .i64 q] W fun e w' => e = .returned (.bool true) ∧ Below W.heap.size W w' := by
  obtain ⟨A, n, cap, B, m, cap2, hcs, hl, hbn, ia, it, id⟩ := hx
  obtain rfl : cs = #[.slice A n cap, .int .i64 x.alone, .int .i64 x.third, .slice B m cap2, .int .i64 x.down] := by cases cs; simp_all
  have h : FareR W A n cap x B m cap2 := ⟨hl, hbn, ia, it, id⟩
  clear hcs hl hbn ia it id
  have hD := fun w h => Down_any A n cap x B m cap2 c g p w h
  have hN := fun w h => Penalty_any A n cap x B m cap2 c g p d w h
  have hM := fun w h => Penalty_any A n cap x B m cap2 c g p q w h
  obtain ⟨we, ew⟩ : ∃ u, u = payE x c g p := ⟨_, rfl⟩
  obtain ⟨xe, ex⟩ : ∃ u, u = penE x c g p d := ⟨_, rfl⟩
  obtain ⟨nv, en⟩ : ∃ u, u = okI xe (lateV x p d) := ⟨_, rfl⟩
  obtain ⟨dv, ed⟩ : ∃ u, u = okI we (partV p x.down) := ⟨_, rfl⟩
  rw [← ew, ← ed] at hD
  rw [← ex, ← en] at hN
  have HD := Lib.hid hD
  clear hD
  have HN := Lib.hid hN
  clear hN
  have HM := Lib.hid hM
  clear hM
  have EW := Lib.hid ew
  clear ew
  have EX := Lib.hid ex
  clear ex
  have EN := Lib.hid en
  clear en
  have ED := Lib.hid ed
  clear ed
  go_enter Try.func11, Try.ntmps11
  go_upto_region 0 with (fail)
  go_cut [6] (fun t wx => t = .pointer (some ⟨W.heap.size, 0, none⟩) ∧ FareAt wx W.heap.size A n cap x B m cap2 ∧ Below W.heap.size W wx)
  case first => as_aux_lemma =>
    go_wp2_with fail
    go_meet
    exact ⟨rfl, blk1 _ _, bel1 _ _⟩
  obtain ⟨rfl, hF, hb0⟩ := hcut
  obtain ⟨W0, rfl⟩ : ∃ W0, W0 = wc := ⟨_, rfl⟩
  replace h := h.below hb0
  have hb := Below.refl W0.heap.size W0
  have k0 := hF.c0
  have k1 := hF.c1
  have k2 := hF.c2
  have k3 := hF.c3
  have k4 := hF.c4
  go_wp2_with fail
  refine (HN.out _ (h.below hb)).mono ?_
  rintro e w101 ⟨rfl, hb101⟩
  replace hb := hb.trans (hb101.mono hb.size)
  replace k0 := (hF.below hb).c0
  replace k1 := (hF.below hb).c1
  replace k2 := (hF.below hb).c2
  replace k3 := (hF.below hb).c3
  replace k4 := (hF.below hb).c4
  clear hb101
  go_wp2_with fail
  refine (fareBegun_any _).mono ?_
  rintro e w102 ⟨rfl, hb102⟩
  replace hb := hb.trans (hb102.mono hb.size)
  replace k0 := (hF.below hb).c0
  replace k1 := (hF.below hb).c1
  replace k2 := (hF.below hb).c2
  replace k3 := (hF.below hb).c3
  replace k4 := (hF.below hb).c4
  clear hb102
  by_cases h0 : xe = 0
  · subst h0
    obtain ⟨hp, hd⟩ := pen_ok EX.out.symm
    obtain ⟨hok, p0, p1⟩ := pay_ok hp
    obtain rfl : we = 0 := EW.out.trans hp
    have hn := late_bd hok p0 d
    rw [show lateV x p d = nv from EN.out.symm] at hn
    have hdd := hok.d
    have hv1 := partV_pos p0 hdd.1
    have hv2 := partV_all p0 hdd.2
    rw [show partV p x.down = dv from ED.out.symm] at hv1 hv2
    have HP := Lib.hid hp
    clear hp
    have HOK := Lib.hid hok
    clear hok
    go_wp2_with fail
    go_wp2_with fail
    refine (HD.out _ (h.below hb)).mono ?_
    rintro e w103 ⟨rfl, hb103⟩
    replace hb := hb.trans (hb103.mono hb.size)
    replace k0 := (hF.below hb).c0
    replace k1 := (hF.below hb).c1
    replace k2 := (hF.below hb).c2
    replace k3 := (hF.below hb).c3
    replace k4 := (hF.below hb).c4
    clear hb103
    by_cases hq : q < d
    · go_wp2_with fail
      go_ret
      exact ⟨rfl, hb0.trans (hb.mono hb0.size)⟩
    · have hM2 := HM.out
      have hm := late_mono HOK.out p0 (show d ≤ q by omega)
      rw [show lateV x p d = nv from EN.out.symm] at hm
      rw [pen_zero HP.out (show 0 ≤ q by omega), okI_zero] at hM2
      obtain ⟨mv, em⟩ : ∃ u, u = lateV x p q := ⟨_, rfl⟩
      rw [← em] at hm hM2
      clear em HM
      have HM2 := Lib.hid hM2
      clear hM2
      go_wp2_with fail
      go_wp2_with fail
      refine (HM2.out _ (h.below hb)).mono ?_
      rintro e w104 ⟨rfl, hb104⟩
      replace hb := hb.trans (hb104.mono hb.size)
      replace k0 := (hF.below hb).c0
      replace k1 := (hF.below hb).c1
      replace k2 := (hF.below hb).c2
      replace k3 := (hF.below hb).c3
      replace k4 := (hF.below hb).c4
      clear hb104
      go_wp2_with fail
      go_ret
      exact ⟨rfl, hb0.trans (hb.mono hb0.size)⟩
  · have h0' : (xe != 0) = true := by simpa using h0
    have hnv : nv = 0 := by rw [EN.out, okI_ne h0]
    subst hnv
    clear h0
    go_wp2_with fail
    go_ret
    exact ⟨rfl, hb0.trans (hb.mono hb0.size)⟩
set_option maxRecDepth 100000 in
theorem FarePenalty_lifted (os : Os) (started : os.Started) (H : Type) (enc : TypeId × Value → H) :
    ReturnsInHanded {} Try.checked os 11 .any (Rows.farePenaltySpec.pre6 enc Try.prog Try.f11 Rows.farePenaltyRow.domain false) (Rows.farePenaltySpec.post enc Try.prog Try.f11 false true false false) := by
  refine returnsInHanded_of_change (C := Try.checked) own started (by kernel_rfl) Try.func11
    (ChangeSpec.witness6 (enc := enc) (C := Try.checked) false ⟨#[], #[.agg #[.slice none 0 0, .int .i64 0, .int .i64 0, .slice none 0 0, .int .i64 0], .int .i64 0, .int .i64 0, .int .i64 0, .int .i64 0, .int .i64 0], []⟩ 8 (by kernel_rfl) (by kernel_rfl) (by kernel_rfl) (by kernel_rfl)) ?_
  intro W base args ds gs before hval0 hW hcnd _
  have hval : ∀ (j : Nat) t v, Try.f11.params[j]? = some t → args[j]? = some v → Value.okWide Try.prog W .any base t v := hval0
  have hW' := hW
  obtain ⟨p, q, hA0, hV, rfl, hfz, hnd⟩ := hW
  have hA : DataW.TrodAll enc Try.prog W 0 (fun _ => true) true Try.f11.params.toList args.toList ds p := hA0
  rw [Try.params11] at hA hval
  obtain ⟨v0, vs0, d0, ds0, p0, q0, hargs, rfl, rfl, h0, r0⟩ := trodAll_cons hA
  obtain ⟨v1, vs1, d1, ds1, p1, q1, rfl, rfl, rfl, h1, r1⟩ := trodAll_cons r0
  obtain ⟨v2, vs2, d2, ds2, p2, q2, rfl, rfl, rfl, h2, r2⟩ := trodAll_cons r1
  obtain ⟨v3, vs3, d3, ds3, p3, q3, rfl, rfl, rfl, h3, r3⟩ := trodAll_cons r2
  obtain ⟨v4, vs4, d4, ds4, p4, q4, rfl, rfl, rfl, h4, r4⟩ := trodAll_cons r3
  obtain ⟨v5, vs5, d5, ds5, p5, q5, rfl, rfl, rfl, h5, r5⟩ := trodAll_cons r4
  obtain ⟨rfl, rfl, rfl⟩ := trodAll_nil r5
  obtain rfl : args = #[v0, v1, v2, v3, v4, v5] := by cases args; simp_all
  obtain ⟨rfl, rfl⟩ := trodVars_none hV
  have lt0 := arg_lt h0
  have k0 := h0
  obtain ⟨cs0, a0, rfl, w0⟩ := arg_agg (c := fareC) Try.underlying68 opens_fareC (hval 0 68 v0 rfl rfl) h0
  have lt1 := arg_lt h1
  have k1 := h1
  obtain ⟨a1, rfl, w1⟩ := arg_int Try.underlying3 (hval 1 3 v1 rfl rfl) h1
  have lt2 := arg_lt h2
  have k2 := h2
  obtain ⟨a2, rfl, w2⟩ := arg_int Try.underlying3 (hval 2 3 v2 rfl rfl) h2
  have lt3 := arg_lt h3
  have k3 := h3
  obtain ⟨a3, rfl, w3⟩ := arg_int Try.underlying3 (hval 3 3 v3 rfl rfl) h3
  have lt4 := arg_lt h4
  have k4 := h4
  obtain ⟨a4, rfl, w4⟩ := arg_int Try.underlying3 (hval 4 3 v4 rfl rfl) h4
  have lt5 := arg_lt h5
  have k5 := h5
  obtain ⟨a5, rfl, w5⟩ := arg_int Try.underlying3 (hval 5 3 v5 rfl rfl) h5
  clear hA0 hval0
  refine (FarePenalty_walk W cs0 a0 w0 a1 w1 a2 w2 a3 w3 a4 w4 a5 w5).mono fun e W' ⟨he, bel⟩ => ?_
  subst he
  exact ⟨_, rfl, _, _, _, [], _, [], hW', trodAll_mk1 (shut_bool Try.underlying4 _), (trodAll_cons_mk (Below.trod laidOut (by kernel_rfl) (of_decide_eq_true (by kernel_rfl)) k0 bel lt0) (trodAll_cons_mk (Below.trod laidOut (by kernel_rfl) (of_decide_eq_true (by kernel_rfl)) k1 bel lt1) (trodAll_cons_mk (Below.trod laidOut (by kernel_rfl) (of_decide_eq_true (by kernel_rfl)) k2 bel lt2) (trodAll_cons_mk (Below.trod laidOut (by kernel_rfl) (of_decide_eq_true (by kernel_rfl)) k3 bel lt3) (trodAll_cons_mk (Below.trod laidOut (by kernel_rfl) (of_decide_eq_true (by kernel_rfl)) k4 bel lt4) (trodAll_cons_mk (Below.trod laidOut (by kernel_rfl) (of_decide_eq_true (by kernel_rfl)) k5 bel lt5) trodAll_mk0)))))), rfl, bel.frame _, fun h => by cases h⟩

/-- THE GIVEN STATEMENT FarePenalty. -/
theorem farePenalty_holds : Rows.FarePenaltySaid :=
  OpenClaim.holds_of_wide 11 Try.f11 rfl rfl rfl rfl rfl rfl rfl ⟨rfl, rfl, rfl, rfl, rfl⟩ rfl rfl rfl rfl rfl (by kernel_rfl) Try.func11 (by kernel_rfl)
    (of_decide_eq_true (by kernel_rfl)) (by unfold Func.isWrapper; rw [if_neg (of_decide_eq_false (by kernel_rfl))]; exact ⟨rfl, rfl⟩)
    (fun os started H enc _ => FarePenalty_lifted os started H enc)
#print axioms farePenalty_holds
end Go.Proofs.Ytehebngkjfjkbaa
