/-
  The law FareParts returns true, whatever it is handed, and changes nothing that was there.
-/
import Derived.Test.YtehebngkjfjkbaaFareI
import Derived.Test.YtehebngkjfjkbaaFareJ
import Derived.Test.YtehebngkjfjkbaaFareLift
namespace Go.Proofs.Ytehebngkjfjkbaa
open Go.ChangeShapes Go.WideShapes Go.ChangeAt Go.RowKit Go.Shelf

/-- What the price of a span is, in whole. -/
theorem price_parts {x : Fares} {c g cat : Int} {a b : Int} {q : Int} (h : priceE x c g cat ⟨a, b⟩ q = 0) : ∃ S : Int, 0 ≤ S ∧ S ≤ 700000 ∧ ofV x cat ⟨a, b⟩ 2 = 2 * S ∧
    (∀ gu, 2 ≤ gu → gu ≤ 4 → ∃ P, 0 ≤ P ∧ P ≤ S ∧ ofV x cat ⟨a, b⟩ gu = 2 * S + (gu - 2) * P ∧ ofV x cat ⟨a, b⟩ (gu + 1) = 2 * S + (gu - 1) * P) ∧
    ∀ t, a < t → t < b → ∃ S1 S2, S = S1 + S2 ∧ ofV x cat ⟨a, t⟩ 2 = 2 * S1 ∧ ofV x cat ⟨t, b⟩ 2 = 2 * S2 ∧ 0 ≤ S1 ∧ 0 ≤ S2 := by
  obtain ⟨hok, c0, c1, a0, a1, b1, g0, g1⟩ := price_ok h
  simp only at a0 a1 b1
  obtain ⟨f, rfl⟩ := Int.eq_ofNat_of_zero_le a0
  obtain ⟨t, rfl⟩ := Int.eq_ofNat_of_zero_le (show 0 ≤ b by omega)
  obtain ⟨k, rfl⟩ := Int.eq_ofNat_of_zero_le c0
  have hkl : k < x.leg.length := by have := hok.len; omega
  have hL : x.leg[k]? = some x.leg[k] := List.getElem?_eq_getElem hkl
  obtain ⟨L, hLL⟩ : ∃ L, L = x.leg[k] := ⟨_, rfl⟩
  rw [← hLL] at hL
  have hlen := hok.lens L (List.mem_of_getElem? hL)
  have hmr := hok.mr
  have hv := hok.leg L (List.mem_of_getElem? hL)
  have of2 : ∀ (u v : Int) (gu : Int), 2 ≤ gu → ofV x k ⟨u, v⟩ gu = 2 * (seg L u v).sum + (gu - 2) * partV (seg L u v).sum x.third := fun u v gu hg => by
    unfold ofV paysV
    rw [if_neg (by omega), Int.toNat_natCast, hL, Option.getD_some]
  have bd : ∀ u v : Nat, 0 ≤ (seg L u v).sum ∧ (seg L u v).sum ≤ 700000 := fun u v => by
    have h1 := sum_bd (l := seg L u v) (M := 100000) fun y hy => hv y (seg_mem hy)
    have h2 : (seg L u v).length ≤ L.length := by unfold seg; rw [List.length_take, List.length_drop]; omega
    omega
  refine ⟨(seg L f t).sum, (bd f t).1, (bd f t).2, ?_, fun gu h2 h4 => ⟨partV (seg L f t).sum x.third, partV_pos (bd f t).1 hok.t.1, partV_all (bd f t).1 hok.t.2, of2 _ _ _ h2, ?_⟩, fun y h1 h2 => ?_⟩
  · rw [of2 _ _ 2 (by omega)]; omega
  · rw [of2 _ _ (gu + 1) (by omega)]; congr 2; omega
  · obtain ⟨m, rfl⟩ := Int.eq_ofNat_of_zero_le (show 0 ≤ y by omega)
    refine ⟨(seg L f m).sum, (seg L m t).sum, ?_, ?_, ?_, (bd _ _).1, (bd _ _).1⟩
    · rw [seg_split (b := m) (by omega) (by omega), List.sum_append]
    · rw [of2 _ _ 2 (by omega)]; omega
    · rw [of2 _ _ 2 (by omega)]; omega

set_option maxRecDepth 100000 in
set_option maxHeartbeats 8000000 in
theorem FareParts_walk (W : World) (cs : Array Value) (x : Fares) (hx : fareC W All x cs.toList) (c : Int) (_ : InI c) (g : Int) (_ : InI g) (cat : Int) (_ : InI cat) (cs2 : Array Value) (s : Span) (hs : spanC W All s cs2.toList) (at' : Int) (_ : InI at') (gu : Int) (_ : InI gu) :
    Calls Try.prog 12 #[.agg cs, .int .i64 c, .int .i64 g, .int .i64 cat, .agg cs2, .int .i64 at', .int .i64 gu] W fun e w' => e = .returned (.bool true) ∧ Below W.heap.size W w' := by
  obtain ⟨A, n, cap, B, m, cap2, hcs, hl, hbn, ia, it, id⟩ := hx
  obtain rfl : cs = #[.slice A n cap, .int .i64 x.alone, .int .i64 x.third, .slice B m cap2, .int .i64 x.down] := by cases cs; simp_all
  obtain ⟨a, b⟩ := s
  obtain ⟨hs, ja, jb⟩ := hs
  obtain rfl : cs2 = #[.int .i64 a, .int .i64 b] := by cases cs2; simp_all
  simp only at ja jb
  have h : FareR W A n cap x B m cap2 := ⟨hl, hbn, ia, it, id⟩
  clear hcs hs hl hbn ia it id
  have hP := fun a b q w h => Price_any A n cap x B m cap2 c g cat a b q w h
  have hQ := hP a b 2
  obtain ⟨ue, eu⟩ : ∃ u, u = priceE x c g cat ⟨a, b⟩ 2 := ⟨_, rfl⟩
  obtain ⟨pv, ep⟩ : ∃ u, u = okI ue (ofV x cat ⟨a, b⟩ 2) := ⟨_, rfl⟩
  rw [← eu, ← ep] at hQ
  have HP := Lib.hid hP
  clear hP
  have HQ := Lib.hid hQ
  clear hQ
  have EU := Lib.hid eu
  clear eu
  have EP := Lib.hid ep
  clear ep
  go_enter Try.func12, Try.ntmps12
  go_upto_region 0 with (fail)
  go_cut [7, 11] (fun t r wx => t = .pointer (some ⟨W.heap.size, 0, none⟩) ∧ r = .pointer (some ⟨W.heap.size + 1, 0, none⟩) ∧ FareAt wx W.heap.size A n cap x B m cap2 ∧ SpanAt wx (W.heap.size + 1) a b ∧ Below W.heap.size W wx)
  case first => as_aux_lemma =>
    go_wp2_with fail
    go_meet
    exact ⟨rfl, rfl, blk2_0 _ _ _, blk2_1 _ _ _, bel2 _ _ _⟩
  obtain ⟨rfl, rfl, hF, hS, hb0⟩ := hcut
  obtain ⟨W0, rfl⟩ : ∃ W0, W0 = wc := ⟨_, rfl⟩
  replace h := h.below hb0
  have hb := Below.refl W0.heap.size W0
  have k0 := hF.c0
  have k1 := hF.c1
  have k2 := hF.c2
  have k3 := hF.c3
  have k4 := hF.c4
  have s0 := hS.c0
  have s1 := hS.c1
  go_wp2_with fail
  refine (HQ.out _ (h.below hb)).mono ?_
  rintro e w101 ⟨rfl, hb101⟩
  replace hb := hb.trans (hb101.mono hb.size)
  replace k0 := (hF.below hb).c0
  replace k1 := (hF.below hb).c1
  replace k2 := (hF.below hb).c2
  replace k3 := (hF.below hb).c3
  replace k4 := (hF.below hb).c4
  replace s0 := (hS.below hb).c0
  replace s1 := (hS.below hb).c1
  clear hb101
  go_wp2_with fail
  refine (fareBegun_any _).mono ?_
  rintro e w102 ⟨rfl, hb102⟩
  replace hb := hb.trans (hb102.mono hb.size)
  replace k0 := (hF.below hb).c0
  replace k1 := (hF.below hb).c1
  replace k2 := (hF.below hb).c2
  replace k3 := (hF.below hb).c3
  replace k4 := (hF.below hb).c4
  replace s0 := (hS.below hb).c0
  replace s1 := (hS.below hb).c1
  clear hb102
  by_cases h0 : ue = 0
  · subst h0
    obtain ⟨S, S0, S7, hS2, hG, hT⟩ := price_parts EU.out.symm
    obtain rfl : pv = 2 * S := by rw [EP.out]; exact hS2
    obtain ⟨_, _, _, a0, a1, b1, _, _⟩ := price_ok EU.out.symm
    simp only at a0 a1 b1
    have Z := Lib.hid (fun (u v q : Int) (h1 : 0 ≤ u) (h2 : u < v) (h3 : v ≤ g) (h4 : 1 ≤ q) (h5 : q ≤ 4) => price_zero (s' := ⟨u, v⟩) (g' := q) EU.out.symm h1 h2 h3 h4 h5)
    have HG := Lib.hid hG
    clear hG
    clear hS2
    go_upto_region 6 with (fail)
    go_cut [48] (fun t wx => (∃ r : Bool, t = .bool r ∧ Aside (r = (decide (a < at') && decide (at' < b)))) ∧ Below W0.heap.size W0 wx)
    case first => as_aux_lemma =>
      by_cases h1 : a < at'
      · by_cases h2 : at' < b
        · have HE := Lib.hid (show (decide (a < at') && decide (at' < b)) = true by simp [h1, h2])
          go_wp2_with fail
          go_meet
          exact ⟨⟨true, rfl, by show _ = _; rw [HE.out]⟩, hb⟩
        · have HE := Lib.hid (show (decide (a < at') && decide (at' < b)) = false by simp [h2])
          go_wp2_with fail
          go_meet
          exact ⟨⟨false, rfl, by show _ = _; rw [HE.out]⟩, hb⟩
      · have HE := Lib.hid (show (decide (a < at') && decide (at' < b)) = false by simp [h1])
        go_wp2_with fail
        go_meet
        exact ⟨⟨false, rfl, by show _ = _; rw [HE.out]⟩, hb⟩
    clear hb
    obtain ⟨⟨r, rfl, HRR⟩, hb⟩ := hcut
    replace k0 := (hF.below hb).c0; replace k1 := (hF.below hb).c1; replace k2 := (hF.below hb).c2; replace k3 := (hF.below hb).c3; replace k4 := (hF.below hb).c4; replace s0 := (hS.below hb).c0; replace s1 := (hS.below hb).c1
    have HT := Lib.hid hT
    clear hT
    go_upto_if 48 with (fail)
    go_cut [] (fun wx => Below W0.heap.size W0 wx)
    case first => as_aux_lemma =>
      cases r
      · go_wp2_with fail
        go_meet
        exact hb
      · have hr : true = (decide (a < at') && decide (at' < b)) := HRR
        simp at hr
        obtain ⟨S1, S2, hSS, h1, h2, p1, p2⟩ := HT.out at' hr.1 hr.2
        have hP1 := HP.out a at' 2
        rw [Z.out a at' 2 a0 hr.1 (by omega) (by omega) (by omega), okI_zero, h1] at hP1
        have hP2 := HP.out at' b 2
        rw [Z.out at' b 2 (by omega) hr.2 b1 (by omega) (by omega), okI_zero, h2] at hP2
        have HP1 := Lib.hid hP1
        clear hP1
        have HP2 := Lib.hid hP2
        clear hP2
        clear h1 h2
        go_wp2_with fail
        refine (HP1.out _ (h.below hb)).mono ?_
        rintro e w103 ⟨rfl, hb103⟩
        replace hb := hb.trans (hb103.mono hb.size)
        replace k0 := (hF.below hb).c0
        replace k1 := (hF.below hb).c1
        replace k2 := (hF.below hb).c2
        replace k3 := (hF.below hb).c3
        replace k4 := (hF.below hb).c4
        replace s0 := (hS.below hb).c0
        replace s1 := (hS.below hb).c1
        clear hb103
        go_wp2_with fail
        refine (HP2.out _ (h.below hb)).mono ?_
        rintro e w104 ⟨rfl, hb104⟩
        replace hb := hb.trans (hb104.mono hb.size)
        replace k0 := (hF.below hb).c0
        replace k1 := (hF.below hb).c1
        replace k2 := (hF.below hb).c2
        replace k3 := (hF.below hb).c3
        replace k4 := (hF.below hb).c4
        replace s0 := (hS.below hb).c0
        replace s1 := (hS.below hb).c1
        clear hb104
        have hne : (2 * S != 2 * S1 + 2 * S2) = false := by simp; omega
        subst hSS
        go_wp2_with fail
        go_meet
        exact hb
    clear hb
    have hb := hcut
    clear hcut
    replace k0 := (hF.below hb).c0; replace k1 := (hF.below hb).c1; replace k2 := (hF.below hb).c2; replace k3 := (hF.below hb).c3; replace k4 := (hF.below hb).c4; replace s0 := (hS.below hb).c0; replace s1 := (hS.below hb).c1
    by_cases h1 : gu < 2
    · go_wp2_with fail
      go_ret
      exact ⟨rfl, hb0.trans (hb.mono hb0.size)⟩
    · by_cases h2 : 4 ≤ gu
      · go_wp2_with fail
        go_ret
        exact ⟨rfl, hb0.trans (hb.mono hb0.size)⟩
      · obtain ⟨P, P0, P1, v1, v2⟩ := HG.out gu (by omega) (by omega)
        have hP1 := HP.out a b gu
        rw [Z.out a b gu a0 a1 b1 (by omega) (by omega), okI_zero, v1] at hP1
        have hP2 := HP.out a b (gu + 1)
        rw [Z.out a b (gu + 1) a0 a1 b1 (by omega) (by omega), okI_zero, v2] at hP2
        obtain ⟨V1, e1⟩ : ∃ V, V = 2 * S + (gu - 2) * P := ⟨_, rfl⟩
        obtain ⟨V2, e2⟩ : ∃ V, V = 2 * S + (gu - 1) * P := ⟨_, rfl⟩
        have e3 : V2 = V1 + P := by rw [e1, e2, show gu - 1 = (gu - 2) + 1 by omega, Int.add_mul]; omega
        have e4 : 0 ≤ V1 ∧ V1 ≤ 10000000 := by
          rw [e1]
          rcases (show gu = 2 ∨ gu = 3 by omega) with rfl | rfl <;> omega
        rw [← e1] at hP1
        rw [← e2] at hP2
        have HP1 := Lib.hid hP1
        clear hP1
        have HP2 := Lib.hid hP2
        clear hP2
        subst e3
        clear e1 e2 v1 v2
        go_wp2_with fail
        refine (HP1.out _ (h.below hb)).mono ?_
        rintro e w105 ⟨rfl, hb105⟩
        replace hb := hb.trans (hb105.mono hb.size)
        replace k0 := (hF.below hb).c0
        replace k1 := (hF.below hb).c1
        replace k2 := (hF.below hb).c2
        replace k3 := (hF.below hb).c3
        replace k4 := (hF.below hb).c4
        replace s0 := (hS.below hb).c0
        replace s1 := (hS.below hb).c1
        clear hb105
        go_wp2_with fail
        refine (HP2.out _ (h.below hb)).mono ?_
        rintro e w106 ⟨rfl, hb106⟩
        replace hb := hb.trans (hb106.mono hb.size)
        replace k0 := (hF.below hb).c0
        replace k1 := (hF.below hb).c1
        replace k2 := (hF.below hb).c2
        replace k3 := (hF.below hb).c3
        replace k4 := (hF.below hb).c4
        replace s0 := (hS.below hb).c0
        replace s1 := (hS.below hb).c1
        clear hb106
        have hdd : decide (V1 + P - V1 ≤ S) = true := decide_eq_true (by omega)
        go_wp2_with fail
        go_ret
        exact ⟨rfl, hb0.trans (hb.mono hb0.size)⟩
  · have h0' : (ue != 0) = true := by simpa using h0
    have hnv : pv = 0 := by rw [EP.out, okI_ne h0]
    subst hnv
    clear h0
    go_wp2_with fail
    go_ret
    exact ⟨rfl, hb0.trans (hb.mono hb0.size)⟩
set_option maxRecDepth 100000 in
theorem FareParts_lifted (os : Os) (started : os.Started) (H : Type) (enc : TypeId × Value → H) :
    ReturnsInHanded {} Try.checked os 12 .any (Rows.farePartsSpec.pre6 enc Try.prog Try.f12 Rows.farePartsRow.domain false) (Rows.farePartsSpec.post enc Try.prog Try.f12 false true false false) := by
  refine returnsInHanded_of_change (C := Try.checked) own started (by kernel_rfl) Try.func12
    (ChangeSpec.witness6 (enc := enc) (C := Try.checked) false ⟨#[], #[.agg #[.slice none 0 0, .int .i64 0, .int .i64 0, .slice none 0 0, .int .i64 0], .int .i64 0, .int .i64 0, .int .i64 0, .agg #[.int .i64 0, .int .i64 0], .int .i64 0, .int .i64 0], []⟩ 8 (by kernel_rfl) (by kernel_rfl) (by kernel_rfl) (by kernel_rfl)) ?_
  intro W base args ds gs before hval0 hW hcnd _
  have hval : ∀ (j : Nat) t v, Try.f12.params[j]? = some t → args[j]? = some v → Value.okWide Try.prog W .any base t v := hval0
  have hW' := hW
  obtain ⟨p, q, hA0, hV, rfl, hfz, hnd⟩ := hW
  have hA : DataW.TrodAll enc Try.prog W 0 (fun _ => true) true Try.f12.params.toList args.toList ds p := hA0
  rw [Try.params12] at hA hval
  obtain ⟨v0, vs0, d0, ds0, p0, q0, hargs, rfl, rfl, h0, r0⟩ := trodAll_cons hA
  obtain ⟨v1, vs1, d1, ds1, p1, q1, rfl, rfl, rfl, h1, r1⟩ := trodAll_cons r0
  obtain ⟨v2, vs2, d2, ds2, p2, q2, rfl, rfl, rfl, h2, r2⟩ := trodAll_cons r1
  obtain ⟨v3, vs3, d3, ds3, p3, q3, rfl, rfl, rfl, h3, r3⟩ := trodAll_cons r2
  obtain ⟨v4, vs4, d4, ds4, p4, q4, rfl, rfl, rfl, h4, r4⟩ := trodAll_cons r3
  obtain ⟨v5, vs5, d5, ds5, p5, q5, rfl, rfl, rfl, h5, r5⟩ := trodAll_cons r4
  obtain ⟨v6, vs6, d6, ds6, p6, q6, rfl, rfl, rfl, h6, r6⟩ := trodAll_cons r5
  obtain ⟨rfl, rfl, rfl⟩ := trodAll_nil r6
  obtain rfl : args = #[v0, v1, v2, v3, v4, v5, v6] := by cases args; simp_all
  obtain ⟨rfl, rfl⟩ := trodVars_none hV
  have lt0 := arg_lt h0
  have k0 := h0
  obtain ⟨cs0, a0, rfl, w0⟩ := arg_agg (c := fareC) Try.underlying68 opens_fareC (hval 0 68 v0 rfl rfl) h0
  have lt1 := arg_lt h1
  have k1 := h1
  obtain ⟨a1, rfl, w1⟩ := arg_int Try.underlying3 (hval 1 3 v1 rfl rfl) h1
  have lt2 := arg_lt h2
  have k2 := h2
  obtain ⟨a2, rfl, w2⟩ := arg_int Try.underlying3 (hval 2 3 v2 rfl rfl) h2
  have lt3 := arg_lt h3
  have k3 := h3
  obtain ⟨a3, rfl, w3⟩ := arg_int Try.underlying3 (hval 3 3 v3 rfl rfl) h3
  have lt4 := arg_lt h4
  have k4 := h4
  obtain ⟨cs4, a4, rfl, w4⟩ := arg_agg (c := spanC) Try.underlying40 opens_spanC (hval 4 40 v4 rfl rfl) h4
  have lt5 := arg_lt h5
  have k5 := h5
  obtain ⟨a5, rfl, w5⟩ := arg_int Try.underlying3 (hval 5 3 v5 rfl rfl) h5
  have lt6 := arg_lt h6
  have k6 := h6
  obtain ⟨a6, rfl, w6⟩ := arg_int Try.underlying3 (hval 6 3 v6 rfl rfl) h6
  clear hA0 hval0
  refine (FareParts_walk W cs0 a0 w0 a1 w1 a2 w2 a3 w3 cs4 a4 w4 a5 w5 a6 w6).mono fun e W' ⟨he, bel⟩ => ?_
  subst he
  exact ⟨_, rfl, _, _, _, [], _, [], hW', trodAll_mk1 (shut_bool Try.underlying4 _), (trodAll_cons_mk (Below.trod laidOut (by kernel_rfl) (of_decide_eq_true (by kernel_rfl)) k0 bel lt0) (trodAll_cons_mk (Below.trod laidOut (by kernel_rfl) (of_decide_eq_true (by kernel_rfl)) k1 bel lt1) (trodAll_cons_mk (Below.trod laidOut (by kernel_rfl) (of_decide_eq_true (by kernel_rfl)) k2 bel lt2) (trodAll_cons_mk (Below.trod laidOut (by kernel_rfl) (of_decide_eq_true (by kernel_rfl)) k3 bel lt3) (trodAll_cons_mk (Below.trod laidOut (by kernel_rfl) (of_decide_eq_true (by kernel_rfl)) k4 bel lt4) (trodAll_cons_mk (Below.trod laidOut (by kernel_rfl) (of_decide_eq_true (by kernel_rfl)) k5 bel lt5) (trodAll_cons_mk (Below.trod laidOut (by kernel_rfl) (of_decide_eq_true (by kernel_rfl)) k6 bel lt6) trodAll_mk0))))))), rfl, bel.frame _, fun h => by cases h⟩

/-- THE GIVEN STATEMENT FareParts. -/
theorem fareParts_holds : Rows.FarePartsSaid :=
  OpenClaim.holds_of_wide 12 Try.f12 rfl rfl rfl rfl rfl rfl rfl ⟨rfl, rfl, rfl, rfl, rfl⟩ rfl rfl rfl rfl rfl (by kernel_rfl) Try.func12 (by kernel_rfl)
    (of_decide_eq_true (by kernel_rfl)) (by unfold Func.isWrapper; rw [if_neg (of_decide_eq_false (by kernel_rfl))]; exact ⟨rfl, rfl⟩)
    (fun os started H enc _ => FareParts_lifted os started H enc)
#print axioms fareParts_holds
end Go.Proofs.Ytehebngkjfjkbaa
