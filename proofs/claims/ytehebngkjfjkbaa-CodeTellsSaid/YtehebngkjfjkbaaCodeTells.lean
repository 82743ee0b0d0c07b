/-
  The law CodeTells returns true, whatever it is handed, and changes nothing that was there.
-/
import Derived.Test.YtehebngkjfjkbaaCodeK
import Derived.Test.YtehebngkjfjkbaaCodeN
import Derived.Test.YtehebngkjfjkbaaCodeLift
namespace Go.Proofs.Ytehebngkjfjkbaa
open Go.ChangeShapes Go.WideShapes Go.ChangeAt Go.RowKit Go.Shelf

set_option maxRecDepth 100000 in
set_option maxHeartbeats 8000000 in
theorem CodeTells_walk (W : World) (cs : Array Value) (x : Ask) (hx : askC W All x cs.toList) (s : ByteArray) (hsz : s.size ≤ maxLen) :
    Calls Try.prog 8 #[.agg cs, .string s] W fun e w' => e = .returned (.bool true) ∧ Below W.heap.size W w' := by
  obtain ⟨hcs, _⟩ := hx
  obtain rfl : cs = askA x := by cases cs; simp_all
  obtain ⟨L, rfl⟩ : ∃ L : List UInt8, s = ⟨L.toArray⟩ := ⟨s.data.toList, by cases s; simp⟩
  have hL : L.length ≤ maxLen := by have : (⟨L.toArray⟩ : ByteArray).size = L.length := (by show L.toArray.size = _; simp); omega
  clear hcs hsz
  obtain ⟨r, hr⟩ : ∃ r, r = codeE x := ⟨_, rfl⟩
  obtain ⟨T, hT⟩ : ∃ T, T = okL r (encS x) := ⟨_, rfl⟩
  obtain ⟨⟨y, f⟩, hV⟩ : ∃ V, V = decV L := ⟨_, rfl⟩
  have hE := fun W => Encode_any x W
  have hC := fun W => codeCheck_any x W
  have hCR := fun W => CheckAsk_any x W
  have hD := fun W => Decode_any L W
  have hDR := fun W => AskOf_any L W hL
  have hB : r = 0 → ∀ W, Calls Try.prog 38 #[.agg (askA x)] W fun e w' => e = .returned (.string ⟨T.toArray⟩) ∧ Below W.heap.size W w' := fun h W => by
    rw [hT, h, okL_zero]
    exact AskBytes_any x W (code_ok (by rw [← hr]; exact h))
  have hT0 : r ≠ 0 → T = [] := fun h => by rw [hT, okL_ne h]
  rw [askR_code] at hCR
  rw [← hr] at hE hC hCR
  rw [← hT] at hE
  rw [← hV] at hD hDR
  have hq := fun W => ask_eq y y W
  rw [show askQ y y = true by simp [askQ]] at hq
  dsimp only [askA] at hE hC hCR hD hDR hB hq ⊢
  have HE := Lib.hid hE
  clear hE
  have HC := Lib.hid hC
  clear hC
  have HCR := Lib.hid hCR
  clear hCR
  have HD := Lib.hid hD
  clear hD
  have HDR := Lib.hid hDR
  clear hDR
  have HB := Lib.hid hB
  clear hB
  have HT0 := Lib.hid hT0
  clear hT0
  have HQ := Lib.hid hq
  clear hq
  clear hr hT hV
  go_enter Try.func8, Try.ntmps8
  go_upto_region 0 with (fail)
  go_cut [2] (fun a wx => ∃ b, a = .pointer (some ⟨b, 0, none⟩) ∧ AskAt wx b x ∧ Below W.heap.size W wx)
  case first => as_aux_lemma =>
    go_wp2_with fail
    go_meet
    exact ⟨_, rfl, blk1 _ _, bel1 _ _⟩
  obtain ⟨b, rfl, hA, hb⟩ := hcut
  go_upto_region 1 with (fail)
  go_cut [5, 6] (fun t e wx => t = .string ⟨T.toArray⟩ ∧ e = .int .i64 r ∧ AskAt wx b x ∧ Below W.heap.size W wx)
  case first => as_aux_lemma =>
    obtain ⟨c0, c1, c2, c3, c4, c5, c6, c7, c8, c9, c10⟩ := hA.all
    go_wp2_with fail
    refine (HE.out _).mono ?_
    rintro e w3 ⟨rfl, hb2⟩
    replace hb := hb.trans (hb2.mono hb.size)
    replace hA := hA.bel hb2
    clear hb2 c0 c1 c2 c3 c4 c5 c6 c7 c8 c9 c10
    go_wp2_with fail
    go_meet
    exact ⟨rfl, rfl, hA, hb⟩
  clear hA hb
  obtain ⟨rfl, rfl, hA, hb⟩ := hcut
  go_upto_region 2 with (fail)
  go_cut [7, 8] (fun p e wx => ∃ g, p = .pointer (some ⟨g, 0, none⟩) ∧ e = .int .i64 f ∧ AskAt wx g y ∧ AskAt wx b x ∧ Below W.heap.size W wx)
  case first => as_aux_lemma =>
    go_wp2_with fail
    refine (HD.out _).mono ?_
    rintro e w3 ⟨rfl, hb2⟩
    replace hb := hb.trans (hb2.mono hb.size)
    replace hA := hA.bel hb2
    go_wp2_with fail
    go_meet
    exact ⟨_, rfl, rfl, Blk.new _ _ _, hA.bel (bel1 _ _), hb.alloc hb.size _⟩
  clear hA hb
  obtain ⟨g, rfl, rfl, hY, hA, hb⟩ := hcut
  go_upto_region 3 with (fail)
  go_cut [9, 10] (fun e t wx => e = .int .i64 r ∧ t = .string ⟨#[]⟩ ∧ AskAt wx g y ∧ AskAt wx b x ∧ Below W.heap.size W wx)
  case first => as_aux_lemma =>
    obtain ⟨c0, c1, c2, c3, c4, c5, c6, c7, c8, c9, c10⟩ := hA.all
    go_wp2_with fail
    refine (HCR.out _).mono ?_
    rintro e w3 ⟨rfl, hb2⟩
    replace hb := hb.trans (hb2.mono hb.size)
    replace hA := hA.bel hb2
    replace hY := hY.bel hb2
    clear hb2 c0 c1 c2 c3 c4 c5 c6 c7 c8 c9 c10
    go_wp2_with fail
    go_meet
    exact ⟨rfl, rfl, hY, hA, hb⟩
  clear hA hb hY
  obtain ⟨rfl, rfl, hY, hA, hb⟩ := hcut
  go_upto_if 26 with (fail)
  go_cut [10] (fun t wx => t = .string ⟨T.toArray⟩ ∧ AskAt wx g y ∧ AskAt wx b x ∧ Below W.heap.size W wx)
  case first => as_aux_lemma =>
    by_cases h0 : r = 0
    · have hbb := HB.out h0
      have HBB := Lib.hid hbb
      clear hbb
      subst h0
      obtain ⟨c0, c1, c2, c3, c4, c5, c6, c7, c8, c9, c10⟩ := hA.all
      go_wp2_with fail
      refine (HBB.out _).mono ?_
      rintro e w3 ⟨rfl, hb2⟩
      replace hb := hb.trans (hb2.mono hb.size)
      replace hA := hA.bel hb2
      replace hY := hY.bel hb2
      clear hb2 c0 c1 c2 c3 c4 c5 c6 c7 c8 c9 c10
      go_wp2_with fail
      go_meet
      exact ⟨rfl, hY, hA, hb⟩
    · have ht := HT0.out h0
      have h0' : (r == 0) = false := by simpa using h0
      have HT := Lib.hid ht
      clear h0 ht
      go_wp2_with fail
      go_meet
      exact ⟨by rw [HT.out], hY, hA, hb⟩
  clear hA hb hY
  obtain ⟨rfl, hY, hA, hb⟩ := hcut
  go_upto_region 6 with (fail)
  go_cut [11, 12] (fun p e wx => ∃ k, p = .pointer (some ⟨k, 0, none⟩) ∧ e = .int .i64 f ∧ AskAt wx k y ∧ AskAt wx g y ∧ AskAt wx b x ∧ Below W.heap.size W wx)
  case first => as_aux_lemma =>
    go_wp2_with fail
    refine (HDR.out _).mono ?_
    rintro e w3 ⟨rfl, hb2⟩
    replace hb := hb.trans (hb2.mono hb.size)
    replace hA := hA.bel hb2
    replace hY := hY.bel hb2
    go_wp2_with fail
    go_meet
    exact ⟨_, rfl, rfl, Blk.new _ _ _, hY.bel (bel1 _ _), hA.bel (bel1 _ _), hb.alloc hb.size _⟩
  clear hA hb hY
  obtain ⟨k, rfl, rfl, hK, hY, hA, hb⟩ := hcut
  go_wp2_with fail
  refine (codeBegun_any _).mono ?_
  rintro e w3 ⟨rfl, hb2⟩
  replace hb := hb.trans (hb2.mono hb.size)
  replace hA := hA.bel hb2
  replace hY := hY.bel hb2
  replace hK := hK.bel hb2
  clear hb2
  obtain ⟨c0, c1, c2, c3, c4, c5, c6, c7, c8, c9, c10⟩ := hA.all
  go_wp2_with fail
  refine (HC.out _).mono ?_
  rintro e w4 ⟨rfl, hb2⟩
  replace hb := hb.trans (hb2.mono hb.size)
  replace hY := hY.bel hb2
  replace hK := hK.bel hb2
  clear hb2 c0 c1 c2 c3 c4 c5 c6 c7 c8 c9 c10 hA
  obtain ⟨c0, c1, c2, c3, c4, c5, c6, c7, c8, c9, c10⟩ := hY.all
  obtain ⟨d0, d1, d2, d3, d4, d5, d6, d7, d8, d9, d10⟩ := hK.all
  have hq := HQ.out
  go_wp2_with fail
  go_ret
  exact ⟨rfl, hb⟩

set_option maxRecDepth 100000 in
theorem CodeTells_lifted (os : Os) (started : os.Started) (H : Type) (enc : TypeId × Value → H) :
    ReturnsInHanded {} Try.checked os 8 .any (Rows.codeTellsSpec.pre6 enc Try.prog Try.f8 Rows.codeTellsRow.domain false) (Rows.codeTellsSpec.post enc Try.prog Try.f8 false true false false) := by
  refine returnsInHanded_of_change (C := Try.checked) own started (by kernel_rfl) Try.func8
    (ChangeSpec.witness6 (enc := enc) (C := Try.checked) false ⟨#[], #[.agg #[.int .i64 0, .int .i64 0, .int .i64 0, .int .i64 0, .bool false, .int .i64 0, .int .i64 0, .int .i64 0, .int .i64 0, .int .i64 0, .int .i64 0], .string ⟨#[]⟩], []⟩ 8 (by kernel_rfl) (by kernel_rfl) (by kernel_rfl) (by kernel_rfl)) ?_
  intro W base args ds gs before hval0 hW hcnd _
  have hval : ∀ (j : Nat) t v, Try.f8.params[j]? = some t → args[j]? = some v → Value.okWide Try.prog W .any base t v := hval0
  have hW' := hW
  obtain ⟨p, q, hA0, hV, rfl, hfz, hnd⟩ := hW
  have hA : DataW.TrodAll enc Try.prog W 0 (fun _ => true) true Try.f8.params.toList args.toList ds p := hA0
  rw [Try.params8] at hA hval
  obtain ⟨v0, vs0, d0, ds0, p0, q0, hargs, rfl, rfl, h0, r0⟩ := trodAll_cons hA
  obtain ⟨v1, vs1, d1, ds1, p1, q1, rfl, rfl, rfl, h1, r1⟩ := trodAll_cons r0
  obtain ⟨rfl, rfl, rfl⟩ := trodAll_nil r1
  obtain rfl : args = #[v0, v1] := by cases args; simp_all
  obtain ⟨rfl, rfl⟩ := trodVars_none hV
  have lt0 := arg_lt h0
  have k0 := h0
  obtain ⟨cs0, a0, rfl, w0⟩ := arg_agg (c := askC) Try.underlying57 opens_askC (hval 0 57 v0 rfl rfl) h0
  have lt1 := arg_lt h1
  have k1 := h1
  obtain ⟨a1, rfl, w1⟩ := arg_string Try.underlying9 (hval 1 9 v1 rfl rfl) h1
  clear hA0 hval0
  refine (CodeTells_walk W cs0 a0 w0 a1 w1).mono fun e W' ⟨he, bel⟩ => ?_
  subst he
  exact ⟨_, rfl, _, _, _, [], _, [], hW', trodAll_mk1 (shut_bool Try.underlying4 _), (trodAll_cons_mk (Below.trod laidOut (by kernel_rfl) (of_decide_eq_true (by kernel_rfl)) k0 bel lt0) (trodAll_cons_mk (Below.trod laidOut (by kernel_rfl) (of_decide_eq_true (by kernel_rfl)) k1 bel lt1) trodAll_mk0)), rfl, bel.frame _, fun h => by cases h⟩

/-- THE GIVEN STATEMENT CodeTells. -/
theorem codeTells_holds : Rows.CodeTellsSaid :=
  OpenClaim.holds_of_wide 8 Try.f8 rfl rfl rfl rfl rfl rfl rfl ⟨rfl, rfl, rfl, rfl, rfl⟩ rfl rfl rfl rfl rfl (by kernel_rfl) Try.func8 (by kernel_rfl)
    (of_decide_eq_true (by kernel_rfl)) (by unfold Func.isWrapper; rw [if_neg (of_decide_eq_false (by kernel_rfl))]; exact ⟨rfl, rfl⟩)
    (fun os started H enc _ => CodeTells_lifted os started H enc)
#print axioms codeTells_holds
end Go.Proofs.Ytehebngkjfjkbaa
