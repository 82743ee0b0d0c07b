/-
  The law CodeBack returns true, whatever it is handed, and changes nothing that was there.
-/
import Derived.Test.YtehebngkjfjkbaaCodeK
import Derived.Test.YtehebngkjfjkbaaCodeLift
namespace Go.Proofs.Ytehebngkjfjkbaa
open Go.ChangeShapes Go.WideShapes Go.ChangeAt Go.RowKit Go.Shelf

set_option maxRecDepth 100000 in
set_option maxHeartbeats 2000000 in
theorem ask_ne (a b : Ask) (W : World) : (binOp .neq 57 (.agg (askA a)) (.agg (askA b))).run Try.prog W = .ok (.bool (!askQ a b)) W := by
  unfold askQ
  obtain ⟨a0, a1, a2, a3, a4, a5, a6, a7, a8, a9, a10⟩ := a
  obtain ⟨b0, b1, b2, b3, b4, b5, b6, b7, b8, b9, b10⟩ := b
  unfold askA
  simp only [Ask.mk.injEq]
  go_simp
  repeat' split
  all_goals simp_all


set_option maxRecDepth 100000 in
set_option maxHeartbeats 8000000 in
theorem CodeBack_walk (W : World) (cs : Array Value) (x : Ask) (hx : askC W All x cs.toList) (s : ByteArray) (_ : s.size ≤ maxLen) :
    Calls Try.prog 9 #[.agg cs, .string s] W fun e w' => e = .returned (.bool true) ∧ Below W.heap.size W w' := by
  obtain ⟨hcs, _⟩ := hx
  obtain rfl : cs = askA x := by cases cs; simp_all
  obtain ⟨L, rfl⟩ : ∃ L : List UInt8, s = ⟨L.toArray⟩ := ⟨s.data.toList, by cases s; simp⟩
  clear hcs
  obtain ⟨r, hr⟩ : ∃ r, r = codeE x := ⟨_, rfl⟩
  obtain ⟨M, hM⟩ : ∃ M, M = encS x := ⟨_, rfl⟩
  have hE := fun W => Encode_any x W
  rw [← hr, ← hM] at hE
  have hDE : r = 0 → decV M = (x, 0) := fun h => by rw [hM]; exact dec_enc (hr ▸ h)
  obtain ⟨⟨y, f⟩, hV⟩ : ∃ V, V = decV L := ⟨_, rfl⟩
  have hD := fun W => Decode_any L W
  rw [← hV] at hD
  have hD0 : f = 0 → codeE y = 0 ∧ encS y = L := fun h => by have := enc_dec (s := L) (by rw [← hV]; exact h); rwa [← hV] at this
  have hD1 : f ≠ 0 → y = ask0 := fun h => by have := dec_none (s := L) (by rw [← hV]; exact h); rwa [← hV] at this
  dsimp only [askA] at hE hD ⊢
  have HE := Lib.hid hE
  clear hE
  have HDE := Lib.hid hDE
  clear hDE
  have HD := Lib.hid hD
  clear hD
  have HD0 := Lib.hid hD0
  clear hD0
  have HD1 := Lib.hid hD1
  clear hD1
  clear hr hM hV
  go_enter Try.func9, Try.ntmps9
  go_upto_region 0 with (fail)
  go_cut [2] (fun a wx => ∃ b, a = .pointer (some ⟨b, 0, none⟩) ∧ AskAt wx b x ∧ Below W.heap.size W wx)
  case first => as_aux_lemma =>
    go_wp2_with fail
    go_meet
    exact ⟨_, rfl, blk1 _ _, bel1 _ _⟩
  obtain ⟨b, rfl, hA, hb⟩ := hcut
  go_wp2_with fail
  refine (codeBegun_any _).mono ?_
  rintro e w2 ⟨rfl, hb2⟩
  replace hb := hb.trans (hb2.mono hb.size)
  replace hA := hA.bel hb2
  clear hb2
  obtain ⟨c0, c1, c2, c3, c4, c5, c6, c7, c8, c9, c10⟩ := hA.all
  go_wp2_with fail
  refine (HE.out _).mono ?_
  rintro e w3 ⟨rfl, hb2⟩
  replace hb := hb.trans (hb2.mono hb.size)
  replace hA := hA.bel hb2
  clear hb2 c0 c1 c2 c3 c4 c5 c6 c7 c8 c9 c10
  go_upto_if 19 with (fail)
  go_cut [] (fun wx => Below W.heap.size W wx)
  case first => as_aux_lemma =>
    by_cases h0 : r = 0
    · have hdec := fun W => Decode_any M W
      rw [HDE.out h0] at hdec
      dsimp only [askA] at hdec
      have HDC := Lib.hid hdec
      clear hdec
      subst h0
      have hq := fun W => ask_ne x x W
      rw [show askQ x x = true by simp [askQ]] at hq
      dsimp only [askA] at hq
      simp only [okL_zero]
      go_wp2_with fail
      refine (HDC.out _).mono ?_
      rintro e w4 ⟨rfl, hb2⟩
      replace hb := hb.trans (hb2.mono hb.size)
      replace hA := hA.bel hb2
      clear hb2
      have hX : AskAt (w4.alloc (.cells (askA x) 57)) w4.heap.size x := Blk.new _ _ _
      replace hA := hA.bel (bel1 w4 (.cells (askA x) 57))
      replace hb := hb.alloc hb.size (.cells (askA x) 57)
      obtain ⟨c0, c1, c2, c3, c4, c5, c6, c7, c8, c9, c10⟩ := hA.all
      obtain ⟨d0, d1, d2, d3, d4, d5, d6, d7, d8, d9, d10⟩ := hX.all
      dsimp only [askA] at c0 c1 c2 c3 c4 c5 c6 c7 c8 c9 c10 d0 d1 d2 d3 d4 d5 d6 d7 d8 d9 d10 hb
      go_wp2_with fail
      go_meet
      exact hb
    · have h0' : (r == 0) = false := by simpa using h0
      clear h0
      go_wp2_with fail
      go_meet
      exact hb
  clear hb hA
  have hb := hcut
  go_wp2_with fail
  refine (HD.out _).mono ?_
  rintro e w4 ⟨rfl, hb2⟩
  replace hb := hb.trans (hb2.mono hb.size)
  clear hb2 hcut
  by_cases h0 : f = 0
  · obtain ⟨g1, g2⟩ := HD0.out h0
    subst h0
    have hE2 := fun W => Encode_any y W
    rw [g1, g2] at hE2
    have hX : AskAt (w4.alloc (.cells (askA y) 57)) w4.heap.size y := Blk.new _ _ _
    replace hb := hb.alloc hb.size (.cells (askA y) 57)
    obtain ⟨d0, d1, d2, d3, d4, d5, d6, d7, d8, d9, d10⟩ := hX.all
    dsimp only [askA] at hE2 d0 d1 d2 d3 d4 d5 d6 d7 d8 d9 d10 hb
    rw [okL_zero] at hE2
    have HE2 := Lib.hid hE2
    clear hE2
    clear hX g1 g2
    go_wp2_with fail
    refine (HE2.out _).mono ?_
    rintro e w5 ⟨rfl, hb2⟩
    replace hb := hb.trans (hb2.mono hb.size)
    clear hb2
    go_wp2_with fail
    go_ret
    exact ⟨rfl, hb⟩
  · obtain rfl := HD1.out h0
    have h0' : (f == 0) = false := by simpa using h0
    have hq := fun W => ask_eq ask0 ask0 W
    rw [show askQ ask0 ask0 = true by simp [askQ]] at hq
    have hX : AskAt (w4.alloc (.cells (askA ask0) 57)) w4.heap.size ask0 := Blk.new _ _ _
    replace hb := hb.alloc hb.size (.cells (askA ask0) 57)
    obtain ⟨d0, d1, d2, d3, d4, d5, d6, d7, d8, d9, d10⟩ := hX.all
    dsimp only [askA, ask0] at hq d0 d1 d2 d3 d4 d5 d6 d7 d8 d9 d10 hb
    clear hX h0
    go_wp2_with fail
    go_ret
    exact ⟨rfl, hb⟩

set_option maxRecDepth 100000 in
theorem CodeBack_lifted (os : Os) (started : os.Started) (H : Type) (enc : TypeId × Value → H) :
    ReturnsInHanded {} Try.checked os 9 .any (Rows.codeBackSpec.pre6 enc Try.prog Try.f9 Rows.codeBackRow.domain false) (Rows.codeBackSpec.post enc Try.prog Try.f9 false true false false) := by
  refine returnsInHanded_of_change (C := Try.checked) own started (by kernel_rfl) Try.func9
    (ChangeSpec.witness6 (enc := enc) (C := Try.checked) false ⟨#[], #[.agg #[.int .i64 0, .int .i64 0, .int .i64 0, .int .i64 0, .bool false, .int .i64 0, .int .i64 0, .int .i64 0, .int .i64 0, .int .i64 0, .int .i64 0], .string ⟨#[]⟩], []⟩ 8 (by kernel_rfl) (by kernel_rfl) (by kernel_rfl) (by kernel_rfl)) ?_
  intro W base args ds gs before hval0 hW hcnd _
  have hval : ∀ (j : Nat) t v, Try.f9.params[j]? = some t → args[j]? = some v → Value.okWide Try.prog W .any base t v := hval0
  have hW' := hW
  obtain ⟨p, q, hA0, hV, rfl, hfz, hnd⟩ := hW
  have hA : DataW.TrodAll enc Try.prog W 0 (fun _ => true) true Try.f9.params.toList args.toList ds p := hA0
  rw [Try.params9] at hA hval
  obtain ⟨v0, vs0, d0, ds0, p0, q0, hargs, rfl, rfl, h0, r0⟩ := trodAll_cons hA
  obtain ⟨v1, vs1, d1, ds1, p1, q1, rfl, rfl, rfl, h1, r1⟩ := trodAll_cons r0
  obtain ⟨rfl, rfl, rfl⟩ := trodAll_nil r1
  obtain rfl : args = #[v0, v1] := by cases args; simp_all
  obtain ⟨rfl, rfl⟩ := trodVars_none hV
  have lt0 := arg_lt h0
  have k0 := h0
  obtain ⟨cs0, a0, rfl, w0⟩ := arg_agg (c := askC) Try.underlying57 opens_askC (hval 0 57 v0 rfl rfl) h0
  have lt1 := arg_lt h1
  have k1 := h1
  obtain ⟨a1, rfl, w1⟩ := arg_string Try.underlying9 (hval 1 9 v1 rfl rfl) h1
  clear hA0 hval0
  refine (CodeBack_walk W cs0 a0 w0 a1 w1).mono fun e W' ⟨he, bel⟩ => ?_
  subst he
  exact ⟨_, rfl, _, _, _, [], _, [], hW', trodAll_mk1 (shut_bool Try.underlying4 _), (trodAll_cons_mk (Below.trod laidOut (by kernel_rfl) (of_decide_eq_true (by kernel_rfl)) k0 bel lt0) (trodAll_cons_mk (Below.trod laidOut (by kernel_rfl) (of_decide_eq_true (by kernel_rfl)) k1 bel lt1) trodAll_mk0)), rfl, bel.frame _, fun h => by cases h⟩

/-- THE GIVEN STATEMENT CodeBack. -/
theorem codeBack_holds : Rows.CodeBackSaid :=
  OpenClaim.holds_of_wide 9 Try.f9 rfl rfl rfl rfl rfl rfl rfl ⟨rfl, rfl, rfl, rfl, rfl⟩ rfl rfl rfl rfl rfl (by kernel_rfl) Try.func9 (by kernel_rfl)
    (of_decide_eq_true (by kernel_rfl)) (by unfold Func.isWrapper; rw [if_neg (of_decide_eq_false (by kernel_rfl))]; exact ⟨rfl, rfl⟩)
    (fun os started H enc _ => CodeBack_lifted os started H enc)
#print axioms codeBack_holds
end Go.Proofs.Ytehebngkjfjkbaa
