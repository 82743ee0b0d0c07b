/-
  The law SpanBack returns true, whatever it is handed, and changes nothing that was there.
-/
import Derived.Test.YtpodgidamoiakaaSpanI
import Derived.Test.YtpodgidamoiakaaSpanLift
import Derived.Deep.RegionWith
namespace Go.Proofs.Ytpodgidamoiakaa
open Go.ChangeShapes Go.WideShapes Go.ChangeAt Go.RowKit Go.Shelf

theorem spanE_few (s : Span) (legs : Int) : spanE s legs = 0 ∨ spanE s legs = 3 ∨ spanE s legs = 4 := by
  unfold spanE
  repeat' split
  all_goals simp
theorem calE_few (l : List Span) (legs : Int) : calE l legs = 0 ∨ calE l legs = 3 ∨ calE l legs = 4 := by
  have key : ∀ n, firstErr (calErr l legs) n = 0 ∨ firstErr (calErr l legs) n = 3 ∨ firstErr (calErr l legs) n = 4 := by
    intro n
    induction n with
    | zero => exact .inl rfl
    | succ n ih =>
      unfold firstErr
      split
      · unfold calErr
        have := spanE_few (l[n]?.getD default) legs
        repeat' split
        all_goals first | exact this | simp
      · exact ih
  unfold calE
  split
  · simp
  · exact key _
theorem add_six {l : List Span} {legs : Int} {s : Span} (h : addE l legs s = 6) : CalOk l legs ∧ spanE s legs = 0 ∧ l.any (fun x => meetB x s) = true := by
  unfold addE at h
  have h1 := calE_few l legs
  have h2 := spanE_few s legs
  by_cases hr : readySpE l legs s ≠ 0
  · rw [if_pos hr] at h
    unfold readySpE at h
    split at h <;> omega
  · rw [if_neg hr] at h
    obtain ⟨h3, h4⟩ := readySp_ok (show readySpE l legs s = 0 by omega)
    refine ⟨h3, h4, ?_⟩
    cases q : l.any (fun x => meetB x s) with
    | true => rfl
    | false => rw [if_neg (by simp [q])] at h; exact absurd h (by decide)
theorem meets_zero {x s : Span} {legs : Int} (h1 : 0 ≤ x.frm ∧ x.frm < x.upto ∧ x.upto ≤ legs) (h2 : spanE s legs = 0) : meetsE x s = 0 := by
  have hs := span_ok h2
  unfold meetsE
  rw [span_zero (by decide) (by decide) h1.1 h1.2.1 (by omega), if_neg (by simp), span_zero (by decide) (by decide) (by omega) (by omega) (by omega)]

set_option maxRecDepth 100000 in
set_option maxHeartbeats 8000000 in
theorem SpanBack_walk (W : World) (A : Option Addr) (n cap : Nat) (l : List Span) (h : Sl spanC 2 W All A n cap l) (legs : Int) (_ : InI legs) (cs : Array Value) (s : Span) (hs : spanC W All s cs.toList) :
    Calls Try.prog 7 #[.slice A n cap, .int .i64 legs, .agg cs] W fun e w' => e = .returned (.bool true) ∧ Below W.heap.size W w' := by
  obtain ⟨hcs, ia, ib⟩ := hs
  obtain ⟨a, b⟩ := s
  obtain rfl : cs = #[.int .i64 a, .int .i64 b] := by cases cs; simp_all
  clear hcs
  simp only at ia ib
  obtain ⟨u, hu⟩ : ∃ u, u = addE l legs ⟨a, b⟩ := ⟨_, rfl⟩
  have hA := fun W h => spanAdd_ins A n cap l legs a b W h ia ib
  rw [← hu] at hA
  have HA := Lib.hid hA
  clear hA
  have HU := Lib.hid hu
  clear hu
  go_enter Try.func7, Try.ntmps7
  go_upto_region 0 with (fail)
  go_cut [5] (fun p wx => ∃ g, p = .pointer (some ⟨g, 0, none⟩) ∧ SpanAt wx g a b ∧ Below W.heap.size W wx)
  case first => as_aux_lemma =>
    go_wp2_with fail
    go_meet
    exact ⟨_, rfl, blk1 _ _, bel1 _ _⟩
  obtain ⟨g, rfl, hS, hb⟩ := hcut
  go_wp2_with fail
  refine (spanBegun_any _).mono ?_
  rintro e w2 ⟨rfl, hb2⟩
  replace hb := hb.trans (hb2.mono hb.size)
  replace hS := hS.below hb2
  clear hb2
  have c0 := hS.c0
  have c1 := hS.c1
  go_wp2_with fail
  refine (HA.out _ (h.bel hb)).mono ?_
  rintro e w3 ⟨v3, xs3, rfl, ho, hb2⟩
  obtain ⟨B, m, cap2, rfl, hs3⟩ := ho.sl spanC_good
  replace hs3 := hs3.all spanC_good (by omega)
  replace hb := hb.trans (hb2.mono hb.size)
  replace hS := hS.below hb2
  clear hb2 ho c0 c1
  have c0 := hS.c0
  have c1 := hS.c1
  by_cases h0 : u = 0
  · subst h0
    rw [okL_zero] at hs3
    obtain ⟨g1, g2, g3⟩ := ins_back HU.out.symm
    have hT := fun W h => spanTake_any B m cap2 (insSp ⟨a, b⟩ l) legs a b W h
    have hA2 := fun W h => spanAdd_ins B m cap2 (insSp ⟨a, b⟩ l) legs a b W h ia ib
    rw [g1, g2, okL_zero] at hT
    rw [g3] at hA2
    have HT := Lib.hid hT
    clear hT
    have HA2 := Lib.hid hA2
    clear hA2
    clear g1 g2 g3
    go_wp2_with fail
    refine (HT.out _ hs3).mono ?_
    rintro e w4 ⟨v4, xs4, rfl, ho, hb2⟩
    obtain ⟨C, k, cap3, rfl, hs4⟩ := ho.sl spanC_good
    replace hs4 := hs4.all spanC_good (by omega)
    replace hb := hb.trans (hb2.mono hb.size)
    replace hS := hS.below hb2
    replace hs3 := hs3.bel hb2
    clear hb2 ho c0 c1
    have c0 := hS.c0
    have c1 := hS.c1
    go_wp2_with fail
    refine (HA2.out _ hs3).mono ?_
    rintro e w5 ⟨v5, xs5, rfl, ho, hb2⟩
    obtain ⟨D, k2, cap4, rfl, _⟩ := ho.sl spanC_good
    replace hb := hb.trans (hb2.mono hb.size)
    replace hs4 := hs4.bel hb2
    have hsm := SameSpans_any _ _ _ _ _ _ _ _ _ hs4 (h.bel hb)
    rw [show decide (l = l) = true by simp] at hsm
    have HSM := Lib.hid hsm
    clear hsm
    clear hb2 ho c0 c1 hs3 hs4 hS
    go_wp2_with fail
    refine HSM.out.mono ?_
    rintro e w6 ⟨rfl, q, rfl⟩
    go_wp2_with fail
    go_ret
    exact ⟨rfl, below_drewN hb _⟩
  have h0' : (u == 0) = false := by simpa using h0
  by_cases h6 : u = 6
  · subst h6
    obtain ⟨hok, hsp, hany⟩ := add_six HU.out.symm
    have HOK := Lib.hid hok
    clear hok
    have HSP := Lib.hid hsp
    clear hsp
    have HANY := Lib.hid hany
    clear hany
    have hnl := Lib.hid h.len
    have hbd := h.bd
    clear h0 hs3 c0 c1
    go_wp2_with fail
    go_loopg [13] n (fun gk i wr => ∃ k : Nat, k ≤ n ∧ n - k ≤ gk ∧ i = .int .i64 k ∧ Aside ((l.take k).any (fun x => meetB x ⟨a, b⟩) = false) ∧ Below w3.heap.size w3 wr)
    case atStart => exact ⟨0, Nat.zero_le _, by omega, rfl, rfl, Below.refl _ _⟩
    case round =>
      obtain ⟨k, hk, hgk, rfl, HE, hb3⟩ := hrel
      by_cases hlt : k < n
      · have hbb := hb.trans (hb3.mono hb.size)
        obtain ⟨b1, off, x, d0, d1, rfl, hx, ⟨hc, x0, x1⟩, g0, g1⟩ := (h.bel hbb).at2 hlt
        simp only [List.cons.injEq, and_true] at hc
        obtain ⟨rfl, rfl⟩ := hc
        have hmz := meets_zero (x := x) (s := ⟨a, b⟩) (HOK.out.el k x hx) HSP.out
        have hM := fun W => Meets_any x.frm x.upto a b W x0 x1 ia ib
        rw [show meetsE ⟨x.frm, x.upto⟩ ⟨a, b⟩ = 0 from hmz] at hM
        rw [okB_zero] at hM
        obtain ⟨q, hq⟩ : ∃ q, q = meetB x ⟨a, b⟩ := ⟨_, rfl⟩
        rw [show meetB ⟨x.frm, x.upto⟩ ⟨a, b⟩ = q from hq.symm] at hM
        have HM := Lib.hid hM
        clear hM
        have HQ := Lib.hid hq
        clear hq
        have HX := Lib.hid hx
        clear hx
        have hS1 := hS.below hb3
        have c0 := hS1.c0
        have c1 := hS1.c1
        clear hmz
        go_upto_region 13 with (fail)
        go_cut [14, 15] (fun t e wx => t = .bool q ∧ e = .int .i64 0 ∧ Below wr.heap.size wr wx)
        case first => as_aux_lemma =>
          go_region_with (go_at_call 21; refine (HM.out _).mono ?_; rintro e wn ⟨rfl, hbn⟩)
          all_goals
            go_wp2_with fail
            go_meet
            exact ⟨rfl, rfl, (Below.refl _ wr).drew.trans hbn⟩
        obtain ⟨rfl, rfl, hb4⟩ := hcut
        replace hb3 := hb3.trans (hb4.mono hb3.size)
        clear hb4 c0 c1 g0 g1 hbb
        cases q
        · go_wp2_with fail
          go_roundg (n - (k + 1))
          case measure => omega
          case rel => exact ⟨k + 1, by omega, by omega, by go_num, (show Aside _ from by show _ = _; rw [any_take_succ HX.out, HE, ← HQ.out]; rfl), hb3⟩
        · go_wp2_with fail
          go_ret
          exact ⟨rfl, hb.trans (hb3.mono hb.size)⟩
      · obtain rfl : k = n := by omega
        have hT := List.take_of_length_le (Nat.le_of_eq hnl.out)
        rw [hT] at HE
        have := HANY.out
        rw [HE] at this
        exact absurd this (by decide)
  · have h6' : (u != 6) = true := by simpa using h6
    have hm : m = 0 := by rw [← hs3.len, okL_ne h0]; rfl
    subst hm
    clear h0 h6 hs3 c0 c1
    go_wp2_with fail
    go_ret
    exact ⟨rfl, hb⟩

set_option maxRecDepth 100000 in
theorem SpanBack_lifted (os : Os) (started : os.Started) (H : Type) (enc : TypeId × Value → H) :
    ReturnsInHanded {} Try.checked os 7 .any (Rows.spanBackSpec.pre6 enc Try.prog Try.f7 Rows.spanBackRow.domain false) (Rows.spanBackSpec.post enc Try.prog Try.f7 false true false false) := by
  refine returnsInHanded_of_change (C := Try.checked) own started (by kernel_rfl) Try.func7
    (ChangeSpec.witness6 (enc := enc) (C := Try.checked) false ⟨#[], #[.slice none 0 0, .int .i64 0, .agg #[.int .i64 0, .int .i64 0]], []⟩ 8 (by kernel_rfl) (by kernel_rfl) (by kernel_rfl) (by kernel_rfl)) ?_
  intro W base args ds gs before hval0 hW hcnd _
  have hval : ∀ (j : Nat) t v, Try.f7.params[j]? = some t → args[j]? = some v → Value.okWide Try.prog W .any base t v := hval0
  have hW' := hW
  obtain ⟨p, q, hA0, hV, rfl, hfz, hnd⟩ := hW
  have hA : DataW.TrodAll enc Try.prog W 0 (fun _ => true) true Try.f7.params.toList args.toList ds p := hA0
  rw [Try.params7] at hA hval
  obtain ⟨v0, vs0, d0, ds0, p0, q0, hargs, rfl, rfl, h0, r0⟩ := trodAll_cons hA
  obtain ⟨v1, vs1, d1, ds1, p1, q1, rfl, rfl, rfl, h1, r1⟩ := trodAll_cons r0
  obtain ⟨v2, vs2, d2, ds2, p2, q2, rfl, rfl, rfl, h2, r2⟩ := trodAll_cons r1
  obtain ⟨rfl, rfl, rfl⟩ := trodAll_nil r2
  obtain rfl : args = #[v0, v1, v2] := by cases args; simp_all
  obtain ⟨rfl, rfl⟩ := trodVars_none hV
  have lt0 := arg_lt h0
  have k0 := h0
  obtain ⟨A0, n0, c0, a0, rfl, w0⟩ := arg_sl (size := 2) Try.underlying43 (by kernel_rfl) (by omega) opens_spanC (hval 0 43 v0 rfl rfl) h0
  have lt1 := arg_lt h1
  have k1 := h1
  obtain ⟨a1, rfl, w1⟩ := arg_int Try.underlying3 (hval 1 3 v1 rfl rfl) h1
  have lt2 := arg_lt h2
  have k2 := h2
  obtain ⟨cs2, a2, rfl, w2⟩ := arg_agg (c := spanC) Try.underlying45 opens_spanC (hval 2 45 v2 rfl rfl) h2
  clear hA0 hval0
  refine (SpanBack_walk W A0 n0 c0 a0 w0 a1 w1 cs2 a2 w2).mono fun e W' ⟨he, bel⟩ => ?_
  subst he
  exact ⟨_, rfl, _, _, _, [], _, [], hW', trodAll_mk1 (shut_bool Try.underlying4 _), (trodAll_cons_mk (Below.trod laidOut (by kernel_rfl) (of_decide_eq_true (by kernel_rfl)) k0 bel lt0) (trodAll_cons_mk (Below.trod laidOut (by kernel_rfl) (of_decide_eq_true (by kernel_rfl)) k1 bel lt1) (trodAll_cons_mk (Below.trod laidOut (by kernel_rfl) (of_decide_eq_true (by kernel_rfl)) k2 bel lt2) trodAll_mk0))), rfl, bel.frame _, fun h => by cases h⟩

/-- THE GIVEN STATEMENT SpanBack. -/
theorem spanBack_holds : Rows.SpanBackSaid :=
  OpenClaim.holds_of_wide 7 Try.f7 rfl rfl rfl rfl rfl rfl rfl ⟨rfl, rfl, rfl, rfl, rfl⟩ rfl rfl rfl rfl rfl (by kernel_rfl) Try.func7 (by kernel_rfl)
    (of_decide_eq_true (by kernel_rfl)) (by unfold Func.isWrapper; rw [if_neg (of_decide_eq_false (by kernel_rfl))]; exact ⟨rfl, rfl⟩)
    (fun os started H enc _ => SpanBack_lifted os started H enc)
#print axioms spanBack_holds
end Go.Proofs.Ytpodgidamoiakaa
