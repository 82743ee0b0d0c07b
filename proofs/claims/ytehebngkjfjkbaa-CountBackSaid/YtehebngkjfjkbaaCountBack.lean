/-
  The law CountBack returns true, whatever it is handed, and changes nothing that was there.
-/
import Derived.Test.YtehebngkjfjkbaaCountF
import Derived.Test.YtehebngkjfjkbaaSpanLift
namespace Go.Proofs.Ytehebngkjfjkbaa
open Go.ChangeShapes Go.WideShapes Go.ChangeAt Go.RowKit Go.Shelf

theorem count_of {l : List Int} {g : Int} (h1 : 1 ≤ g) (h2 : g ≤ 7) (h3 : (l.length : Int) = g) (h4 : l.all soulsB = true) : countE l g = 0 := by
  have hl : legsB g = true := betB_true h1 h2
  have ha : l.any (fun x => !soulsB x) = false := by
    rw [List.any_eq_false]
    intro x hx
    rw [List.all_eq_true.1 h4 x hx]
    simp
  unfold countE
  rw [if_neg (by rw [hl]; simp), if_neg (by simp [h3]), ha]
  rfl
theorem ready_of {l : List Int} {g : Int} {s : Span} {m : Int} (h1 : 1 ≤ g) (h2 : g ≤ 7) (h3 : (l.length : Int) = g) (h4 : l.all soulsB = true) (h5 : 0 ≤ s.frm) (h6 : s.frm < s.upto) (h7 : s.upto ≤ g) (h8 : 0 ≤ m) (h9 : m ≤ 60) : readyE l g s m = 0 := by
  have hl : legsB g = true := betB_true h1 h2
  have hs : spanE s g = 0 := by
    unfold spanE
    rw [if_neg (by rw [hl]; simp; omega), if_neg (by omega)]
  unfold readyE
  rw [count_of h1 h2 h3 h4, hs, if_neg (by simp), if_neg (by simp), show soulsB m = true from betB_true h8 h9]
  rfl
theorem addAt_back (l : List Int) (f t d : Int) : addAt (addAt l f t d) f t (-d) = l := by
  refine List.ext_getElem? fun i => ?_
  rw [addAt_at, addAt_at]
  cases l[i]? with
  | none => rfl
  | some x =>
    simp only [Option.map_some]
    by_cases h : f ≤ (i : Int) ∧ (i : Int) < t
    · rw [if_pos h, if_pos h]; congr 1; omega
    · rw [if_neg h, if_neg h]
theorem more_ready {l : List Int} {g : Int} {s : Span} {m d why : Int} (h : 0 = moreE l g s m d why) (hw : why ≠ 0) : readyE l g s m = 0 ∧ (addAt l s.frm s.upto d).all soulsB = true := by
  by_cases e : readyE l g s m = 0
  · refine ⟨e, ?_⟩
    unfold moreE at h
    rw [if_neg (by simp [e])] at h
    cases e2 : (addAt l s.frm s.upto d).all soulsB with
    | true => rfl
    | false => rw [e2] at h; exact absurd h.symm hw
  · unfold moreE at h
    rw [if_pos e] at h
    exact absurd h.symm e
/-- What is added is taken again. -/
theorem back {l : List Int} {g : Int} {s : Span} {m : Int} (h : 0 = moreE l g s m m 2) : moreE (addAt l s.frm s.upto m) g s m (-m) 4 = 0 ∧ countE (addAt l s.frm s.upto m) g = 0 := by
  obtain ⟨h1, h2⟩ := more_ready h (by decide)
  obtain ⟨g1, g2, g3, g4, g5, g6, g7, g8, g9⟩ := ready_ok h1
  have hlen : ((addAt l s.frm s.upto m).length : Int) = g := by rw [addAt_length]; exact g3
  refine ⟨?_, count_of g1 g2 hlen h2⟩
  unfold moreE
  rw [ready_of g1 g2 hlen h2 g5 g6 g7 g8 g9, addAt_back, if_neg (by simp), g4]
  rfl
theorem fits_ready' {l : List Int} {g : Int} {s : Span} {m most : Int} (h : 0 = fitsE l g s m most) : readyE l g s m = 0 := by
  unfold fitsE at h
  by_cases e : readyE l g s m = 0
  · exact e
  · rw [if_pos e] at h; exact h.symm

/-- The peak lies in the span. -/
theorem peak_at {l : List Int} {g : Int} {f t : Nat} (h : readyE l g ⟨f, t⟩ 0 = 0) : ∃ k : Nat, peakI l ⟨f, t⟩ = (k : Int) ∧ f ≤ k ∧ k < t ∧ l[k]? = some (peakV l ⟨f, t⟩) := by
  obtain ⟨g1, g2, g3, g4, g5, g6, g7, g8, g9⟩ := ready_ok h
  simp only at g5 g6 g7
  have hsl := seg_length (l := l) (f := f) (t := t) (by omega)
  have hne : seg l f t ≠ [] := by intro e; rw [e] at hsl; simp at hsl; omega
  have h0 : ∀ x ∈ seg l f t, 0 ≤ x := fun x hx => (soulsB_iff.1 (List.all_eq_true.1 g4 x (seg_mem hx))).1
  have hm := mx_mem h0 hne
  obtain ⟨p, hp⟩ : ∃ p, p = peakV l ⟨f, t⟩ := ⟨_, rfl⟩
  have hpe : mx (seg l f t) = p := hp.symm
  rw [hpe] at hm
  have hany : (seg l f t).any (fun x => p == x) = true := List.any_eq_true.2 ⟨_, hm, by simp⟩
  have hlt : (seg l f t).findIdx (fun x => p == x) < (seg l f t).length := List.findIdx_lt_length.2 (by simpa using hany)
  have hat := List.findIdx_getElem (w := hlt)
  simp only [beq_iff_eq] at hat
  have hge := List.getElem?_eq_getElem hlt
  rw [← hat] at hge
  refine ⟨f + (seg l f t).findIdx (fun x => p == x), ?_, by omega, by omega, ?_⟩
  · unfold peakI
    rw [← hp]
    simp only
    unfold idxF
    rw [hany, if_pos rfl]
    omega
  · rw [← hp]
    unfold seg at hge hlt
    simp only [Int.toNat_natCast] at hge hlt
    rw [List.length_take, List.length_drop] at hlt
    rw [List.getElem?_take, if_pos (by omega), List.getElem?_drop] at hge
    unfold seg
    simp only [Int.toNat_natCast]
    exact hge

set_option maxRecDepth 100000 in
set_option maxHeartbeats 8000000 in
theorem CountBack_walk (W : World) (A : Option Addr) (n cap : Nat) (l : List Int) (h : Sl intC 1 W All A n cap l) (g : Int) (_ : InI g) (cs : Array Value) (s : Span) (hs : spanC W All s cs.toList) (m : Int) (_ : InI m) (most : Int) (_ : InI most) :
    Calls Try.prog 7 #[.slice A n cap, .int .i64 g, .agg cs, .int .i64 m, .int .i64 most] W fun e w' => e = .returned (.bool true) ∧ Below W.heap.size W w' := by
  obtain ⟨a, b⟩ := s
  obtain ⟨hs, ia, ib⟩ := hs
  obtain rfl : cs = #[.int .i64 a, .int .i64 b] := by cases cs; simp_all
  simp only at ia ib
  have hb0 : Below W.heap.size W (W.alloc (.cells #[.int .i64 a, .int .i64 b] 40)) := (Below.refl _ _).alloc (Nat.le_refl _) _
  have hS := SpanAt.new W a b
  obtain ⟨xe, hxe⟩ : ∃ xe, xe = moreE l g ⟨a, b⟩ m m 2 := ⟨_, rfl⟩
  obtain ⟨we, hwe⟩ : ∃ we, we = fitsE l g ⟨a, b⟩ m most := ⟨_, rfl⟩
  obtain ⟨LA, hLA⟩ : ∃ L, L = addAt l a b m := ⟨_, rfl⟩
  obtain ⟨fb, hfb⟩ : ∃ fb, fb = okB we (fitsB l ⟨a, b⟩ m most) := ⟨_, rfl⟩
  have hA := fun w h => countAdd_any A n cap l g a b m w h
  have hF := fun w h => Fits_any A n cap l g a b m most w h
  have hP := fun w h => Peak_any A n cap l g a b w h
  rw [← hxe, ← hLA] at hA
  rw [← hwe, ← hfb] at hF
  have HA := Lib.hid hA
  have HF := Lib.hid hF
  have HP := Lib.hid hP
  have EX := Lib.hid hxe
  have EW := Lib.hid hwe
  have EL := Lib.hid hLA
  have EF := Lib.hid hfb
  clear hA hF hP hxe hwe hLA hfb hs
  go_enter Try.func7, Try.ntmps7
  go_wp2_with fail
  refine (countBegun_any _).mono ?_
  rintro e w1 ⟨rfl, hb1⟩
  replace hS := hS.below hb1
  replace hb0 := hb0.trans (hb1.mono hb0.size)
  have k0 := hS.c0
  have k1 := hS.c1
  clear hb1
  go_wp2_with fail
  refine (HA.out _ (h.below intC_good (by omega) hb0)).mono ?_
  rintro e w2 ⟨v1, xs1, rfl, ho1, hb1⟩
  obtain ⟨A1, n1, c1, rfl, hs1⟩ := ho1.sl intC_good
  replace hs1 := hs1.all intC_good (by omega)
  replace hS := hS.below hb1
  replace hb0 := hb0.trans (hb1.mono hb0.size)
  replace k0 := hS.c0
  replace k1 := hS.c1
  clear hb1 ho1
  go_upto_if 29 with (fail)
  go_cut [12, 13, 14] (fun x y z wx => Below w2.heap.size w2 wx)
  case first =>
    by_cases h0 : xe = 0
    · subst h0
      have hbk := back EX.out
      simp only at hbk
      rw [← EL.out] at hbk
      have hT := fun w h => countTake_any A1 n1 c1 LA g a b m w h
      have hC := fun w h => countCheck_any A1 n1 c1 LA g w h
      rw [hbk.1, show addAt LA a b (-m) = l by rw [EL.out, addAt_back]] at hT
      rw [hbk.2] at hC
      have HT := Lib.hid hT
      have HC := Lib.hid hC
      clear hT hC hbk
      rw [okL_zero] at hs1
      go_wp2_with fail
      refine (HT.out _ hs1).mono ?_
      rintro e w3 ⟨v3, xs3, rfl, ho3, hb1⟩
      obtain ⟨A3, n3, c3, rfl, hs3⟩ := ho3.sl intC_good
      replace hs3 := hs3.all intC_good (by omega)
      rw [okL_zero] at hs3
      replace hs1 := hs1.below intC_good (by omega) hb1
      have hbb := hb0.trans (hb1.mono hb0.size)
      have hS1 := SameInts_any _ _ _ _ _ _ _ _ _ hs3 (h.below intC_good (by omega) hbb)
      rw [decide_eq_true rfl] at hS1
      have HS1 := Lib.hid hS1
      clear hS1 ho3
      go_wp2_with fail
      refine HS1.out.mono ?_
      rintro e w4 ⟨rfl, q, rfl⟩
      have hb2 := below_drewN (Below.refl w3.heap.size w3) q
      go_wp2_with fail
      refine (HC.out _ (hs1.below intC_good (by omega) hb2)).mono ?_
      rintro e w5 ⟨rfl, hb3⟩
      have hb4 : Below w2.heap.size w2 w5 := hb1.trans ((hb2.trans (hb3.mono hb2.size)).mono hb1.size)
      go_wp2_with fail
      go_meet
      exact hb4
    · have h0' : (xe == 0) = false := by simpa using h0
      clear h0
      go_wp2_with fail
      go_meet
      exact Below.refl _ _
  case rest =>
    replace hS := hS.below hcut
    replace hb0 := hb0.trans (hcut.mono hb0.size)
    replace k0 := hS.c0
    replace k1 := hS.c1
    clear hcut hs1
    go_wp2_with fail
    refine (HF.out _ (h.below intC_good (by omega) hb0)).mono ?_
    rintro e w3 ⟨rfl, hb1⟩
    replace hS := hS.below hb1
    replace hb0 := hb0.trans (hb1.mono hb0.size)
    replace k0 := hS.c0
    replace k1 := hS.c1
    clear hb1
    by_cases h0 : we = 0
    · subst h0
      have hr := fits_ready' EW.out
      have hz := ready_zero hr
      obtain ⟨g1, g2, g3, g4, g5, g6, g7, g8, g9⟩ := ready_ok hr
      simp only at g5 g6 g7
      obtain ⟨f, rfl⟩ := Int.eq_ofNat_of_zero_le g5
      obtain ⟨t, rfl⟩ := Int.eq_ofNat_of_zero_le (show 0 ≤ b by omega)
      obtain ⟨k, hk, hfk, hkt, hlk⟩ := peak_at hz
      obtain ⟨pk, hpk⟩ : ∃ pk, pk = peakV l ⟨f, t⟩ := ⟨_, rfl⟩
      have hbd := peak_bd hr
      have hf1 := EF.out
      rw [okB_zero, fits_peak hr] at hf1
      have hP1 := HP.out
      rw [show peakE l g ⟨f, t⟩ = 0 from hz, okI_zero, okI_zero, hk, ← hpk] at hP1
      rw [← hpk] at hf1 hbd hlk
      have HP1 := Lib.hid hP1
      have HF1 := Lib.hid hf1
      have HLK := Lib.hid hlk
      have hlen := h.len
      have hkn : k < n := by omega
      have hle := h.le
      clear hP1 hf1 hlk hk hr hz hpk hlen g3 g4 HA HF
      go_wp2_with fail
      refine (HP1.out _ (h.below intC_good (by omega) hb0)).mono ?_
      rintro e w4 ⟨rfl, hb1⟩
      replace hS := hS.below hb1
      replace hb0 := hb0.trans (hb1.mono hb0.size)
      replace k0 := hS.c0
      replace k1 := hS.c1
      clear hb1
      obtain ⟨bb, off, x, c0, rfl, hx, ⟨hc, b0⟩, q0⟩ := (h.below intC_good (by omega) hb0).at1 hkn
      simp only [List.cons.injEq, and_true] at hc
      subst hc
      obtain rfl : x = pk := by have := HLK.out; rw [hx] at this; injection this
      clear hx
      by_cases hm : x + m ≤ most
      · have hfb : fb = true := by rw [HF1.out, decide_eq_true hm]
        subst hfb
        go_wp2_with fail
        go_ret
        exact ⟨rfl, hb0⟩
      · have hfb : fb = false := by rw [HF1.out, decide_eq_false hm]
        subst hfb
        go_wp2_with fail
        go_ret
        exact ⟨retB (by simp; omega), hb0⟩
    · have h0' : (we != 0) = true := by simpa using h0
      have hfb : fb = false := by rw [EF.out, okB_ne h0]
      subst hfb
      clear h0
      go_wp2_with fail
      go_ret
      exact ⟨rfl, hb0⟩

set_option maxRecDepth 100000 in
theorem CountBack_lifted (os : Os) (started : os.Started) (H : Type) (enc : TypeId × Value → H) :
    ReturnsInHanded {} Try.checked os 7 .any (Rows.countBackSpec.pre6 enc Try.prog Try.f7 Rows.countBackRow.domain false) (Rows.countBackSpec.post enc Try.prog Try.f7 false true false false) := by
  refine returnsInHanded_of_change (C := Try.checked) own started (by kernel_rfl) Try.func7
    (ChangeSpec.witness6 (enc := enc) (C := Try.checked) false ⟨#[], #[.slice none 0 0, .int .i64 0, .agg #[.int .i64 0, .int .i64 0], .int .i64 0, .int .i64 0], []⟩ 8 (by kernel_rfl) (by kernel_rfl) (by kernel_rfl) (by kernel_rfl)) ?_
  intro W base args ds gs before hval0 hW hcnd _
  have hval : ∀ (j : Nat) t v, Try.f7.params[j]? = some t → args[j]? = some v → Value.okWide Try.prog W .any base t v := hval0
  have hW' := hW
  obtain ⟨p, q, hA0, hV, rfl, hfz, hnd⟩ := hW
  have hA : DataW.TrodAll enc Try.prog W 0 (fun _ => true) true Try.f7.params.toList args.toList ds p := hA0
  rw [Try.params7] at hA hval
  obtain ⟨v0, vs0, d0, ds0, p0, q0, hargs, rfl, rfl, h0, r0⟩ := trodAll_cons hA
  obtain ⟨v1, vs1, d1, ds1, p1, q1, rfl, rfl, rfl, h1, r1⟩ := trodAll_cons r0
  obtain ⟨v2, vs2, d2, ds2, p2, q2, rfl, rfl, rfl, h2, r2⟩ := trodAll_cons r1
  obtain ⟨v3, vs3, d3, ds3, p3, q3, rfl, rfl, rfl, h3, r3⟩ := trodAll_cons r2
  obtain ⟨v4, vs4, d4, ds4, p4, q4, rfl, rfl, rfl, h4, r4⟩ := trodAll_cons r3
  obtain ⟨rfl, rfl, rfl⟩ := trodAll_nil r4
  obtain rfl : args = #[v0, v1, v2, v3, v4] := by cases args; simp_all
  obtain ⟨rfl, rfl⟩ := trodVars_none hV
  have lt0 := arg_lt h0
  have k0 := h0
  obtain ⟨A0, n0, c0, a0, rfl, w0⟩ := arg_sl (size := 1) Try.underlying38 (by kernel_rfl) (by omega) (opens_int Try.underlying3) (hval 0 38 v0 rfl rfl) h0
  have lt1 := arg_lt h1
  have k1 := h1
  obtain ⟨a1, rfl, w1⟩ := arg_int Try.underlying3 (hval 1 3 v1 rfl rfl) h1
  have lt2 := arg_lt h2
  have k2 := h2
  obtain ⟨cs2, a2, rfl, w2⟩ := arg_agg (c := spanC) Try.underlying40 opens_spanC (hval 2 40 v2 rfl rfl) h2
  have lt3 := arg_lt h3
  have k3 := h3
  obtain ⟨a3, rfl, w3⟩ := arg_int Try.underlying3 (hval 3 3 v3 rfl rfl) h3
  have lt4 := arg_lt h4
  have k4 := h4
  obtain ⟨a4, rfl, w4⟩ := arg_int Try.underlying3 (hval 4 3 v4 rfl rfl) h4
  clear hA0 hval0
  refine (CountBack_walk W A0 n0 c0 a0 w0 a1 w1 cs2 a2 w2 a3 w3 a4 w4).mono fun e W' ⟨he, bel⟩ => ?_
  subst he
  exact ⟨_, rfl, _, _, _, [], _, [], hW', trodAll_mk1 (shut_bool Try.underlying4 _), (trodAll_cons_mk (Below.trod laidOut (by kernel_rfl) (of_decide_eq_true (by kernel_rfl)) k0 bel lt0) (trodAll_cons_mk (Below.trod laidOut (by kernel_rfl) (of_decide_eq_true (by kernel_rfl)) k1 bel lt1) (trodAll_cons_mk (Below.trod laidOut (by kernel_rfl) (of_decide_eq_true (by kernel_rfl)) k2 bel lt2) (trodAll_cons_mk (Below.trod laidOut (by kernel_rfl) (of_decide_eq_true (by kernel_rfl)) k3 bel lt3) (trodAll_cons_mk (Below.trod laidOut (by kernel_rfl) (of_decide_eq_true (by kernel_rfl)) k4 bel lt4) trodAll_mk0))))), rfl, bel.frame _, fun h => by cases h⟩

/-- THE GIVEN STATEMENT CountBack. -/
theorem countBack_holds : Rows.CountBackSaid :=
  OpenClaim.holds_of_wide 7 Try.f7 rfl rfl rfl rfl rfl rfl rfl ⟨rfl, rfl, rfl, rfl, rfl⟩ rfl rfl rfl rfl rfl (by kernel_rfl) Try.func7 (by kernel_rfl)
    (of_decide_eq_true (by kernel_rfl)) (by unfold Func.isWrapper; rw [if_neg (of_decide_eq_false (by kernel_rfl))]; exact ⟨rfl, rfl⟩)
    (fun os started H enc _ => CountBack_lifted os started H enc)
#print axioms countBack_holds
end Go.Proofs.Ytehebngkjfjkbaa
