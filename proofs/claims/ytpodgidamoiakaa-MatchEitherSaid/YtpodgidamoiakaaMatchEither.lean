/-
  The law MatchEither returns true, whatever it is handed, and changes nothing that was there.
-/
import Derived.Test.YtpodgidamoiakaaMatchT
import Derived.Test.YtpodgidamoiakaaMatchM
import Derived.Test.YtpodgidamoiakaaMatchLift
namespace Go.Proofs.Ytpodgidamoiakaa
open Go.ChangeShapes Go.WideShapes Go.ChangeAt Go.RowKit Go.Shelf

set_option maxRecDepth 100000 in
set_option maxHeartbeats 20000000 in
theorem MatchEither_walk (W : World) (left : Int) (_ : InI left) (right : Int) (_ : InI right) (A : Option Addr) (n cap : Nat) (l : List Edg) (h : Sl edgC 2 W All A n cap l) :
    Calls Try.prog 11 #[.int .i64 left, .int .i64 right, .slice A n cap] W fun e w' => e = .returned (.bool true) ∧ Below W.heap.size W w' := by
  obtain ⟨r, hr⟩ : ∃ r, r = grE left right l := ⟨_, rfl⟩
  have HM := Lib.hid (fun W h => Most_any left right A n cap l W h)
  have HL := Lib.hid (fun W h => Lack_any left right A n cap l W h)
  rw [← hr] at HM HL
  have HR := Lib.hid hr
  clear hr
  have HH := Lib.hid h
  clear h
  go_enter Try.func11, Try.ntmps11
  go_wp2_with fail
  refine (HM.out _ HH.out).mono ?_
  rintro e w1 ⟨v1, ml, xs1, rfl, ho1, hm, hb⟩
  obtain ⟨A1, n1, c1, rfl, hs1⟩ := ho1.sl edgC_good
  replace hs1 := hs1.all edgC_good (by omega)
  have HMO := Lib.hid hm
  clear hm
  clear ho1
  go_wp2_with fail
  refine (HL.out _ (HH.out.bel hb)).mono ?_
  rintro e w2 ⟨v2, sm, xs2, rfl, ho2, hk, hb2⟩
  obtain ⟨A2, n2, c2, rfl, hs2⟩ := ho2.sl intC_good
  replace hs2 := hs2.all intC_good (by omega)
  replace hs1 := hs1.bel hb2
  replace hb := hb.trans (hb2.mono hb.size)
  have HKO := Lib.hid hk
  clear hk
  clear ho2 hb2
  go_wp2_with fail
  refine (matchBegun_any _).mono ?_
  rintro e w4 ⟨rfl, hb2⟩
  replace hs1 := hs1.bel hb2
  replace hs2 := hs2.bel hb2
  replace hb := hb.trans (hb2.mono hb.size)
  clear hb2
  by_cases h0 : r = 0
  · have hR := HR.out
    rw [h0] at hR
    obtain ⟨a, b, rfl, rfl, ha, hb16, hg, hnd⟩ := grE_ok hR.symm
    obtain ⟨hbest, hsz⟩ := HMO.out.2 a b rfl rfl hR.symm
    obtain ⟨k, hk1, hk2⟩ := HKO.out.2 a b rfl rfl hR.symm
    obtain rfl := hk1.eq hsz hg
    obtain rfl : n1 = ml.length := hs1.len.symm
    obtain rfl : n2 = sm.length := hs2.len.symm
    have hle := hsz.le
    subst h0
    have HHB := Lib.hid hb
    have HS1 := Lib.hid hs1
    have HS2 := Lib.hid hs2
    have HBE := Lib.hid hbest
    have HG2 := Lib.hid hg
    have HK2 := Lib.hid hk2
    clear hk2
    obtain ⟨m, hm⟩ : ∃ m, m = ml.length := ⟨_, rfl⟩
    rw [← hm]
    rw [← hm] at HS1 HK2 hle
    clear hb hs1 hs2 hbest hsz hg hk1 hR hm HR HMO HKO
    rcases HK2.out with ⟨rfl, hka⟩ | ⟨hlt, hlk⟩
    · obtain rfl : m = a := hka
      have HI := Lib.hid (IsMatching_true A n cap l A1 m c1 ml w4 (HH.out.bel HHB.out) HS1.out HBE.out.sub HBE.out.up HBE.out.apart)
      go_wp2_with fail
      refine HI.out.mono ?_
      rintro e w7 ⟨rfl, hb2⟩
      go_wp2_with fail
      go_ret
      exact ⟨rfl, HHB.out.trans (hb2.mono HHB.out.size)⟩
    · obtain ⟨P, hP1, hP2⟩ := hlk.nb
      have hD := DoLack_true a A n cap l A2 sm.length c2 sm P w4 (HH.out.bel HHB.out) HS2.out (fun x hx => by have := HG2.out x hx; omega) hlk.rng hlk.up hP1 hP2
      obtain ⟨q, hq⟩ : ∃ q, q = sm.length := ⟨_, rfl⟩
      rw [← hq] at hD HS2 ⊢
      have hq0 : (0 : Int) < (q : Int) := by omega
      have hne' : ((m : Int) == (a : Int)) = false := by have : ¬ (m : Int) = (a : Int) := (by omega); simpa using this
      have hne : ¬ (m : Int) = (a : Int) := by omega
      have HD := Lib.hid hD
      clear hD
      clear hlk hP1 hP2 hq
      go_wp2_with fail
      refine HD.out.mono ?_
      rintro e w8 ⟨rfl, hb2⟩
      have hb := HHB.out.trans (hb2.mono HHB.out.size)
      have HI := Lib.hid (IsMatching_true A n cap l A1 m c1 ml w8 (HH.out.bel hb) (HS1.out.bel hb2) HBE.out.sub HBE.out.up HBE.out.apart)
      have HHD := Lib.hid hb
      clear hb hb2
      go_wp2_with fail
      refine HI.out.mono ?_
      rintro e w9 ⟨rfl, hb2⟩
      go_wp2_with fail
      go_ret
      exact ⟨rfl, HHD.out.trans (hb2.mono HHD.out.size)⟩
  · have h0' : (r == 0) = false := by simpa using h0
    clear hs1 hs2
    go_wp2_with fail
    go_ret
    exact ⟨rfl, hb⟩
set_option maxRecDepth 100000 in
theorem MatchEither_lifted (os : Os) (started : os.Started) (H : Type) (enc : TypeId × Value → H) :
    ReturnsInHanded {} Try.checked os 11 .any (Rows.matchEitherSpec.pre6 enc Try.prog Try.f11 Rows.matchEitherRow.domain false) (Rows.matchEitherSpec.post enc Try.prog Try.f11 false true false false) := by
  refine returnsInHanded_of_change (C := Try.checked) own started (by kernel_rfl) Try.func11
    (ChangeSpec.witness6 (enc := enc) (C := Try.checked) false ⟨#[], #[.int .i64 0, .int .i64 0, .slice none 0 0], []⟩ 8 (by kernel_rfl) (by kernel_rfl) (by kernel_rfl) (by kernel_rfl)) ?_
  intro W base args ds gs before hval0 hW hcnd _
  have hval : ∀ (j : Nat) t v, Try.f11.params[j]? = some t → args[j]? = some v → Value.okWide Try.prog W .any base t v := hval0
  have hW' := hW
  obtain ⟨p, q, hA0, hV, rfl, hfz, hnd⟩ := hW
  have hA : DataW.TrodAll enc Try.prog W 0 (fun _ => true) true Try.f11.params.toList args.toList ds p := hA0
  rw [Try.params11] at hA hval
  obtain ⟨v0, vs0, d0, ds0, p0, q0, hargs, rfl, rfl, h0, r0⟩ := trodAll_cons hA
  obtain ⟨v1, vs1, d1, ds1, p1, q1, rfl, rfl, rfl, h1, r1⟩ := trodAll_cons r0
  obtain ⟨v2, vs2, d2, ds2, p2, q2, rfl, rfl, rfl, h2, r2⟩ := trodAll_cons r1
  obtain ⟨rfl, rfl, rfl⟩ := trodAll_nil r2
  obtain rfl : args = #[v0, v1, v2] := by cases args; simp_all
  obtain ⟨rfl, rfl⟩ := trodVars_none hV
  have lt0 := arg_lt h0
  have k0 := h0
  obtain ⟨a0, rfl, w0⟩ := arg_int Try.underlying3 (hval 0 3 v0 rfl rfl) h0
  have lt1 := arg_lt h1
  have k1 := h1
  obtain ⟨a1, rfl, w1⟩ := arg_int Try.underlying3 (hval 1 3 v1 rfl rfl) h1
  have lt2 := arg_lt h2
  have k2 := h2
  obtain ⟨A2, n2, c2, a2, rfl, w2⟩ := arg_sl (size := 2) Try.underlying60 (by kernel_rfl) (by omega) opens_edgC (hval 2 60 v2 rfl rfl) h2
  clear hA0 hval0
  refine (MatchEither_walk W a0 w0 a1 w1 A2 n2 c2 a2 w2).mono fun e W' ⟨he, bel⟩ => ?_
  subst he
  exact ⟨_, rfl, _, _, _, [], _, [], hW', trodAll_mk1 (shut_bool Try.underlying4 _), (trodAll_cons_mk (Below.trod laidOut (by kernel_rfl) (of_decide_eq_true (by kernel_rfl)) k0 bel lt0) (trodAll_cons_mk (Below.trod laidOut (by kernel_rfl) (of_decide_eq_true (by kernel_rfl)) k1 bel lt1) (trodAll_cons_mk (Below.trod laidOut (by kernel_rfl) (of_decide_eq_true (by kernel_rfl)) k2 bel lt2) trodAll_mk0))), rfl, bel.frame _, fun h => by cases h⟩

/-- THE GIVEN STATEMENT MatchEither. -/
theorem matchEither_holds : Rows.MatchEitherSaid :=
  OpenClaim.holds_of_wide 11 Try.f11 rfl rfl rfl rfl rfl rfl rfl ⟨rfl, rfl, rfl, rfl, rfl⟩ rfl rfl rfl rfl rfl (by kernel_rfl) Try.func11 (by kernel_rfl)
    (of_decide_eq_true (by kernel_rfl)) (by unfold Func.isWrapper; rw [if_neg (of_decide_eq_false (by kernel_rfl))]; exact ⟨rfl, rfl⟩)
    (fun os started H enc _ => MatchEither_lifted os started H enc)
#print axioms matchEither_holds
end Go.Proofs.Ytpodgidamoiakaa
