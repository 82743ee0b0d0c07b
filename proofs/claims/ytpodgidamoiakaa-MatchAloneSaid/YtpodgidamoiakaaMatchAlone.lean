/-
  The law MatchAlone returns true, whatever it is handed, and changes nothing that was there.
-/
import Derived.Test.YtpodgidamoiakaaMatchT
import Derived.Test.YtpodgidamoiakaaMatchM
import Derived.Test.YtpodgidamoiakaaMatchLift
namespace Go.Proofs.Ytpodgidamoiakaa
open Go.ChangeShapes Go.WideShapes Go.ChangeAt Go.RowKit Go.Shelf

theorem OkGr.wider {a b a2 b2 : Nat} {l : List Edg} (h : OkGr a b l) (ha : a ≤ a2) (hb : b ≤ b2) : OkGr a2 b2 l := fun x hx => by
  have := h x hx
  omega
set_option maxRecDepth 100000 in
set_option maxHeartbeats 20000000 in
theorem MatchAlone_walk (W : World) (left : Int) (_ : InI left) (right : Int) (_ : InI right) (A : Option Addr) (n cap : Nat) (l : List Edg) (h : Sl edgC 2 W All A n cap l) :
    Calls Try.prog 9 #[.int .i64 left, .int .i64 right, .slice A n cap] W fun e w' => e = .returned (.bool true) ∧ Below W.heap.size W w' := by
  obtain ⟨r, hr⟩ : ∃ r, r = grE left right l := ⟨_, rfl⟩
  have HM := Lib.hid (fun W h => Most_any left right A n cap l W h)
  rw [← hr] at HM
  have HR := Lib.hid hr
  clear hr
  have HH := Lib.hid h
  clear h
  go_enter Try.func9, Try.ntmps9
  go_wp2_with fail
  refine (matchBegun_any _).mono ?_
  rintro e w4 ⟨rfl, hb⟩
  go_wp2_with fail
  refine (HM.out _ (HH.out.bel hb)).mono ?_
  rintro e w1 ⟨v1, ml, xs1, rfl, ho1, hm, hb2⟩
  obtain ⟨A1, n1, c1, rfl, hs1⟩ := ho1.sl edgC_good
  replace hb := hb.trans (hb2.mono hb.size)
  have HMO := Lib.hid hm
  clear hm
  clear ho1 hb2
  by_cases h0 : r = 0
  · have hR := HR.out
    rw [h0] at hR
    obtain ⟨a, b, rfl, rfl, ha, hb16, hg, hnd⟩ := grE_ok hR.symm
    obtain ⟨hbest, hsz⟩ := HMO.out.2 a b rfl rfl hR.symm
    obtain rfl : n1 = ml.length := hs1.len.symm
    have hle := hsz.le
    have HXA := Lib.hid (show a < 16 → grE ((a : Int) + 1) b l = 0 from fun h => grE_of (a := a + 1) h hb16 (hg.wider (by omega) (Nat.le_refl _)) hnd)
    have HXB := Lib.hid (show b < 16 → grE (a : Int) ((b : Int) + 1) l = 0 from fun h => grE_of (b := b + 1) ha h (hg.wider (Nat.le_refl _) (by omega)) hnd)
    subst h0
    have HHB := Lib.hid hb
    have HBE := Lib.hid hbest
    have HG2 := Lib.hid hg
    have HMA := Lib.hid (fun W h => Most_any ((a : Int) + 1) b A n cap l W h)
    have HLA := Lib.hid (fun W h => Lack_any ((a : Int) + 1) b A n cap l W h)
    have HMB := Lib.hid (fun W h => Most_any a ((b : Int) + 1) A n cap l W h)
    obtain ⟨m, hm⟩ : ∃ m, m = ml.length := ⟨_, rfl⟩
    rw [← hm]
    rw [← hm] at hle
    have HML := Lib.hid hm
    clear hm
    have hwa : IntKind.i64.wrap ((a : Int) + 1) = (a : Int) + 1 := by rw [IntKind.wrap_i64]; omega
    have hwb : IntKind.i64.wrap ((b : Int) + 1) = (b : Int) + 1 := by rw [IntKind.wrap_i64]; omega
    clear hb hs1 hbest hsz hg hR HR HMO
    have h16 : ¬ (b : Int) = 16 → b < 16 := fun h => by omega
    by_cases ha2 : (a : Int) < 16
    · have hXA := HXA.out (by omega)
      rw [hXA] at HMA HLA
      go_wp2_with fail
      refine (HMA.out _ (HH.out.bel HHB.out)).mono ?_
      rintro e w5 ⟨v5, ml5, xs5, rfl, ho5, hm5, hb5⟩
      obtain ⟨A5, n5, c5, rfl, hs5⟩ := ho5.sl edgC_good
      obtain ⟨hbest5, hsz5⟩ := hm5.2 (a + 1) b rfl rfl hXA
      obtain rfl : n5 = m := by rw [HML.out, hbest5.same HBE.out (HG2.out.wider (by omega) (Nat.le_refl _)) HG2.out (fun x => Iff.rfl) |>.symm]; exact hs5.len.symm
      have hb := HHB.out.trans (hb5.mono HHB.out.size)
      have HB5 := Lib.hid hb
      have HSZ5 := Lib.hid (show IsSize (a + 1) b l n5 from by have := hs5.len; rw [← this]; exact hsz5)
      clear ho5 hm5 hs5 hbest5 hsz5 hb5 hb
      go_wp2_with fail
      refine (HLA.out _ (HH.out.bel HB5.out)).mono ?_
      rintro e w6 ⟨v6, sm, xs6, rfl, ho6, hk, hb6⟩
      obtain ⟨A6, n6, c6, rfl, hs6⟩ := ho6.sl intC_good
      replace hs6 := hs6.all intC_good (by omega)
      obtain rfl : n6 = sm.length := hs6.len.symm
      obtain ⟨k, hk1, hk2⟩ := hk.2 (a + 1) b rfl rfl hXA
      obtain rfl := hk1.eq HSZ5.out (HG2.out.wider (by omega) (Nat.le_refl _))
      rcases hk2 with ⟨_, hka⟩ | ⟨_, hlk⟩
      · omega
      have hb := HB5.out.trans (hb6.mono HB5.out.size)
      obtain ⟨P, hP1, hP2⟩ := hlk.nb
      have hD := DoLack_true (a + 1) A n cap l A6 sm.length c6 sm P w6 (HH.out.bel hb) hs6 (fun x hx => by have := HG2.out x hx; omega) hlk.rng hlk.up hP1 hP2
      rw [show (((a + 1 : Nat) : Int)) = (a : Int) + 1 from rfl] at hD
      have HD := Lib.hid hD
      clear hD
      have HB6 := Lib.hid hb
      clear hb hb6 hs6 ho6 hk hk1 hlk hP1 hP2 hXA
      go_wp2_with fail
      refine HD.out.mono ?_
      rintro e w7 ⟨rfl, hb7⟩
      have HB7 := Lib.hid (HB6.out.trans (hb7.mono HB6.out.size))
      clear hb7
      by_cases hb2 : (b : Int) = 16
      · have hb2' : ((b : Int) == 16) = true := by simpa using hb2
        go_wp2_with fail
        go_ret
        exact ⟨rfl, HB7.out⟩
      · have hb2' : ((b : Int) == 16) = false := by simpa using hb2
        have hXB := HXB.out (by omega)
        rw [hXB] at HMB
        go_wp2_with fail
        refine (HMB.out _ (HH.out.bel HB7.out)).mono ?_
        rintro e w8 ⟨v8, ml8, xs8, rfl, ho8, hm8, hb8⟩
        obtain ⟨A8, n8, c8, rfl, hs8⟩ := ho8.sl edgC_good
        obtain ⟨hbest8, _⟩ := hm8.2 a (b + 1) rfl rfl hXB
        obtain rfl : n8 = k := by rw [HML.out, hbest8.same HBE.out (HG2.out.wider (Nat.le_refl _) (by omega)) HG2.out (fun x => Iff.rfl) |>.symm]; exact hs8.len.symm
        have hb := HB7.out.trans (hb8.mono HB7.out.size)
        clear ho8 hm8 hs8 hbest8 hb8 hXB
        go_wp2_with fail
        go_ret
        exact ⟨rfl, hb⟩
    · have HB7 := HHB
      by_cases hb2 : (b : Int) = 16
      · have hb2' : ((b : Int) == 16) = true := by simpa using hb2
        go_wp2_with fail
        go_ret
        exact ⟨rfl, HB7.out⟩
      · have hb2' : ((b : Int) == 16) = false := by simpa using hb2
        have hXB := HXB.out (by omega)
        rw [hXB] at HMB
        go_wp2_with fail
        refine (HMB.out _ (HH.out.bel HB7.out)).mono ?_
        rintro e w8 ⟨v8, ml8, xs8, rfl, ho8, hm8, hb8⟩
        obtain ⟨A8, n8, c8, rfl, hs8⟩ := ho8.sl edgC_good
        obtain ⟨hbest8, _⟩ := hm8.2 a (b + 1) rfl rfl hXB
        obtain rfl : n8 = m := by rw [HML.out, hbest8.same HBE.out (HG2.out.wider (Nat.le_refl _) (by omega)) HG2.out (fun x => Iff.rfl) |>.symm]; exact hs8.len.symm
        have hb := HB7.out.trans (hb8.mono HB7.out.size)
        clear ho8 hm8 hs8 hbest8 hb8 hXB
        go_wp2_with fail
        go_ret
        exact ⟨rfl, hb⟩
  · have h1 : ml = [] := HMO.out.1 (by rw [← HR.out]; exact h0)
    subst h1
    obtain rfl : n1 = 0 := hs1.len.symm
    have h0' : (r == 0) = false := by simpa using h0
    clear hs1
    go_wp2_with fail
    go_ret
    exact ⟨rfl, hb⟩
set_option maxRecDepth 100000 in
theorem MatchAlone_lifted (os : Os) (started : os.Started) (H : Type) (enc : TypeId × Value → H) :
    ReturnsInHanded {} Try.checked os 9 .any (Rows.matchAloneSpec.pre6 enc Try.prog Try.f9 Rows.matchAloneRow.domain false) (Rows.matchAloneSpec.post enc Try.prog Try.f9 false true false false) := by
  refine returnsInHanded_of_change (C := Try.checked) own started (by kernel_rfl) Try.func9
    (ChangeSpec.witness6 (enc := enc) (C := Try.checked) false ⟨#[], #[.int .i64 0, .int .i64 0, .slice none 0 0], []⟩ 8 (by kernel_rfl) (by kernel_rfl) (by kernel_rfl) (by kernel_rfl)) ?_
  intro W base args ds gs before hval0 hW hcnd _
  have hval : ∀ (j : Nat) t v, Try.f9.params[j]? = some t → args[j]? = some v → Value.okWide Try.prog W .any base t v := hval0
  have hW' := hW
  obtain ⟨p, q, hA0, hV, rfl, hfz, hnd⟩ := hW
  have hA : DataW.TrodAll enc Try.prog W 0 (fun _ => true) true Try.f9.params.toList args.toList ds p := hA0
  rw [Try.params9] at hA hval
  obtain ⟨v0, vs0, d0, ds0, p0, q0, hargs, rfl, rfl, h0, r0⟩ := trodAll_cons hA
  obtain ⟨v1, vs1, d1, ds1, p1, q1, rfl, rfl, rfl, h1, r1⟩ := trodAll_cons r0
  obtain ⟨v2, vs2, d2, ds2, p2, q2, rfl, rfl, rfl, h2, r2⟩ := trodAll_cons r1
  obtain ⟨rfl, rfl, rfl⟩ := trodAll_nil r2
  obtain rfl : args = #[v0, v1, v2] := by cases args; simp_all
  obtain ⟨rfl, rfl⟩ := trodVars_none hV
  have lt0 := arg_lt h0
  have k0 := h0
  obtain ⟨a0, rfl, w0⟩ := arg_int Try.underlying3 (hval 0 3 v0 rfl rfl) h0
  have lt1 := arg_lt h1
  have k1 := h1
  obtain ⟨a1, rfl, w1⟩ := arg_int Try.underlying3 (hval 1 3 v1 rfl rfl) h1
  have lt2 := arg_lt h2
  have k2 := h2
  obtain ⟨A2, n2, c2, a2, rfl, w2⟩ := arg_sl (size := 2) Try.underlying60 (by kernel_rfl) (by omega) opens_edgC (hval 2 60 v2 rfl rfl) h2
  clear hA0 hval0
  refine (MatchAlone_walk W a0 w0 a1 w1 A2 n2 c2 a2 w2).mono fun e W' ⟨he, bel⟩ => ?_
  subst he
  exact ⟨_, rfl, _, _, _, [], _, [], hW', trodAll_mk1 (shut_bool Try.underlying4 _), (trodAll_cons_mk (Below.trod laidOut (by kernel_rfl) (of_decide_eq_true (by kernel_rfl)) k0 bel lt0) (trodAll_cons_mk (Below.trod laidOut (by kernel_rfl) (of_decide_eq_true (by kernel_rfl)) k1 bel lt1) (trodAll_cons_mk (Below.trod laidOut (by kernel_rfl) (of_decide_eq_true (by kernel_rfl)) k2 bel lt2) trodAll_mk0))), rfl, bel.frame _, fun h => by cases h⟩

/-- THE GIVEN STATEMENT MatchAlone. -/
theorem matchAlone_holds : Rows.MatchAloneSaid :=
  OpenClaim.holds_of_wide 9 Try.f9 rfl rfl rfl rfl rfl rfl rfl ⟨rfl, rfl, rfl, rfl, rfl⟩ rfl rfl rfl rfl rfl (by kernel_rfl) Try.func9 (by kernel_rfl)
    (of_decide_eq_true (by kernel_rfl)) (by unfold Func.isWrapper; rw [if_neg (of_decide_eq_false (by kernel_rfl))]; exact ⟨rfl, rfl⟩)
    (fun os started H enc _ => MatchAlone_lifted os started H enc)
#print axioms matchAlone_holds
end Go.Proofs.Ytpodgidamoiakaa
