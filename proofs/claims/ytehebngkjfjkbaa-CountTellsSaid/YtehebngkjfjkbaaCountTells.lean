/-
  The law CountTells returns true, whatever it is handed, and changes nothing that was there.
-/
import Derived.Test.YtehebngkjfjkbaaCountF
import Derived.Test.YtehebngkjfjkbaaSpanLift
import Derived.Deep.RegionWith
namespace Go.Proofs.Ytehebngkjfjkbaa
open Go.ChangeShapes Go.WideShapes Go.ChangeAt Go.RowKit Go.Shelf

theorem listIs_true {l m : List Int} {e : Int} (h : okL e m = okL e l) : listIs (okL e l) e e m = true := by simp [listIs, h]

theorem okL_more {l : List Int} {legs : Int} {s : Span} {m d why : Int} {L : List Int} (h : readyE l legs s m ≠ 0) : okL (moreE l legs s m d why) L = [] := by
  unfold moreE; rw [if_pos h, okL_ne h]

theorem tells_we {l : List Int} {g : Int} {s : Span} {m most u we : Int} (hu : u = readyE l g s m) (hw : we = fitsE l g s m most) (q : Bool) (hq : q = (u == 0 && !soulsB most)) : (q = true → we = 3) ∧ (q = false → we = u) := by
  unfold fitsE at hw
  rw [← hu] at hw
  subst hq
  by_cases h0 : u = 0
  · rw [h0, if_neg (by simp)] at hw
    rw [h0]
    cases e : soulsB most
    · rw [e] at hw; exact ⟨fun _ => hw, fun h => (by cases h)⟩
    · rw [e] at hw; exact ⟨fun h => (by cases h), fun _ => hw⟩
  · rw [if_pos h0] at hw
    have : (u == 0) = false := by simpa using h0
    rw [this]
    exact ⟨fun h => (by cases h), fun _ => hw⟩
theorem more_zero {l : List Int} {g : Int} {s : Span} {m d why : Int} (hu : 0 = readyE l g s m) : moreE l g s m d why = if (addAt l s.frm s.upto d).all soulsB then 0 else why := by
  unfold moreE; rw [if_neg (by rw [← hu]; simp)]
theorem more_ne {l : List Int} {g : Int} {s : Span} {m d why u : Int} (hu : u = readyE l g s m) (h : ¬ u = 0) : moreE l g s m d why = u := by
  unfold moreE; rw [← hu, if_pos h]
theorem fits_ready {l : List Int} {g : Int} {s : Span} {m most : Int} (h : 0 = fitsE l g s m most) : readyE l g s m = 0 := by
  unfold fitsE at h
  by_cases e : readyE l g s m = 0
  · exact e
  · rw [if_pos e] at h; exact h.symm

set_option maxRecDepth 100000 in
set_option maxHeartbeats 8000000 in
theorem CountTells_walk (W : World) (A : Option Addr) (n cap : Nat) (l : List Int) (h : Sl intC 1 W All A n cap l) (g : Int) (_ : InI g) (cs : Array Value) (s : Span) (hs : spanC W All s cs.toList) (m : Int) (_ : InI m) (most : Int) (_ : InI most) :
    Calls Try.prog 6 #[.slice A n cap, .int .i64 g, .agg cs, .int .i64 m, .int .i64 most] W fun e w' => e = .returned (.bool true) ∧ Below W.heap.size W w' := by
  obtain ⟨a, b⟩ := s
  obtain ⟨hs, ia, ib⟩ := hs
  obtain rfl : cs = #[.int .i64 a, .int .i64 b] := by cases cs; simp_all
  simp only at ia ib
  have hb0 : Below W.heap.size W (W.alloc (.cells #[.int .i64 a, .int .i64 b] 40)) := (Below.refl _ _).alloc (Nat.le_refl _) _
  have hS := SpanAt.new W a b
  obtain ⟨u, hu⟩ : ∃ u, u = readyE l g ⟨a, b⟩ m := ⟨_, rfl⟩
  obtain ⟨v, hv⟩ : ∃ v, v = readyE l g ⟨a, b⟩ 0 := ⟨_, rfl⟩
  obtain ⟨xe, hxe⟩ : ∃ xe, xe = moreE l g ⟨a, b⟩ m m 2 := ⟨_, rfl⟩
  obtain ⟨ye, hye⟩ : ∃ ye, ye = moreE l g ⟨a, b⟩ m (-m) 4 := ⟨_, rfl⟩
  obtain ⟨we, hwe⟩ : ∃ we, we = fitsE l g ⟨a, b⟩ m most := ⟨_, rfl⟩
  obtain ⟨pk, hpk⟩ : ∃ pk, pk = okI v (peakV l ⟨a, b⟩) := ⟨_, rfl⟩
  obtain ⟨pi, hpi⟩ : ∃ pi, pi = okI v (peakI l ⟨a, b⟩) := ⟨_, rfl⟩
  obtain ⟨fb, hfb⟩ : ∃ fb, fb = okB we (fitsB l ⟨a, b⟩ m most) := ⟨_, rfl⟩
  obtain ⟨ce, hce⟩ : ∃ ce, ce = countE l g := ⟨_, rfl⟩
  obtain ⟨LA, hLA⟩ : ∃ L, L = addAt l a b m := ⟨_, rfl⟩
  obtain ⟨LT, hLT⟩ : ∃ L, L = addAt l a b (-m) := ⟨_, rfl⟩
  have hA := fun w h => countAdd_any A n cap l g a b m w h
  have hT := fun w h => countTake_any A n cap l g a b m w h
  have hF := fun w h => Fits_any A n cap l g a b m most w h
  have hP := fun w h => Peak_any A n cap l g a b w h
  have hM := fun w h => CheckMore_any A n cap l g a b m w h
  have hM0 := fun w h => CheckMore_any A n cap l g a b 0 w h
  have hC := fun w h => countCheck_any A n cap l g w h
  have hR := fun w h => CheckCount_any A n cap l g w h
  rw [← hxe, ← hLA] at hA
  rw [← hye, ← hLT] at hT
  rw [← hwe, ← hfb] at hF
  rw [show peakE l g ⟨a, b⟩ = readyE l g ⟨a, b⟩ 0 from rfl, ← hv, ← hpk, ← hpi] at hP
  rw [← hu] at hM
  rw [← hv] at hM0
  rw [← hce] at hC hR
  have HA := Lib.hid hA
  have HT := Lib.hid hT
  have HF := Lib.hid hF
  have HP := Lib.hid hP
  have HM := Lib.hid hM
  have HM0 := Lib.hid hM0
  have HC := Lib.hid hC
  have HR := Lib.hid hR
  have EU := Lib.hid hu
  have EV := Lib.hid hv
  have EX := Lib.hid hxe
  have EY := Lib.hid hye
  have EW := Lib.hid hwe
  have EPK := Lib.hid hpk
  have EPI := Lib.hid hpi
  have EFB := Lib.hid hfb
  have ELA := Lib.hid hLA
  have ELT := Lib.hid hLT
  clear hA hT hF hP hM hM0 hC hR hu hv hxe hye hwe hpk hpi hfb hce hLA hLT hs
  go_enter Try.func6, Try.ntmps6
  go_wp2_with fail
  refine (HA.out _ (h.below intC_good (by omega) hb0)).mono ?_
  rintro e w1 ⟨v1, xs1, rfl, ho1, hb1⟩
  obtain ⟨A1, n1, c1, rfl, hs1⟩ := ho1.sl intC_good
  replace hs1 := hs1.all intC_good (by omega)
  replace hS := hS.below hb1
  replace hb0 := hb0.trans (hb1.mono hb0.size)
  have k0 := hS.c0
  have k1 := hS.c1
  clear hb1 ho1
  go_wp2_with fail
  refine (HT.out _ (h.below intC_good (by omega) hb0)).mono ?_
  rintro e w2 ⟨v2, xs2, rfl, ho2, hb1⟩
  obtain ⟨A2, n2, c2, rfl, hs2⟩ := ho2.sl intC_good
  replace hs2 := hs2.all intC_good (by omega)
  replace hs1 := hs1.below intC_good (by omega) hb1
  replace hS := hS.below hb1
  replace hb0 := hb0.trans (hb1.mono hb0.size)
  replace k0 := hS.c0
  replace k1 := hS.c1
  clear hb1 ho2
  go_wp2_with fail
  refine (HF.out _ (h.below intC_good (by omega) hb0)).mono ?_
  rintro e w3 ⟨rfl, hb1⟩
  replace hs1 := hs1.below intC_good (by omega) hb1
  replace hs2 := hs2.below intC_good (by omega) hb1
  replace hS := hS.below hb1
  replace hb0 := hb0.trans (hb1.mono hb0.size)
  replace k0 := hS.c0
  replace k1 := hS.c1
  clear hb1
  go_wp2_with fail
  refine (HP.out _ (h.below intC_good (by omega) hb0)).mono ?_
  rintro e w4 ⟨rfl, hb1⟩
  replace hs1 := hs1.below intC_good (by omega) hb1
  replace hs2 := hs2.below intC_good (by omega) hb1
  replace hS := hS.below hb1
  replace hb0 := hb0.trans (hb1.mono hb0.size)
  replace k0 := hS.c0
  replace k1 := hS.c1
  clear hb1
  go_upto_region 5 with (fail)
  go_cut [20, 21] (fun x y wx => x = .int .i64 u ∧ y = .int .i64 v ∧ Below w4.heap.size w4 wx)
  case first =>
    have hl4 := h.below intC_good (by omega) hb0
    have hbD : Below w4.heap.size w4 w4.drew := (Below.refl _ w4).drew
    have hlD := hl4.below intC_good (by omega) hbD
    go_region_with (first
      | (go_at_call_of 27 (Value.int IntKind.i64 m); first
          | (refine (HM.out wn ?_).mono ?_; exact hlN; rintro e wm ⟨rfl, hbm⟩; have hbM := hbN.trans (hbm.mono hbN.size))
          | (refine (HM.out _ ?_).mono ?_; exact hlD; rintro e wn ⟨rfl, hbn⟩; have hbN := hbD.trans (hbn.mono hbD.size); have hlN := hl4.below intC_good (by omega) hbN; have kn0 := (hS.below hbN).c0; have kn1 := (hS.below hbN).c1))
      | (go_at_call_of 27 (Value.int IntKind.i64 0); first
          | (refine (HM0.out wn ?_).mono ?_; exact hlN; rintro e wm ⟨rfl, hbm⟩; have hbM := hbN.trans (hbm.mono hbN.size))
          | (refine (HM0.out _ ?_).mono ?_; exact hlD; rintro e wn ⟨rfl, hbn⟩; have hbN := hbD.trans (hbn.mono hbD.size); have hlN := hl4.below intC_good (by omega) hbN; have kn0 := (hS.below hbN).c0; have kn1 := (hS.below hbN).c1)))
    all_goals
      go_wp2_with fail
      go_meet
      exact ⟨rfl, rfl, hbM⟩
  case rest =>
    obtain ⟨rfl, rfl, hb1⟩ := hcut
    replace hs1 := hs1.below intC_good (by omega) hb1
    replace hs2 := hs2.below intC_good (by omega) hb1
    replace hS := hS.below hb1
    replace hb0 := hb0.trans (hb1.mono hb0.size)
    replace k0 := hS.c0
    replace k1 := hS.c1
    clear hb1
    go_upto_region 7 with (fail)
    have HWE := Lib.hid (tells_we EU.out EW.out)
    go_cut [88] (fun t wx => (∃ q : Bool, t = .bool q ∧ Aside ((q = true → we = 3) ∧ (q = false → we = u))) ∧ wx = wc)
    case first =>
      by_cases h0 : u = 0
      · subst h0
        by_cases h1 : most < 0
        · have HS := Lib.hid (betB_false (n := most) (a := 0) (b := 60) (by omega))
          go_wp2_with fail
          go_meet
          exact ⟨⟨true, rfl, HWE.out true (by show _ = (_ && !betB most 0 60); rw [HS.out]; rfl)⟩, rfl⟩
        · by_cases h2 : 60 < most
          · have HS := Lib.hid (betB_false (n := most) (a := 0) (b := 60) (by omega))
            go_wp2_with fail
            go_meet
            exact ⟨⟨true, rfl, HWE.out true (by show _ = (_ && !betB most 0 60); rw [HS.out]; rfl)⟩, rfl⟩
          · have HS := Lib.hid (betB_true (n := most) (a := 0) (b := 60) (by omega) (by omega))
            go_wp2_with fail
            go_meet
            exact ⟨⟨false, rfl, HWE.out false (by show _ = (_ && !betB most 0 60); rw [HS.out]; rfl)⟩, rfl⟩
      · have h0' : (u == 0) = false := by simpa using h0
        have H0 := Lib.hid h0'
        clear h0
        go_wp2_with fail
        go_meet
        exact ⟨⟨false, rfl, HWE.out false (by rw [H0.out]; rfl)⟩, rfl⟩
    case rest =>
      obtain ⟨⟨q, rfl, HQ⟩, rfl⟩ := hcut
      go_upto_if 88 with (fail)
      go_cut [22] (fun t wx => t = .int .i64 we ∧ wx = wc)
      case first =>
        cases q
        · have hq := HQ.out.2 rfl
          subst hq
          go_wp2_with fail
          go_meet
          exact ⟨rfl, rfl⟩
        · have hq := HQ.out.1 rfl
          subst hq
          go_wp2_with fail
          go_meet
          exact ⟨rfl, rfl⟩
      case rest =>
        obtain ⟨rfl, rfl⟩ := hcut
        go_upto_if 90 with (fail)
        go_cut [23, 24, 25, 26] (fun x y vm vl wx => x = .int .i64 xe ∧ y = .int .i64 ye ∧ (∃ A n c lm, vm = .slice A n c ∧ Sl intC 1 wx All A n c lm ∧ Aside (okL xe lm = okL xe LA)) ∧ (∃ A n c lm, vl = .slice A n c ∧ Sl intC 1 wx All A n c lm ∧ Aside (okL ye lm = okL ye LT)) ∧ Below wc.heap.size wc wx)
        case first =>
          have hl := h.below intC_good (by omega) hb0
          by_cases h0 : u = 0
          · subst h0
            obtain ⟨g1, g2, g3, g4, g5, g6, g7, g8, g9⟩ := ready_ok EU.out.symm
            simp only at g5 g6 g7
            obtain ⟨f, rfl⟩ := Int.eq_ofNat_of_zero_le g5
            obtain ⟨t, rfl⟩ := Int.eq_ofNat_of_zero_le (show 0 ≤ b by omega)
            have hlen := h.len
            have hMa := fun w h => MoreOf_any A n cap l f t m w h (by omega) (by omega) g4 (by omega)
            have hMb := fun w h => MoreOf_any A n cap l f t (-m) w h (by omega) (by omega) g4 (by omega)
            have hx1 : xe = if LA.all soulsB then 0 else 2 := by rw [EX.out, more_zero EU.out, ELA.out]
            have hy1 : ye = if LT.all soulsB then 0 else 4 := by rw [EY.out, more_zero EU.out, ELT.out]
            rw [← ELA.out] at hMa
            rw [← ELT.out] at hMb
            have HMa := Lib.hid hMa
            have HMb := Lib.hid hMb
            clear hMa hMb g4 hlen g1 g2 g3 EX EY
            cases hp : LA.all soulsB <;> cases hq : LT.all soulsB
            all_goals
              rw [hp] at hx1 HMa
              rw [hq] at hy1 HMb
              simp only [Bool.false_eq_true, if_false, if_true] at hx1 hy1
              subst hx1 hy1
              clear hp hq
              go_wp2_with fail
              refine (HMa.out _ hl).mono ?_
              rintro e wa ⟨va, xa, rfl, hoa, hba⟩
              obtain ⟨Aa, na, ca, rfl, hsa⟩ := hoa.sl intC_good
              replace hsa := hsa.all intC_good (by omega)
              have ka0 := (hS.below hba).c0
              have ka1 := (hS.below hba).c1
              have hla := hl.below intC_good (by omega) hba
              clear hoa
              go_wp2_with fail
              refine (HMb.out _ hla).mono ?_
              rintro e wb ⟨vb, xb, rfl, hob, hbb⟩
              obtain ⟨Ab, nb, cb, rfl, hsb⟩ := hob.sl intC_good
              replace hsb := hsb.all intC_good (by omega)
              replace hsa := hsa.below intC_good (by omega) hbb
              replace hba := hba.trans (hbb.mono hba.size)
              clear hob hbb
              go_wp2_with fail
              go_meet
              exact ⟨rfl, rfl, ⟨_, _, _, LA, rfl, hsa, rfl⟩, ⟨_, _, _, LT, rfl, hsb, rfl⟩, hba⟩
          · have h0' : (u == 0) = false := by simpa using h0
            have hx1 : xe = u := by rw [EX.out]; exact more_ne EU.out h0
            have hy1 : ye = u := by rw [EY.out]; exact more_ne EU.out h0
            subst hx1
            subst hy1
            have H0 := Lib.hid h0
            clear h0 EX EY
            go_wp2_with fail
            go_meet
            exact ⟨rfl, rfl, ⟨none, 0, 0, [], rfl, Sl.nil _ _ _ _, by show _ = _; rw [okL_ne H0.out, okL_ne H0.out]⟩, ⟨none, 0, 0, [], rfl, Sl.nil _ _ _ _, by show _ = _; rw [okL_ne H0.out, okL_ne H0.out]⟩, Below.refl _ _⟩
        case rest =>
          obtain ⟨rfl, rfl, ⟨A3, n3, c3, lm, rfl, hs3, EL3⟩, ⟨A4, n4, c4, ll, rfl, hs4, EL4⟩, hb1⟩ := hcut
          replace hs1 := hs1.below intC_good (by omega) hb1
          replace hs2 := hs2.below intC_good (by omega) hb1
          replace hS := hS.below hb1
          replace hb0 := hb0.trans (hb1.mono hb0.size)
          replace k0 := hS.c0
          replace k1 := hS.c1
          clear hb1
          have hl := h.below intC_good (by omega) hb0
          go_upto_if 113 with (fail)
          go_cut [27, 28] (fun x y wx => x = .int .i64 pk ∧ y = .int .i64 pi ∧ Below wc.heap.size wc wx)
          case first =>
            by_cases h0 : v = 0
            · subst h0
              obtain ⟨g1, g2, g3, g4, g5, g6, g7, g8, g9⟩ := ready_ok EV.out.symm
              simp only at g5 g6 g7
              obtain ⟨f, rfl⟩ := Int.eq_ofNat_of_zero_le g5
              obtain ⟨t, rfl⟩ := Int.eq_ofNat_of_zero_le (show 0 ≤ b by omega)
              have hlen := h.len
              have hPk := PeakOf_any A n cap l f t wc hl (by omega) (by omega) (by omega) g4
              rw [show peakV l ⟨f, t⟩ = pk from EPK.out.symm, show peakI l ⟨f, t⟩ = pi from EPI.out.symm] at hPk
              have HPk := Lib.hid hPk
              clear hPk hlen g4
              go_wp2_with fail
              refine HPk.out.mono ?_
              rintro e wa ⟨rfl, hba⟩
              go_wp2_with fail
              go_meet
              exact ⟨rfl, rfl, hba⟩
            · have h0' : (v == 0) = false := by simpa using h0
              have H0 := Lib.hid h0
              clear h0
              go_wp2_with fail
              go_meet
              exact ⟨by rw [EPK.out, okI_ne H0.out], by rw [EPI.out, okI_ne H0.out], Below.refl _ _⟩
          case rest =>
            obtain ⟨rfl, rfl, hb1⟩ := hcut
            replace hs1 := hs1.below intC_good (by omega) hb1
            replace hs2 := hs2.below intC_good (by omega) hb1
            replace hs3 := hs3.below intC_good (by omega) hb1
            replace hs4 := hs4.below intC_good (by omega) hb1
            replace hb0 := hb0.trans (hb1.mono hb0.size)
            clear hb1 hS hl k0 k1
            go_upto_if 121 with (fail)
            go_cut [29] (fun x wx => x = .bool fb ∧ wx = wc)
            case first =>
              by_cases h0 : we = 0
              · subst h0
                have hr := fits_ready EW.out
                have hz : v = 0 := by rw [EV.out]; exact ready_zero hr
                subst hz
                obtain ⟨g1, g2, g3, g4, g5, g6, g7, g8, g9⟩ := ready_ok hr
                have hbd := peak_bd hr
                rw [show peakV l ⟨a, b⟩ = pk from EPK.out.symm] at hbd
                have HF1 := Lib.hid (show fb = decide (pk + m ≤ most) by rw [EFB.out, okB_zero, fits_peak hr, show peakV l ⟨a, b⟩ = pk from EPK.out.symm])
                clear hr g3 g4
                go_wp2_with fail
                go_meet
                exact ⟨by rw [HF1.out], rfl⟩
              · have h0' : (we == 0) = false := by simpa using h0
                have HF1 := Lib.hid (show fb = false by rw [EFB.out, okB_ne h0])
                clear h0
                go_wp2_with fail
                go_meet
                exact ⟨by rw [HF1.out], rfl⟩
            case rest =>
              obtain ⟨rfl, rfl⟩ := hcut
              have hi1 := fun w h h' => intsAre_any A1 A3 n1 c1 n3 c3 (okL xe LA) lm xe xe w h h'
              have hi2 := fun w h h' => intsAre_any A2 A4 n2 c2 n4 c4 (okL ye LT) ll ye ye w h h'
              rw [listIs_true EL3] at hi1
              rw [listIs_true EL4] at hi2
              have HI1 := Lib.hid hi1
              have HI2 := Lib.hid hi2
              clear hi1 hi2
              go_wp2_with fail
              refine (countBegun_any _).mono ?_
              rintro e w5 ⟨rfl, hb1⟩
              replace hs1 := hs1.below intC_good (by omega) hb1
              replace hs2 := hs2.below intC_good (by omega) hb1
              replace hs3 := hs3.below intC_good (by omega) hb1
              replace hs4 := hs4.below intC_good (by omega) hb1
              replace hb0 := hb0.trans (hb1.mono hb0.size)
              clear hb1
              go_wp2_with fail
              refine (HC.out _ (h.below intC_good (by omega) hb0)).mono ?_
              rintro e w6 ⟨rfl, hb1⟩
              replace hs1 := hs1.below intC_good (by omega) hb1
              replace hs2 := hs2.below intC_good (by omega) hb1
              replace hs3 := hs3.below intC_good (by omega) hb1
              replace hs4 := hs4.below intC_good (by omega) hb1
              replace hb0 := hb0.trans (hb1.mono hb0.size)
              clear hb1
              go_wp2_with fail
              refine (HR.out _ (h.below intC_good (by omega) hb0)).mono ?_
              rintro e w7 ⟨rfl, hb1⟩
              replace hs1 := hs1.below intC_good (by omega) hb1
              replace hs2 := hs2.below intC_good (by omega) hb1
              replace hs3 := hs3.below intC_good (by omega) hb1
              replace hs4 := hs4.below intC_good (by omega) hb1
              replace hb0 := hb0.trans (hb1.mono hb0.size)
              clear hb1
              go_wp2_with fail
              refine (HI1.out _ hs1 hs3).mono ?_
              rintro e w8 ⟨rfl, hb1⟩
              replace hs2 := hs2.below intC_good (by omega) hb1
              replace hs4 := hs4.below intC_good (by omega) hb1
              replace hb0 := hb0.trans (hb1.mono hb0.size)
              clear hb1
              go_wp2_with fail
              refine (HI2.out _ hs2 hs4).mono ?_
              rintro e w9 ⟨rfl, hb1⟩
              replace hb0 := hb0.trans (hb1.mono hb0.size)
              clear hb1
              go_wp2_with fail
              go_ret
              exact ⟨rfl, hb0⟩

set_option maxRecDepth 100000 in
theorem CountTells_lifted (os : Os) (started : os.Started) (H : Type) (enc : TypeId × Value → H) :
    ReturnsInHanded {} Try.checked os 6 .any (Rows.countTellsSpec.pre6 enc Try.prog Try.f6 Rows.countTellsRow.domain false) (Rows.countTellsSpec.post enc Try.prog Try.f6 false true false false) := by
  refine returnsInHanded_of_change (C := Try.checked) own started (by kernel_rfl) Try.func6
    (ChangeSpec.witness6 (enc := enc) (C := Try.checked) false ⟨#[], #[.slice none 0 0, .int .i64 0, .agg #[.int .i64 0, .int .i64 0], .int .i64 0, .int .i64 0], []⟩ 8 (by kernel_rfl) (by kernel_rfl) (by kernel_rfl) (by kernel_rfl)) ?_
  intro W base args ds gs before hval0 hW hcnd _
  have hval : ∀ (j : Nat) t v, Try.f6.params[j]? = some t → args[j]? = some v → Value.okWide Try.prog W .any base t v := hval0
  have hW' := hW
  obtain ⟨p, q, hA0, hV, rfl, hfz, hnd⟩ := hW
  have hA : DataW.TrodAll enc Try.prog W 0 (fun _ => true) true Try.f6.params.toList args.toList ds p := hA0
  rw [Try.params6] at hA hval
  obtain ⟨v0, vs0, d0, ds0, p0, q0, hargs, rfl, rfl, h0, r0⟩ := trodAll_cons hA
  obtain ⟨v1, vs1, d1, ds1, p1, q1, rfl, rfl, rfl, h1, r1⟩ := trodAll_cons r0
  obtain ⟨v2, vs2, d2, ds2, p2, q2, rfl, rfl, rfl, h2, r2⟩ := trodAll_cons r1
  obtain ⟨v3, vs3, d3, ds3, p3, q3, rfl, rfl, rfl, h3, r3⟩ := trodAll_cons r2
  obtain ⟨v4, vs4, d4, ds4, p4, q4, rfl, rfl, rfl, h4, r4⟩ := trodAll_cons r3
  obtain ⟨rfl, rfl, rfl⟩ := trodAll_nil r4
  obtain rfl : args = #[v0, v1, v2, v3, v4] := by cases args; simp_all
  obtain ⟨rfl, rfl⟩ := trodVars_none hV
  have lt0 := arg_lt h0
  have k0 := h0
  obtain ⟨A0, n0, c0, a0, rfl, w0⟩ := arg_sl (size := 1) Try.underlying38 (by kernel_rfl) (by omega) (opens_int Try.underlying3) (hval 0 38 v0 rfl rfl) h0
  have lt1 := arg_lt h1
  have k1 := h1
  obtain ⟨a1, rfl, w1⟩ := arg_int Try.underlying3 (hval 1 3 v1 rfl rfl) h1
  have lt2 := arg_lt h2
  have k2 := h2
  obtain ⟨cs2, a2, rfl, w2⟩ := arg_agg (c := spanC) Try.underlying40 opens_spanC (hval 2 40 v2 rfl rfl) h2
  have lt3 := arg_lt h3
  have k3 := h3
  obtain ⟨a3, rfl, w3⟩ := arg_int Try.underlying3 (hval 3 3 v3 rfl rfl) h3
  have lt4 := arg_lt h4
  have k4 := h4
  obtain ⟨a4, rfl, w4⟩ := arg_int Try.underlying3 (hval 4 3 v4 rfl rfl) h4
  clear hA0 hval0
  refine (CountTells_walk W A0 n0 c0 a0 w0 a1 w1 cs2 a2 w2 a3 w3 a4 w4).mono fun e W' ⟨he, bel⟩ => ?_
  subst he
  exact ⟨_, rfl, _, _, _, [], _, [], hW', trodAll_mk1 (shut_bool Try.underlying4 _), (trodAll_cons_mk (Below.trod laidOut (by kernel_rfl) (of_decide_eq_true (by kernel_rfl)) k0 bel lt0) (trodAll_cons_mk (Below.trod laidOut (by kernel_rfl) (of_decide_eq_true (by kernel_rfl)) k1 bel lt1) (trodAll_cons_mk (Below.trod laidOut (by kernel_rfl) (of_decide_eq_true (by kernel_rfl)) k2 bel lt2) (trodAll_cons_mk (Below.trod laidOut (by kernel_rfl) (of_decide_eq_true (by kernel_rfl)) k3 bel lt3) (trodAll_cons_mk (Below.trod laidOut (by kernel_rfl) (of_decide_eq_true (by kernel_rfl)) k4 bel lt4) trodAll_mk0))))), rfl, bel.frame _, fun h => by cases h⟩

/-- THE GIVEN STATEMENT CountTells. -/
theorem countTells_holds : Rows.CountTellsSaid :=
  OpenClaim.holds_of_wide 6 Try.f6 rfl rfl rfl rfl rfl rfl rfl ⟨rfl, rfl, rfl, rfl, rfl⟩ rfl rfl rfl rfl rfl (by kernel_rfl) Try.func6 (by kernel_rfl)
    (of_decide_eq_true (by kernel_rfl)) (by unfold Func.isWrapper; rw [if_neg (of_decide_eq_false (by kernel_rfl))]; exact ⟨rfl, rfl⟩)
    (fun os started H enc _ => CountTells_lifted os started H enc)
#print axioms countTells_holds
end Go.Proofs.Ytehebngkjfjkbaa
