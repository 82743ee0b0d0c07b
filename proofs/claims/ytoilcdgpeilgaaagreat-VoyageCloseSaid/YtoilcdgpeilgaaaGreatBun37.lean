/-
  Words, laws and contracts: VoyD, VoyK, VoyL, VoyM.
-/
import Derived.Test.YtoilcdgpeilgaaaGreatBun28
import Derived.Test.YtoilcdgpeilgaaaGreatBun34
import Derived.Test.YtoilcdgpeilgaaaGreatBun36
import Derived.BigQuiet
import Derived.KernelRfl
set_option linter.unusedSimpArgs false
set_option linter.unusedVariables false
namespace Go.Proofs.YtoilcdgpeilgaaaGreat
open Go.RowKit Go.Shelf
noncomputable def closeEx (x : Sai) : Int := if saiE x ≠ 0 then saiE x else if x.closed = true then 4 else 0
set_option maxRecDepth 100000 in
set_option maxHeartbeats 16000000 in
theorem Close_any (x : Sai) (p : SaiV) (w : World) (hS : SaiR w x p) :
    Calls Tryz.prog 43 #[.agg (saiA x p)] w fun e w' => ResS w' w.heap.size (closeEx x) (closeX x) e ∧ Below w.heap.size w w' := by
  have HCK := Lib.hid (fun X hX => saiCheck_any x p X hX)
  have HOW := Lib.hid (fun X h ho => stockOwn_any x p X h ho)
  have HCL := Lib.hid (fun w0 b0 p y base X hW hY hw0 ho => close_any w0 b0 x p y base X hW hY hw0 ho)
  obtain ⟨r, hr⟩ : ∃ r, r = saiE x := ⟨_, rfl⟩
  obtain ⟨R, hR⟩ : ∃ r, r = closeEx x := ⟨_, rfl⟩
  have HR := Lib.hid (show R = if r ≠ 0 then r else if x.closed = true then 4 else 0 by rw [hR, hr]; rfl)
  have HRE := Lib.hid hr
  rw [← hr] at HCK
  rw [← hR]
  have HS := Lib.hid hS
  obtain ⟨cd0, hcd0⟩ : ∃ q, q = x.closed := ⟨_, rfl⟩
  rw [← hcd0] at HR
  have HCD := Lib.hid hcd0
  obtain ⟨XC, hXC⟩ : ∃ q, q = closeX x := ⟨_, rfl⟩
  rw [← hXC] at HCL ⊢
  clear hr hR hS hcd0 hXC
  obtain ⟨A, n, cap, B, m, cap2, D, nd, cd, E, ne, ce, C, nb, cb⟩ := p
  go_enter Tryz.func43, Tryz.ntmps43
  go_upto_region 0 with (fail)
  go_cut [1, 2, 3] (fun p p2 p4 wx => ∃ g z, p = .pointer (some ⟨g, 0, none⟩) ∧ p2 = .pointer (some ⟨z, 0, none⟩) ∧ p4 = .int .i64 0 ∧ w.heap.size ≤ z ∧ Blk wx g (saiA x ⟨A, n, cap, B, m, cap2, D, nd, cd, E, ne, ce, C, nb, cb⟩) 32 ∧ Blk wx z #[.int .i64 0, .int .i64 0, .slice none 0 0, .slice none 0 0, .slice none 0 0, .int .i64 0, .int .i64 0, .slice none 0 0, .int .i64 0, .int .i64 0, .int .i64 0, .slice none 0 0, .bool false] 32 ∧ Below w.heap.size w wx)
  case first => as_aux_lemma =>
    go_wp2_with fail
    go_meet
    exact ⟨_, _, rfl, rfl, rfl, by omega, blk2_0 _ _ _, blk2_1 _ _ _, bel2 _ _ _⟩
  obtain ⟨g, z, rfl, rfl, rfl, hz, hG, hZ, hb0⟩ := hcut
  obtain ⟨W1, hW1⟩ : ∃ V, V = wc := ⟨_, rfl⟩
  subst hW1
  have HT := Lib.hid (fun X (hX : Below W1.heap.size W1 X) => hb0.trans (hX.mono hb0.size))
  have HG := Lib.hid (fun X (hX : Below W1.heap.size W1 X) => hG.bel hX)
  have HZ := Lib.hid (fun X (hX : Below W1.heap.size W1 X) => hZ.bel hX)
  have HSX := Lib.hid (fun X (hX : Below W1.heap.size W1 X) => HS.out.bel (HT.out X hX))
  have HEND := Lib.hid (show ∀ (E' : Int) V, ¬ E' = 0 → Below W1.heap.size W1 V → ResS (V.setRow z (saiA zeroS zeroP)) w.heap.size E' XC (.returned (.tuple #[.agg (saiA zeroS zeroP), .int .i64 E'])) ∧ Below w.heap.size w (V.setRow z (saiA zeroS zeroP)) from fun E' V h0 hX => by
    have hbz : Below w.heap.size w (V.setRow z (saiA zeroS zeroP)) := ((HT.out V hX).trans (((Kept.refl (fun k => k = z) V).setRow (.inl rfl) _).below (B := w.heap.size) (HT.out V hX).size (fun k hk e => by omega)))
    exact ⟨⟨zeroS, zeroP, rfl, (okS_ne h0 _).symm, zeroS_own _ _ hbz.size⟩, hbz⟩)
  have hb : Below W1.heap.size W1 W1 := Below.refl _ _
  have hzW := hZ.lt
  have hszW := hb0.size
  clear hG hZ hb0
  have HC := Lib.hid (HCK.out _ (HSX.out _ hb))
  go_wp2_with (refine wpList_load_row rfl 32 (.tmp 1) rfl g rfl 32 _ (0, 0) _ (HG.out _ hb) Tryz.underlying32 rfl (by kernel_rfl) ?_)
  refine HC.out.mono ?_
  rintro e w1 ⟨rfl, hb1⟩
  replace hb := hb.trans (hb1.mono hb.size)
  clear hb1 HC HCK
  have g12 : w1.cell? ⟨g, 12, none⟩ = some (.bool cd0) := by rw [HCD.out]; exact (HG.out _ hb).cell rfl
  obtain ⟨tv, htv⟩ : ∃ q, q = (decide (r = 0) && cd0) := ⟨_, rfl⟩
  have HTV := Lib.hid htv
  clear htv
  obtain ⟨W2, hW2⟩ : ∃ V, V = w1 := ⟨_, rfl⟩
  subst hW2
  have HB := Lib.hid hb
  clear hb
  go_upto_region 2 with (fail)
  go_cut [13] (fun v wx => v = .bool tv ∧ W2 = wx)
  case first => as_aux_lemma =>
    by_cases q0 : r = 0
    · obtain rfl : tv = cd0 := by rw [HTV.out, decide_eq_true q0]; rfl
      subst q0
      go_wp2_with fail
      go_meet
      exact ⟨rfl, rfl⟩
    · obtain rfl : tv = false := by rw [HTV.out, decide_eq_false q0]; rfl
      have q1 : (r == 0) = false := by simpa using q0
      clear q0
      go_wp2_with fail
      go_meet
      exact ⟨rfl, rfl⟩
  obtain ⟨rfl, rfl⟩ := hcut
  have hb := HB.out
  clear g12 HB
  cases tv
  rotate_left
  · obtain ⟨q0, q1⟩ : r = 0 ∧ cd0 = true := by
      have := HTV.out.symm
      rw [Bool.and_eq_true] at this
      exact ⟨of_decide_eq_true this.1, this.2⟩
    obtain rfl : R = 4 := by rw [HR.out, if_neg (by rw [q0]; simp), if_pos q1]
    have hz6 := HZ.out _ hb
    clear q0 q1
    go_wp2_with (refine wpList_store_row rfl 32 (.tmp 2) (.tmp 16) rfl z (saiA zeroS zeroP) rfl rfl 32 _ hz6 (by kernel_rfl) rfl (by simp [Value.oneCell']) ?_)
    refine bodyPost_ret (v := .tuple #[.agg (saiA zeroS zeroP), .int .i64 4]) ((hz6.row _).ret2 (k := 2) (u := 3) (by kernel_rfl) rfl rfl Tryz.underlying32 (by kernel_rfl) (by kernel_rfl)) rfl ?_
    exact HEND.out _ _ (by decide) hb
  by_cases q0 : r = 0
  rotate_left
  · obtain rfl : R = r := by rw [HR.out, if_pos q0]
    have q1 : (R != 0) = true := by simpa using q0
    have Q0 := Lib.hid q0
    have hz6 := HZ.out _ hb
    clear q0
    go_wp2_with (refine wpList_store_row rfl 32 (.tmp 2) (.tmp 16) rfl z (saiA zeroS zeroP) rfl rfl 32 _ hz6 (by kernel_rfl) rfl (by simp [Value.oneCell']) ?_)
    refine bodyPost_ret (v := .tuple #[.agg (saiA zeroS zeroP), .int .i64 R]) ((hz6.row _).ret2 (k := 2) (u := 3) (by kernel_rfl) rfl rfl Tryz.underlying32 (by kernel_rfl) (by kernel_rfl)) rfl ?_
    exact HEND.out _ _ Q0.out hb
  have HOK := Lib.hid (sai_ok (HRE.out.symm.trans q0))
  obtain rfl : R = 0 := by
    have := HTV.out.symm
    rw [decide_eq_true q0, Bool.true_and] at this
    rw [HR.out, if_neg (by rw [q0]; simp), if_neg (by rw [this]; simp)]
  subst q0
  have HC := Lib.hid (HOW.out _ (HSX.out _ hb) HOK.out)
  have hsz1 := hb.size
  go_wp2_with (refine wpList_load_row rfl 32 (.tmp 1) rfl g rfl 32 _ (0, 0) _ (HG.out _ hb) Tryz.underlying32 rfl (by kernel_rfl) ?_)
  refine HC.out.mono ?_
  rintro e w3 ⟨p3, rfl, hO3, hb3⟩
  obtain ⟨w0, b0, hW3⟩ := hO3
  replace hb := hb.trans (hb3.mono hb.size)
  have hW4 := hW3.bel (bel1 w3 (.cells (saiA x p3) 163))
  have hw0 : w0.heap.size ≤ w3.heap.size := by obtain ⟨_, _, a3, _⟩ := hW3; exact a3
  have hw1 : W2.heap.size ≤ w0.heap.size := by obtain ⟨a1, a2, _⟩ := hW3; omega
  have HC := Lib.hid (HCL.out w0 b0 p3 w3.heap.size _ _ hW4 (Blk.new w3 (saiA x p3) 163) hw0 HOK.out)
  have HB := Lib.hid (hb.trans ((bel1 w3 (.cells (saiA x p3) 163)).mono hb.size))
  clear hW3 hW4 hb3 HOW HCL hb
  go_wp2_with fail
  refine HC.out.mono ?_
  rintro e w5 ⟨rfl, hW5, hY5, hK5⟩
  have hs3 := HB.out.size
  have hb : Below W1.heap.size W1 w5 := HB.out.trans (hK5.below (B := W1.heap.size) hs3 (fun k hk e => by omega))
  have hz6 := HZ.out _ hb
  have hsz5 : w3.heap.size < (w3.alloc (.cells (saiA x p3) 163)).heap.size := by simp
  have HW5 := Lib.hid hW5
  clear hW5
  have HY5 := Lib.hid hY5
  clear hK5 hY5 HC
  go_wp2_with (first | (refine wpList_load_row rfl 32 (.tmp 26) rfl w3.heap.size rfl 163 _ (0, 0) _ HY5.out Tryz.underlying32 rfl (by kernel_rfl) ?_) | (refine wpList_store_row rfl 32 (.tmp 2) (.tmp 27) rfl z (saiA XC p3) rfl rfl 32 _ hz6 (by kernel_rfl) rfl (by simp [Value.oneCell']) ?_))
  refine bodyPost_ret (v := .tuple #[.agg (saiA XC p3), .int .i64 0]) ((hz6.row _).ret2 (k := 2) (u := 3) (by kernel_rfl) rfl rfl Tryz.underlying32 (by kernel_rfl) (by kernel_rfl)) rfl ?_
  have hKz : Kept (fun k => k = z) w5 (w5.setRow z (saiA XC p3)) := (Kept.refl (fun k => k = z) w5).setRow (.inl rfl) _
  have hbz := ((HT.out _ hb).trans (hKz.below (B := w.heap.size) (HT.out _ hb).size (fun k hk e => by omega)))
  have hO9 : SaiO w5 W2.heap.size XC p3 := ⟨w0, b0, HW5.out⟩
  exact ⟨⟨XC, p3, rfl, (okS_zero _).symm, (hO9.kept hKz (fun k hk e => by omega)).mono (by omega)⟩, hbz⟩
end Go.Proofs.YtoilcdgpeilgaaaGreat
namespace Go.Proofs.YtoilcdgpeilgaaaGreat
open Go.RowKit Go.Shelf
def closedC : Sai := { cruiseX with bks := [namedF, moveB promisedF 0], closed := true }
theorem turn_c : turnEx cruiseX 5 = 0 := by
  unfold turnEx
  rw [cruise_e, if_neg (by simp), if_neg (by decide), if_neg (by decide)]
theorem turn_ids : turnI cruiseX 5 = [9] := by decide
theorem close_c : closeEx cruiseX = 0 := by
  unfold closeEx
  rw [cruise_e, if_neg (by simp), if_neg (by decide)]
theorem none_all : allB 0 [] = true := allB_true ⟨[], ⟨by decide, by decide, by decide⟩, rfl⟩
theorem pick_c : pickC cruiseX promisedF = some 0 := by
  unfold pickC
  rw [show mayL cruiseX promisedF = [0, 2] by decide, show (openL cruiseX).length - 1 = 0 by decide, cruise_edg, List.find?_cons, show shE 0 [⟨0, 0⟩, ⟨0, 2⟩] = [] by decide, none_all]
theorem closed_c : closeX cruiseX = closedC := by
  unfold closeX closedC
  show { closeK cruiseX 2 with closed := true } = _
  have h0 : closeAt cruiseX 0 = cruiseX := closeAt_skip (b := namedF) rfl (by decide)
  show { closeAt (closeAt cruiseX 0) 1 with closed := true } = _
  rw [h0, closeAt_open (b := promisedF) (c := 0) rfl (by decide) pick_c]
  rfl
theorem closed_e : saiE closedC = 0 := by rw [← closed_c]; exact close_right cruise_e
theorem closed_plan : planL closedC = [⟨7, 1⟩, ⟨9, 0⟩] := by decide
set_option maxRecDepth 100000 in
set_option maxHeartbeats 16000000 in
theorem voyageBegun_any (w : World) : Calls Tryz.prog 48 #[] w fun e w' => e = .returned (.bool true) ∧ Below w.heap.size w w' := by
  have HTU := Lib.hid (fun p X hX => Turn_any cruiseX p 5 X hX)
  rw [turn_c, turn_ids] at HTU
  have HCL := Lib.hid (fun p X hX => Close_any cruiseX p X hX)
  rw [close_c, closed_c] at HCL
  have HPL := Lib.hid (fun p X hX => Plan_any closedC p X hX)
  rw [closed_e, okL_zero, closed_plan] at HPL
  go_enter Tryz.func48, Tryz.ntmps48
  go_upto_region 1 with (fail)
  go_cut [1, 2, 3] (fun q v e wx => e = .int .i64 0 ∧ (∃ z p', q = .pointer (some ⟨z, 0, none⟩) ∧ Blk wx z (saiA (turnX cruiseX 5) p') 32) ∧ (∃ A n c, v = .slice A n c ∧ Sl intC 1 wx All A n c [9]) ∧ Below w.heap.size w wx)
  case first =>
    clear HCL HPL
    go_wp2_with fail
    refine (cruise_any _).mono ?_
    rintro e w4 ⟨p4, rfl, hS4, hb4⟩
    have HC := Lib.hid (HTU.out p4 _ hS4)
    have HB4 := Lib.hid hb4
    clear hS4 hb4 HTU
    go_wp2_with fail
    refine HC.out.mono ?_
    rintro e w8 ⟨⟨y, p', v, xs, rfl, hy, hO, hI⟩, hb8⟩
    obtain rfl : y = turnX cruiseX 5 := hy
    rw [okL_zero] at hI
    obtain ⟨A, n, c, rfl, hs⟩ := hI.sl intC_good
    have HS8 := Lib.hid (hs.all intC_good (by omega))
    have HB8 := Lib.hid (HB4.out.trans (hb8.mono HB4.out.size))
    clear hO hI hs hb8 HC
    go_wp2_with (refine wpList_store_row rfl 32 (.tmp 1) (.tmp 11) rfl w8.heap.size (saiA (turnX cruiseX 5) p') rfl rfl 32 _ (Blk.new w8 #[.int .i64 0, .int .i64 0, .slice none 0 0, .slice none 0 0, .slice none 0 0, .int .i64 0, .int .i64 0, .slice none 0 0, .int .i64 0, .int .i64 0, .int .i64 0, .slice none 0 0, .bool false] 32) (by kernel_rfl) rfl (by simp [Value.oneCell']) ?_)
    go_meet
    have hbe : Below w8.heap.size w8 ((w8.alloc (.cells #[.int .i64 0, .int .i64 0, .slice none 0 0, .slice none 0 0, .slice none 0 0, .int .i64 0, .int .i64 0, .slice none 0 0, .int .i64 0, .int .i64 0, .int .i64 0, .slice none 0 0, .bool false] 32)).setRow w8.heap.size (saiA (turnX cruiseX 5) p')) := below_setRow (bel1 w8 _) (Nat.le_refl _) _
    exact ⟨rfl, ⟨_, p', rfl, (Blk.new w8 _ _).row _⟩, ⟨A, n, c, rfl, HS8.out.bel hbe⟩, HB8.out.trans (hbe.mono HB8.out.size)⟩
  obtain ⟨rfl, ⟨z1, p1, rfl, hZ1⟩, ⟨A1, n1, c1, rfl, hs1⟩, hb1⟩ := hcut
  obtain ⟨V1, hV1⟩ : ∃ V, V = wc := ⟨_, rfl⟩
  subst hV1
  have d1 := Lib.hid (fun X (hX : Below V1.heap.size V1 X) => show X.cell? ⟨z1, 9, none⟩ = some (.int .i64 5) from (hZ1.bel hX).cell rfl)
  have HS1 := Lib.hid (fun X (hX : Below V1.heap.size V1 X) => hs1.bel hX)
  have HB := Lib.hid hb1
  clear hb1
  clear hZ1 hs1 HTU
  go_upto_region 2 with (fail)
  go_cut [4, 5] (fun q e wx => e = .int .i64 0 ∧ (∃ z y p', q = .pointer (some ⟨z, 0, none⟩) ∧ Blk wx z (saiA y p') 32 ∧ y = okS 0 closedC ∧ SaiR wx y p') ∧ Below V1.heap.size V1 wx)
  case first =>
    go_wp2_with fail
    refine (cruise_any _).mono ?_
    rintro e w4 ⟨p4, rfl, hS4, hb4⟩
    have HC := Lib.hid (HCL.out p4 _ hS4)
    have HB4 := Lib.hid hb4
    clear hS4 hb4
    go_wp2_with fail
    refine HC.out.mono ?_
    rintro e w8 ⟨⟨y, p', rfl, hy, hO⟩, hb8⟩
    have HO8 := Lib.hid hO.sai
    have HY8 := Lib.hid hy
    have HB8 := Lib.hid (HB4.out.trans (hb8.mono HB4.out.size))
    clear hO hy hb8
    go_wp2_with (refine wpList_store_row rfl 32 (.tmp 4) (.tmp 17) rfl w8.heap.size (saiA y p') rfl rfl 32 _ (Blk.new w8 #[.int .i64 0, .int .i64 0, .slice none 0 0, .slice none 0 0, .slice none 0 0, .int .i64 0, .int .i64 0, .slice none 0 0, .int .i64 0, .int .i64 0, .int .i64 0, .slice none 0 0, .bool false] 32) (by kernel_rfl) rfl (by simp [Value.oneCell']) ?_)
    go_meet
    have hbe : Below w8.heap.size w8 ((w8.alloc (.cells #[.int .i64 0, .int .i64 0, .slice none 0 0, .slice none 0 0, .slice none 0 0, .int .i64 0, .int .i64 0, .slice none 0 0, .int .i64 0, .int .i64 0, .int .i64 0, .slice none 0 0, .bool false] 32)).setRow w8.heap.size (saiA y p')) := below_setRow (bel1 w8 _) (Nat.le_refl _) _
    exact ⟨rfl, ⟨_, y, p', rfl, (Blk.new w8 _ _).row _, HY8.out, HO8.out.bel hbe⟩, HB8.out.trans (hbe.mono HB8.out.size)⟩
  obtain ⟨rfl, ⟨z2, y2, p2, rfl, hZ2, hy2, hS2⟩, hbn⟩ := hcut
  obtain ⟨V2, hV2⟩ : ∃ V, V = wc := ⟨_, rfl⟩
  subst hV2
  have HZ2 := Lib.hid hZ2
  have HS2 := Lib.hid hS2
  have HY2 := Lib.hid hy2
  have hb := HB.out.trans (hbn.mono HB.out.size)
  have HB := Lib.hid hb
  clear hZ2 hS2 hy2 hb
  obtain rfl : y2 = closedC := HY2.out
  have HBN := Lib.hid hbn
  clear hbn HCL
  go_upto_region 3 with (fail)
  go_cut [6, 7] (fun v e wx => e = .int .i64 0 ∧ (∃ A n c, v = .slice A n c ∧ Sl edgC 2 wx All A n c [⟨7, 1⟩, ⟨9, 0⟩]) ∧ Below V2.heap.size V2 wx)
  case first =>
    have HC := Lib.hid (HPL.out p2 _ HS2.out)
    go_wp2_with (refine wpList_load_row rfl 32 (.tmp 4) rfl z2 rfl 32 _ (0, 0) _ HZ2.out Tryz.underlying32 rfl (by kernel_rfl) ?_)
    refine HC.out.mono ?_
    rintro e w8 ⟨v, xs, rfl, hO, hb8⟩
    obtain ⟨A, n, c, rfl, hs⟩ := hO.sl edgC_good
    have HS8 := Lib.hid (hs.all edgC_good (by omega))
    have HB8 := Lib.hid hb8
    clear hO hs hb8 HC
    go_wp2_with fail
    go_meet
    exact ⟨rfl, ⟨A, n, c, rfl, HS8.out⟩, HB8.out⟩
  obtain ⟨rfl, ⟨A3, n3, c3, rfl, hs3⟩, hb3⟩ := hcut
  obtain ⟨V3, hV3⟩ : ∃ V, V = wc := ⟨_, rfl⟩
  subst hV3
  have hb13 := HBN.out.trans (hb3.mono HBN.out.size)
  have hb := HB.out.trans (hb3.mono HB.out.size)
  have e9 := d1.out _ hb13
  have hs1 := HS1.out _ hb13
  have HE12 := Lib.hid (show ∀ X, Below V3.heap.size V3 X → X.cell? ⟨z2, 12, none⟩ = some (.bool true) from fun X hX => ((HZ2.out.bel hb3).bel hX).cell rfl)
  clear hb3 hb13 HS1 d1 HBN HZ2 HS2 HY2 HPL HB
  have hx : Below V3.heap.size V3 V3 := Below.refl _ _
  go_wp2_with fail
  have q1 : Sl intC 1 (V3.alloc (.cells #[.int .i64 9] 3)) All (some ⟨V3.heap.size, 0, none⟩) 1 1 [9] := Sl.ofInts [9] (Blk.new V3 _ _) (by decide) trivial (by decide)
  replace hs1 := hs1.bel (bel1 V3 (.cells #[.int .i64 9] 3))
  replace hs3 := hs3.bel (bel1 V3 (.cells #[.int .i64 9] 3))
  replace hb := hb.alloc hb.size (.cells #[.int .i64 9] 3)
  replace hx := hx.alloc hx.size (.cells #[.int .i64 9] 3)
  refine (SameInts_any _ _ _ _ _ _ [9] [9] _ hs1 q1).mono ?_
  rintro e w14 ⟨rfl, k, hk⟩
  have hb2 : Below (V3.alloc (.cells #[.int .i64 9] 3)).heap.size (V3.alloc (.cells #[.int .i64 9] 3)) w14 := by rw [hk]; exact below_drewN (Below.refl _ _) _
  replace hs3 := hs3.bel hb2
  replace hb := hb.trans (hb2.mono hb.size)
  replace hx := hx.trans (hb2.mono hx.size)
  clear hb2 q1 hs1 hk e9
  have e12 := HE12.out _ hx
  have hd1 : decide (([9] : List Int) = [9]) = true := by decide
  go_wp2_with fail
  have q1 : Sl edgC 2 (w14.alloc (.cells #[.int .i64 7, .int .i64 1, .int .i64 9, .int .i64 0] 115)) All (some ⟨w14.heap.size, 0, none⟩) 2 2 [⟨7, 1⟩, ⟨9, 0⟩] := Sl.ofEdgs [⟨7, 1⟩, ⟨9, 0⟩] (Blk.new w14 _ _) (by decide) trivial rfl (fun x hx => by simp only [List.mem_cons, List.not_mem_nil, or_false] at hx; rcases hx with rfl | rfl <;> exact ⟨.of (by decide) (by decide), .of (by decide) (by decide)⟩)
  replace hs3 := hs3.bel (bel1 w14 (.cells #[.int .i64 7, .int .i64 1, .int .i64 9, .int .i64 0] 115))
  replace hb := hb.alloc hb.size (.cells #[.int .i64 7, .int .i64 1, .int .i64 9, .int .i64 0] 115)
  refine (SameEdges_any _ _ _ _ _ _ [⟨7, 1⟩, ⟨9, 0⟩] [⟨7, 1⟩, ⟨9, 0⟩] _ hs3 q1).mono ?_
  rintro e w15 ⟨rfl, k, hk⟩
  have hb2 : Below (w14.alloc (.cells #[.int .i64 7, .int .i64 1, .int .i64 9, .int .i64 0] 115)).heap.size (w14.alloc (.cells #[.int .i64 7, .int .i64 1, .int .i64 9, .int .i64 0] 115)) w15 := by rw [hk]; exact below_drewN (Below.refl _ _) _
  replace hb := hb.trans (hb2.mono hb.size)
  clear hb2 q1 hs3 hk e12
  have hd2 : decide (([⟨7, 1⟩, ⟨9, 0⟩] : List Edg) = [⟨7, 1⟩, ⟨9, 0⟩]) = true := by decide
  go_wp2_with fail
  go_ret
  exact ⟨rfl, hb⟩
end Go.Proofs.YtoilcdgpeilgaaaGreat
namespace Go.Proofs.YtoilcdgpeilgaaaGreat
open Go.RowKit Go.Shelf
theorem room_like {y z : Sai} (h1 : y.ship = z.ship) (h2 : y.bks = z.bks) : roomE y = roomE z := by
  obtain ⟨s, f, d, l, b, c⟩ := y
  obtain ⟨s', f', d', l', b', c'⟩ := z
  simp only at h1 h2
  subst h1 h2
  have h4 : edgL ⟨s, f, d, l, b, c⟩ = edgL ⟨s, f', d', l', b, c'⟩ := edgF_may (x := ⟨s, f, d, l, b, c⟩) (y := ⟨s, f', d', l', b, c'⟩) (fun _ => rfl) (openL ⟨s, f, d, l, b, c⟩) 0
  unfold roomE
  rw [h4]
  rfl
theorem turnB_state (x : Sai) (day : Int) (b : Bkg) : (turnB x day b).state = 3 := by unfold turnB; split <;> rfl
theorem turnB_id (x : Sai) (day : Int) (b : Bkg) : (turnB x day b).id = b.id := by unfold turnB; split <;> rfl
theorem turn1_late {x : Sai} {day : Int} {b : Bkg} (h : lateO day b = true) : turn1 x day b = turnB x day b := if_pos h
theorem turn1_not {x : Sai} {day : Int} {b : Bkg} (h : lateO day b = false) : turn1 x day b = b := if_neg (by rw [h]; simp)
theorem turn1_id (x : Sai) (day : Int) (b : Bkg) : (turn1 x day b).id = b.id := by
  rcases Bool.eq_false_or_eq_true (lateO day b) with h | h
  · rw [turn1_late h, turnB_id]
  · rw [turn1_not h]
theorem turn1_live {x : Sai} {day : Int} {b : Bkg} (h : liveB (turn1 x day b) = true) : turn1 x day b = b := by
  rcases Bool.eq_false_or_eq_true (lateO day b) with q | q
  · rw [turn1_late q] at h
    unfold liveB at h
    rw [turnB_state] at h
    simp at h
  · exact turn1_not q
theorem turn_sub (x : Sai) (day : Int) : ∀ l : List Bkg, ((l.map (turn1 x day)).filter liveB).Sublist l
  | [] => List.Sublist.slnil
  | b :: l => by
    rw [List.map_cons, List.filter_cons]
    split
    · next h => rw [turn1_live h]; exact (turn_sub x day l).cons_cons b
    · exact (turn_sub x day l).cons b
theorem turn_room {x : Sai} {day : Int} (h : saiE x = 0) : roomE (turnX x day) = 0 :=
  (room_like (y := turnX x day) (z := bksS x (x.bks.map (turn1 x day))) rfl rfl).trans ((room_live x _).symm.trans (room_sub h (turn_sub x day x.bks)))
theorem turn1_ok {x : Sai} {day : Int} {X : Shp} {b : Bkg} (hb : OkBk X b) : OkBk X (turn1 x day b) := by
  rcases Bool.eq_false_or_eq_true (lateO day b) with q | q
  · rw [turn1_late q]
    unfold turnB
    split
    · next h => exact gone_ok hb h
    · exact ⟨hb.kind, by show betB 3 1 3 = true; decide, hb.id, hb.gst, hb.span, hb.kindE, by show betB 0 0 9999 = true; decide, fun h => absurd rfl h, hb.fol⟩
  · rw [turn1_not q]; exact hb
theorem turn_right {x : Sai} {day : Int} (h : saiE x = 0) (hd : 0 ≤ day ∧ day ≤ 9999) : saiE (turnX x day) = 0 := by
  have ho := sai_ok h
  refine saiE_mk (y := turnX x day) (bks_zero h).1 ho.fares (betB_true hd.1 hd.2) ho.leaves (by show (x.bks.map _).length ≤ 16; rw [List.length_map]; exact ho.bs.len) (fun b hb => ?_) ?_ ?_ (turn_room h)
  · obtain ⟨c, hc, rfl⟩ := List.mem_map.1 hb
    exact ok_of (turn1_ok (ho.bs.bk c hc))
  · refine rise_pw.2 (List.pairwise_map.2 ((rise_pw.1 (rise_of ho.bs.rise)).imp fun {a b} hab => ?_))
    rw [turn1_id, turn1_id]; exact hab
  · refine List.any_eq_false.2 fun b hb => ?_
    obtain ⟨c, hc, rfl⟩ := List.mem_map.1 hb
    rcases Bool.eq_false_or_eq_true (lateO day c) with q | q
    · rw [turn1_late q]
      unfold badB liveB
      rw [turnB_state]
      simp
    · rw [turn1_not q]
      exact List.any_eq_false.1 ho.bs.bad c hc
theorem turn_zero {x : Sai} {day : Int} (h : turnEx x day = 0) : saiE x = 0 ∧ (0 ≤ day ∧ day ≤ 9999) ∧ x.day < day := by
  unfold turnEx at h
  by_cases h0 : saiE x ≠ 0
  · rw [if_pos h0] at h; exact absurd h h0
  rw [if_neg h0] at h
  by_cases h1 : betB day 0 9999 = false
  · rw [if_pos h1] at h; omega
  rw [if_neg h1] at h
  by_cases h2 : day ≤ x.day
  · rw [if_pos h2] at h; omega
  exact ⟨Decidable.not_not.1 h0, betB_iff.1 (not_false_of h1), by omega⟩
theorem turn_mk {x : Sai} {day : Int} (h0 : saiE x = 0) (h1 : 0 ≤ day ∧ day ≤ 9999) (h2 : x.day < day) : turnEx x day = 0 := by
  unfold turnEx
  rw [if_neg (by rw [h0]; simp), if_neg (by rw [betB_true h1.1 h1.2]; simp), if_neg (by omega)]
theorem turn_again {x : Sai} {day more : Int} (h1 : turnEx x day = 0) (h2 : turnEx (turnX x day) more = 0) : day < more ∧ turnEx x more = 0 := by
  obtain ⟨a1, a2, a3⟩ := turn_zero h1
  obtain ⟨b1, b2, b3⟩ := turn_zero h2
  have b3 : day < more := b3
  exact ⟨b3, turn_mk a1 b2 (by omega)⟩
theorem turn_two (x : Sai) {day more : Int} (b : Bkg) (h : day < more) : (turn1 (turnX x day) more (turn1 x day b)).state = (turn1 x more b).state := by
  rcases Bool.eq_false_or_eq_true (lateO day b) with q | q
  · have q2 : lateO more b = true := by
      unfold lateO at q ⊢
      rw [Bool.and_eq_true] at q ⊢
      have h1 : b.til < day := of_decide_eq_true q.2
      exact ⟨q.1, decide_eq_true (by omega)⟩
    have q3 : lateO more (turnB x day b) = false := by
      unfold lateO
      rw [turnB_state]; rfl
    rw [turn1_late q, turn1_not q3, turn1_late q2, turnB_state, turnB_state]
  · rw [turn1_not q]
    rcases Bool.eq_false_or_eq_true (lateO more b) with q2 | q2
    · rw [turn1_late q2, turn1_late q2, turnB_state, turnB_state]
    · rw [turn1_not q2, turn1_not q2]
theorem idsK_pre (x : Sai) (day : Int) (k : Nat) : ∃ r, turnI x day = idsK x day k ++ r := by
  unfold turnI idsK
  refine ⟨((x.bks.drop k).filter (lateO day)).map (·.id), ?_⟩
  rw [← List.map_append, ← List.filter_append, List.take_append_drop]
theorem ids_at {x : Sai} {day : Int} {k : Nat} {b : Bkg} (hb : x.bks[k]? = some b) (h : lateO day b = true) : (turnI x day)[(idsK x day k).length]? = some b.id := by
  obtain ⟨r, hr⟩ := idsK_pre x day (k + 1)
  rw [hr, (turnK_late (x := x) hb h).2, List.append_assoc, List.getElem?_append_right (Nat.le_refl _), Nat.sub_self]
  rfl
theorem ids_next {x : Sai} {day : Int} {k : Nat} {b : Bkg} (hb : x.bks[k]? = some b) (h : lateO day b = true) : (idsK x day (k + 1)).length = (idsK x day k).length + 1 := by
  rw [(turnK_late (x := x) hb h).2, List.length_append]; rfl
theorem turnX_at {x : Sai} {day : Int} {k : Nat} {b : Bkg} (hb : x.bks[k]? = some b) : (turnX x day).bks[k]? = some (turn1 x day b) := by
  show (x.bks.map (turn1 x day))[k]? = _
  rw [List.getElem?_map, hb]; rfl
theorem turnX_len (x : Sai) (day : Int) : (turnX x day).bks.length = x.bks.length := List.length_map _
end Go.Proofs.YtoilcdgpeilgaaaGreat
namespace Go.Proofs.YtoilcdgpeilgaaaGreat
open Go.RowKit Go.Shelf
structure HasCab (X : Shp) (b q : Bkg) : Prop where
  no : openB b = false → q = b
  yes : openB b = true → ∃ c : Nat, c < X.cabs.length ∧ eligB X b c = true ∧ q = moveB b c
theorem closeK_at {x : Sai} (ho : OkSai x) : ∀ k, k ≤ x.bks.length → ∀ (j : Nat) (b : Bkg), x.bks[j]? = some b → j < k → ∃ q, (closeK x k).bks[j]? = some q ∧ HasCab x.ship b q
  | 0, _, j, b, _, hj => by omega
  | k + 1, h, j, b, hb, hj => by
    have hc := closeK_ok ho k (by omega)
    have hbk : x.bks[k]? = some (x.bks[k]'(by omega)) := List.getElem?_eq_getElem (by omega)
    have hyk := hc.at.trans hbk
    show ∃ q, (closeAt (closeK x k) k).bks[j]? = some q ∧ _
    rcases Bool.eq_false_or_eq_true (openB (x.bks[k]'(by omega))) with hop | hop
    · obtain ⟨c, h1, h2, h3, _, _⟩ := hc.pick hbk hop
      rw [closeAt_open hyk hop h1]
      by_cases hjk : j = k
      · subst hjk
        rw [hbk] at hb
        injection hb with hb
        subst hb
        exact ⟨_, set_get hyk, ⟨fun q => Bool.noConfusion (hop.symm.trans q), fun _ => ⟨c, h2, h3, rfl⟩⟩⟩
      · obtain ⟨q, hq, hh⟩ := closeK_at ho k (by omega) j b hb (by omega)
        exact ⟨q, by show ((closeK x k).bks.set k _)[j]? = _; rw [List.getElem?_set_ne (by omega)]; exact hq, hh⟩
    · rw [closeAt_skip hyk hop]
      by_cases hjk : j = k
      · subst hjk
        rw [hbk] at hb
        injection hb with hb
        subst hb
        exact ⟨_, hyk, ⟨fun _ => rfl, fun q => Bool.noConfusion (hop.symm.trans q)⟩⟩
      · exact closeK_at ho k (by omega) j b hb (by omega)
theorem closeX_at {x : Sai} (ho : OkSai x) {j : Nat} {b : Bkg} (hb : x.bks[j]? = some b) : ∃ q, (closeX x).bks[j]? = some q ∧ HasCab x.ship b q :=
  closeK_at ho x.bks.length (Nat.le_refl _) j b hb (List.getElem?_eq_some_iff.1 hb).1
theorem closeX_len {x : Sai} (ho : OkSai x) : (closeX x).bks.length = x.bks.length := (closeK_ok ho x.bks.length (Nat.le_refl _)).len
theorem closeX_ship {x : Sai} (ho : OkSai x) : (closeX x).ship = x.ship := (closeK_ok ho x.bks.length (Nat.le_refl _)).ship
theorem close_zero {x : Sai} (h : closeEx x = 0) : saiE x = 0 ∧ x.closed = false := by
  unfold closeEx at h
  by_cases h0 : saiE x ≠ 0
  · rw [if_pos h0] at h; exact absurd h h0
  rw [if_neg h0] at h
  refine ⟨Decidable.not_not.1 h0, ?_⟩
  cases hc : x.closed
  · rfl
  · rw [if_pos hc] at h; omega
theorem close_bad {x : Sai} (h : ¬ closeEx x = 0) (hc : x.closed = false) : ¬ saiE x = 0 := fun h0 => h (by unfold closeEx; rw [if_neg (by rw [h0]; simp), if_neg (by rw [hc]; simp)])
theorem elig_cab {X : Shp} {b : Bkg} {c : Nat} {k : Cab} (hX : OkShp X) (hz : shipE X = 0) (hk : X.cabs[c]? = some k) (he : eligB X b c = true) (h0 : 0 ≤ b.cat) (h1 : b.cat < X.cats.length) : b.gst ≤ k.ber ∧ (k.lev || !b.lev) = true ∧ servE X k.cat b.cat = 0 ∧ srvB (higC X.cats) k.cat.toNat b.cat.toNat = true := by
  have hc : cabAt X (c : Int) = k := by unfold cabAt; rw [Int.toNat_natCast, List.getD_eq_getElem?_getD, hk]; rfl
  unfold eligB fitB at he
  rw [hc, Bool.and_eq_true, Bool.and_eq_true] at he
  have hcl := (List.getElem?_eq_some_iff.1 hk).1
  have h2 := cab_ok hX (k := c) hcl
  have hkd : X.cabs.getD c default = k := by rw [List.getD_eq_getElem?_getD, hk]; rfl
  rw [hkd] at h2
  refine ⟨of_decide_eq_true he.1.1, he.1.2, ?_, he.2⟩
  unfold servE
  rw [if_neg (by rw [hz]; simp), if_neg]
  rintro (h | h)
  · rw [betB_true (by omega) (by omega)] at h; cases h
  · rw [betB_true (by omega) (by omega)] at h; cases h
end Go.Proofs.YtoilcdgpeilgaaaGreat
