/-
  The law StockTells returns true, whatever it is handed, and changes nothing that was there.
-/
import Derived.Test.YtlablioefblmkaaGreatBun32
import Derived.Test.YtlablioefblmkaaGreatBun36
import Derived.Test.YtlablioefblmkaaGreatBun38
import Derived.BigQuiet
set_option linter.unusedSimpArgs false
set_option linter.unusedVariables false
namespace Go.Proofs.YtlablioefblmkaaGreat
open Go.ChangeShapes Go.WideShapes Go.ChangeAt Go.RowKit Go.Shelf

theorem tak_cal {x : Sai} (ho : OkBs x) (c : Int) : CalOk (takL x.bks c) x.ship.legs := by
  have h7 := shp_legs ho.ship
  unfold takL
  cases h : spF (spL x.bks c) with
  | none => exact cal_of h7.1 h7.2 (fun s hs => by simp at hs) List.Pairwise.nil
  | some out =>
    obtain ⟨hp, hw⟩ := spF_some (fun s hs => (spL_ok (spOk_of ho.ship ho.bk) s hs).2.1) h
    refine cal_of h7.1 h7.2 (fun s hs => ?_) hw
    obtain ⟨b, hb, rfl⟩ := spL_mem (hp.subset hs)
    exact bk_span ho.ship (ho.bk b hb)
theorem tells_ints {r : Int} {sl : List Int} : listIs (okL r sl) r r (okL r sl) = true := by
  unfold listIs
  by_cases h0 : r = 0
  · subst h0; simp [okL_zero]
  · rw [okL_ne h0, okL_ne h0]; simp
theorem tells_at {l : List Bkg} {t : Int} : decide (0 ≤ atI l t) = hasId l t := idxF_any
set_option maxRecDepth 100000 in
set_option maxHeartbeats 20000000 in
theorem StockTells_walk (W : World) (cs0 : Array Value) (x : Sai) (hx0 : saiC W All x cs0.toList) (c : Int) (_ : InI c) (cs2 : Array Value) (b : Bkg) (hb0 : bkgC W All b cs2.toList) :
    Calls Tryz.prog 4 #[.agg cs0, .int .i64 c, .agg cs2] W fun e w' => e = .returned (.bool true) ∧ Below W.heap.size W w' := by
  obtain ⟨p, rfl, hS, i1, i2, _, _⟩ := sai_in hx0
  obtain ⟨A3, n3, c3, hcs1, hf, hI⟩ := hb0
  obtain ⟨id, kind, state, gst, lev, cab, cat, frm, upto, til, fol⟩ := b
  obtain rfl : cs2 = bkgA ⟨id, kind, state, gst, lev, cab, cat, frm, upto, til, fol⟩ (.slice A3 n3 c3) := by cases cs2; simp_all
  simp only at hf
  clear hcs1
  have HCK0 := Lib.hid (fun X hX => saiCheck_any x p X hX)
  have HPR0 := Lib.hid (fun X hX => Promises_any x p X hX)
  have HFR0 := Lib.hid (fun X hX => stockFree_any x p c X hX)
  have HCO0 := Lib.hid (fun X hX hF => Could_any x p ⟨id, kind, state, gst, lev, cab, cat, frm, upto, til, fol⟩ A3 n3 c3 X hX hF hI)
  have HCS0 := Lib.hid (fun q p X hX => CheckSailing_any q p X hX)
  have HCB0 := Lib.hid (fun X h1 h2 h3 h4 => CheckBooking_any x.ship p.A p.n p.cap p.B p.m p.cap2 ⟨id, kind, state, gst, lev, cab, cat, frm, upto, til, fol⟩ A3 n3 c3 X h1 h2 h3 h4)
  have HBA0 := Lib.hid (fun X hl => BookingAt_any x p id X hl)
  have HPO0 := Lib.hid (fun X hX (ho : OkBs x) => PromisesOf_any x p X hX ho.ship ho.bk ho.len)
  have HSF0 := Lib.hid (fun X hl (ho : OkBs x) => SpansOf_any p.C p.nb p.cb x.bks c X hl (spOk_of ho.ship ho.bk))
  have HWB0 := Lib.hid (fun X hX hF hr hn hl => WithBooking_any x p ⟨id, kind, state, gst, lev, cab, cat, frm, upto, til, fol⟩ A3 n3 c3 X hX hF hI hr hn hl)
  obtain ⟨A, n, cap, B, m, cap2, D, nd, cd, E, ne, ce, C, nb, cb⟩ := p
  simp only at HCB0 HSF0
  have hmb := hS.cabs.bd
  simp only at hmb
  obtain ⟨r, hr⟩ : ∃ r, r = saiE x := ⟨_, rfl⟩
  obtain ⟨fe, hfe⟩ : ∃ r, r = freeE x c := ⟨_, rfl⟩
  obtain ⟨cE, hcE⟩ : ∃ r, r = couldE x ⟨id, kind, state, gst, lev, cab, cat, frm, upto, til, fol⟩ := ⟨_, rfl⟩
  obtain ⟨cB, hcB⟩ : ∃ r, r = couldB x ⟨id, kind, state, gst, lev, cab, cat, frm, upto, til, fol⟩ := ⟨_, rfl⟩
  obtain ⟨oe, hoe⟩ : ∃ r, r = ofE x.ship ⟨id, kind, state, gst, lev, cab, cat, frm, upto, til, fol⟩ := ⟨_, rfl⟩
  obtain ⟨hi, hhi⟩ : ∃ r, r = hasId x.bks id := ⟨_, rfl⟩
  obtain ⟨gl, hgl⟩ : ∃ r, r = gapsL (takL x.bks c) x.ship.legs := ⟨_, rfl⟩
  obtain ⟨il, hil⟩ : ∃ q, q = okL r (idsL x) := ⟨_, rfl⟩
  obtain ⟨el, hel⟩ : ∃ q, q = okL r (edgL x) := ⟨_, rfl⟩
  obtain ⟨ai, hai⟩ : ∃ r, r = atI x.bks id := ⟨_, rfl⟩
  have HFE := Lib.hid (show fe = if r ≠ 0 then r else if betB c 0 ((m : Int) - 1) = false then 3 else 0 by rw [hfe, hr, show m = x.ship.cabs.length from hS.cabs.len.symm]; rfl)
  have HCE := Lib.hid (show cE = if r ≠ 0 then r else if oe ≠ 0 then oe else if hi = true then 6 else 0 by rw [hcE, hr, hoe, hhi]; rfl)
  have HCBE := Lib.hid (show cB = if cE ≠ 0 then false else saiE (withS x ⟨id, kind, state, gst, lev, cab, cat, frm, upto, til, fol⟩) == 0 by rw [hcB, hcE]; rfl)
  have HAI := Lib.hid (show decide (0 ≤ ai) = hi by rw [hai, hhi]; exact tells_at)
  rw [← hr] at HPR0 HCK0
  rw [← hil, ← hel] at HPR0
  rw [← hfe, ← hgl] at HFR0
  rw [← hcE, ← hcB] at HCO0
  rw [← hoe] at HCB0
  rw [← hai] at HBA0
  have HR := Lib.hid hr
  have HIL := Lib.hid hil
  have HEL := Lib.hid hel
  have HOE := Lib.hid hoe
  have HHI := Lib.hid hhi
  have HGL := Lib.hid hgl
  have HS := Lib.hid hS
  have HF := Lib.hid hf
  have HI := Lib.hid hI
  clear hfe hcE hcB hoe hhi hgl hil hel hai hS hf hI hr i1 i2 hx0
  go_enter Tryz.func4, Tryz.ntmps4
  go_upto_region 0 with (fail)
  go_cut [3, 5, 6] (fun p p2 _ wx => ∃ g h, p = .pointer (some ⟨g, 0, none⟩) ∧ p2 = .pointer (some ⟨h, 0, none⟩) ∧ Blk wx g (saiA x ⟨A, n, cap, B, m, cap2, D, nd, cd, E, ne, ce, C, nb, cb⟩) 32 ∧ Blk wx h (bkgA ⟨id, kind, state, gst, lev, cab, cat, frm, upto, til, fol⟩ (.slice A3 n3 c3)) 42 ∧ Below W.heap.size W wx)
  case first => as_aux_lemma =>
    go_wp2_with fail
    go_meet
    exact ⟨_, _, rfl, rfl, blk2_0 _ _ _, blk2_1 _ _ _, bel2 _ _ _⟩
  obtain ⟨g, h, rfl, rfl, hG, hH, hb0⟩ := hcut
  obtain ⟨W0, hW0⟩ : ∃ V, V = wc := ⟨_, rfl⟩
  subst hW0
  have HT := Lib.hid (fun X (hX : Below W0.heap.size W0 X) => hb0.trans (hX.mono hb0.size))
  have HG := Lib.hid (fun X (hX : Below W0.heap.size W0 X) => hG.bel hX)
  have HH := Lib.hid (fun X (hX : Below W0.heap.size W0 X) => hH.bel hX)
  have HSX := Lib.hid (fun X (hX : Below W0.heap.size W0 X) => HS.out.bel (HT.out X hX))
  have HFX := Lib.hid (fun X (hX : Below W0.heap.size W0 X) => HF.out.bel (HT.out X hX))
  clear hG hH hb0
  have hb : Below W0.heap.size W0 W0 := Below.refl _ _
  have HC := Lib.hid (HPR0.out _ (HSX.out _ hb))
  go_wp2_with (first | (refine wpList_load_row rfl 32 (.tmp 3) rfl g rfl 32 _ (0, 0) _ (HG.out _ hb) Tryz.underlying32 rfl (by kernel_rfl) ?_) | (refine wpList_load_row rfl 42 (.tmp 5) rfl h rfl 42 _ (0, 0) _ (HH.out _ hb) Tryz.underlying42 rfl (by kernel_rfl) ?_))
  refine HC.out.mono ?_
  rintro e w1 ⟨v1, v2, xs1, xs2, rfl, hO1, hO2, hb1⟩
  obtain ⟨A1, n1, c1, rfl, hs1⟩ := hO1.sl intC_good
  obtain ⟨A2, n2, c2, rfl, hs2⟩ := hO2.sl edgC_good
  replace hs1 := hs1.all intC_good (by omega)
  replace hs2 := hs2.all edgC_good (by omega)
  replace hb := hb.trans (hb1.mono hb.size)
  clear hO1 hO2 hb1 HC HPR0
  have HC := Lib.hid (HFR0.out _ (HSX.out _ hb))
  have HA1 := Lib.hid hs1
  clear hs1
  have HA2 := Lib.hid hs2
  clear hs2
  go_wp2_with (first | (refine wpList_load_row rfl 32 (.tmp 3) rfl g rfl 32 _ (0, 0) _ (HG.out _ hb) Tryz.underlying32 rfl (by kernel_rfl) ?_) | (refine wpList_load_row rfl 42 (.tmp 5) rfl h rfl 42 _ (0, 0) _ (HH.out _ hb) Tryz.underlying42 rfl (by kernel_rfl) ?_))
  refine HC.out.mono ?_
  rintro e w2 ⟨v3, xs3, rfl, hO3, hb1⟩
  obtain ⟨A4, n4, c4, rfl, hs3⟩ := hO3.sl spanC_good
  replace hs3 := hs3.all spanC_good (by omega)
  have hs1 := HA1.out.bel hb1
  have hs2 := HA2.out.bel hb1
  replace hb := hb.trans (hb1.mono hb.size)
  clear hO3 hb1 HC HFR0 HA1 HA2
  have HC := Lib.hid (HCO0.out _ (HSX.out _ hb) (HFX.out _ hb))
  have HA1 := Lib.hid hs1
  clear hs1
  have HA2 := Lib.hid hs2
  clear hs2
  have HA3 := Lib.hid hs3
  clear hs3
  go_wp2_with (first | (refine wpList_load_row rfl 32 (.tmp 3) rfl g rfl 32 _ (0, 0) _ (HG.out _ hb) Tryz.underlying32 rfl (by kernel_rfl) ?_) | (refine wpList_load_row rfl 42 (.tmp 5) rfl h rfl 42 _ (0, 0) _ (HH.out _ hb) Tryz.underlying42 rfl (by kernel_rfl) ?_))
  refine HC.out.mono ?_
  rintro e w3 ⟨rfl, hb1⟩
  replace HA1 := Lib.hid (HA1.out.bel hb1)
  replace HA2 := Lib.hid (HA2.out.bel hb1)
  replace HA3 := Lib.hid (HA3.out.bel hb1)
  replace hb := hb.trans (hb1.mono hb.size)
  clear hb1 HC HCO0
  have HC := Lib.hid (HCS0.out x ⟨A, n, cap, B, m, cap2, D, nd, cd, E, ne, ce, C, nb, cb⟩ _ (HSX.out _ hb))
  rw [← HR.out] at HC
  go_wp2_with (first | (refine wpList_load_row rfl 32 (.tmp 3) rfl g rfl 32 _ (0, 0) _ (HG.out _ hb) Tryz.underlying32 rfl (by kernel_rfl) ?_) | (refine wpList_load_row rfl 42 (.tmp 5) rfl h rfl 42 _ (0, 0) _ (HH.out _ hb) Tryz.underlying42 rfl (by kernel_rfl) ?_))
  refine HC.out.mono ?_
  rintro e w4 ⟨rfl, hb1⟩
  replace HA1 := Lib.hid (HA1.out.bel hb1)
  replace HA2 := Lib.hid (HA2.out.bel hb1)
  replace HA3 := Lib.hid (HA3.out.bel hb1)
  replace hb := hb.trans (hb1.mono hb.size)
  clear hb1 HC
  -- w
  obtain ⟨tv, htv⟩ : ∃ q, q = (decide (r = 0) && !betB c 0 ((m : Int) - 1)) := ⟨_, rfl⟩
  have HTV := Lib.hid htv
  clear htv
  go_upto_region 6 with (fail)
  go_cut [58] (fun p wx => p = .bool tv ∧ wx = w4)
  case first => as_aux_lemma =>
    have g3 : w4.cell? ⟨g, 3, none⟩ = some (.slice B m cap2) := (HG.out _ hb).cell rfl
    by_cases h0 : r = 0
    · subst h0
      have HT2 := Lib.hid (show tv = !betB c 0 ((m : Int) - 1) by rw [HTV.out, decide_eq_true rfl]; rfl)
      by_cases h1 : c < 0
      · obtain rfl : tv = true := by rw [HT2.out, betB_false (.inl h1)]; rfl
        go_wp2_with fail
        go_meet
        exact ⟨rfl, rfl⟩
      by_cases h2 : (m : Int) ≤ c
      · obtain rfl : tv = true := by rw [HT2.out, betB_false (.inr (by omega))]; rfl
        go_wp2_with fail
        go_meet
        exact ⟨rfl, rfl⟩
      · obtain rfl : tv = false := by rw [HT2.out, betB_true (by omega) (by omega)]; rfl
        go_wp2_with fail
        go_meet
        exact ⟨rfl, rfl⟩
    · obtain rfl : tv = false := by rw [HTV.out, decide_eq_false h0]; rfl
      have h0' : (r == 0) = false := by simpa using h0
      clear h0
      go_wp2_with fail
      go_meet
      exact ⟨rfl, rfl⟩
  obtain ⟨rfl, rfl⟩ := hcut
  go_upto_if 58 with (fail)
  go_cut [15] (fun p wx => p = .int .i64 fe ∧ wx = wc)
  case first => as_aux_lemma =>
    cases tv
    · obtain rfl : fe = r := by
        have h2 := HTV.out
        rw [HFE.out]
        by_cases h : r = 0
        · rw [decide_eq_true h] at h2
          rw [if_neg (by rw [h]; simp), h]
          cases q1 : betB c 0 ((m : Int) - 1)
          · rw [q1] at h2; cases h2
          · simp
        · rw [if_pos h]
      go_wp2_with fail
      go_meet
      exact ⟨rfl, rfl⟩
    · obtain rfl : fe = 3 := by
        have h2 := HTV.out
        rw [HFE.out]
        by_cases h : r = 0
        · rw [decide_eq_true h] at h2
          rw [if_neg (by rw [h]; simp)]
          cases q1 : betB c 0 ((m : Int) - 1)
          · simp
          · rw [q1] at h2; cases h2
        · rw [decide_eq_false h] at h2; cases h2
      go_wp2_with fail
      go_meet
      exact ⟨rfl, rfl⟩
  obtain ⟨rfl, rfl⟩ := hcut
  -- x, first
  obtain ⟨xv, hxv⟩ : ∃ q, q = (if r ≠ 0 then r else oe) := ⟨_, rfl⟩
  have HXV := Lib.hid hxv
  clear hxv
  obtain ⟨w5, hw5⟩ : ∃ V, V = wc := ⟨_, rfl⟩
  subst hw5
  go_upto_if 60 with (fail)
  go_cut [16] (fun p wx => p = .int .i64 xv ∧ Below w5.heap.size w5 wx)
  case first => as_aux_lemma =>
    by_cases h0 : r = 0
    · obtain rfl : xv = oe := by rw [HXV.out, if_neg (by rw [h0]; simp)]
      have HOK := Lib.hid (sai_ok (HR.out.symm.trans h0))
      have g0 : w5.cell? ⟨g, 0, none⟩ = some (.int .i64 x.ship.legs) := (HG.out _ hb).cell rfl
      have g1 : w5.cell? ⟨g, 1, none⟩ = some (.int .i64 x.ship.souls) := (HG.out _ hb).cell rfl
      have g2 : w5.cell? ⟨g, 2, none⟩ = some (.slice A n cap) := (HG.out _ hb).cell rfl
      have g3 : w5.cell? ⟨g, 3, none⟩ = some (.slice B m cap2) := (HG.out _ hb).cell rfl
      have HC := Lib.hid (HCB0.out _ (HSX.out _ hb).cats (HSX.out _ hb).cabs HOK.out.bs.ship (HFX.out _ hb))
      subst h0
      go_wp2_with (first | (refine wpList_load_row rfl 32 (.tmp 3) rfl g rfl 32 _ (0, 0) _ (HG.out _ hb) Tryz.underlying32 rfl (by kernel_rfl) ?_) | (refine wpList_load_row rfl 42 (.tmp 5) rfl h rfl 42 _ (0, 0) _ (HH.out _ hb) Tryz.underlying42 rfl (by kernel_rfl) ?_))
      refine HC.out.mono ?_
      rintro e w6 ⟨rfl, hb1⟩
      go_wp2_with fail
      go_meet
      exact ⟨rfl, hb1⟩
    · obtain rfl : xv = r := by rw [HXV.out, if_pos h0]
      have h0' : (xv == 0) = false := by simpa using h0
      clear h0
      go_wp2_with fail
      go_meet
      exact ⟨rfl, Below.refl _ _⟩
  obtain ⟨rfl, hb1⟩ := hcut
  replace HA1 := Lib.hid (HA1.out.bel hb1)
  replace HA2 := Lib.hid (HA2.out.bel hb1)
  replace HA3 := Lib.hid (HA3.out.bel hb1)
  replace hb := hb.trans (hb1.mono hb.size)
  clear hb1
  -- x, then
  obtain ⟨tv, htv⟩ : ∃ q, q = (decide (xv = 0) && hi) := ⟨_, rfl⟩
  have HTW := Lib.hid htv
  clear htv
  obtain ⟨w6, hw6⟩ : ∃ V, V = wc := ⟨_, rfl⟩
  subst hw6
  go_upto_region 10 with (fail)
  go_cut [73] (fun p wx => p = .bool tv ∧ Below w6.heap.size w6 wx)
  case first => as_aux_lemma =>
    by_cases h0 : xv = 0
    · obtain rfl : tv = hi := by rw [HTW.out, decide_eq_true h0]; rfl
      have hG := HG.out _ hb
      have s0 : w6.cell? ⟨g, 0, none⟩ = some (.int .i64 x.ship.legs) := hG.cell rfl
      have s1 : w6.cell? ⟨g, 1, none⟩ = some (.int .i64 x.ship.souls) := hG.cell rfl
      have s2 : w6.cell? ⟨g, 2, none⟩ = some (.slice A n cap) := hG.cell rfl
      have s3 : w6.cell? ⟨g, 3, none⟩ = some (.slice B m cap2) := hG.cell rfl
      have s4 : w6.cell? ⟨g, 4, none⟩ = some (.slice D nd cd) := hG.cell rfl
      have s5 : w6.cell? ⟨g, 5, none⟩ = some (.int .i64 x.fares.alone) := hG.cell rfl
      have s6 : w6.cell? ⟨g, 6, none⟩ = some (.int .i64 x.fares.third) := hG.cell rfl
      have s7 : w6.cell? ⟨g, 7, none⟩ = some (.slice E ne ce) := hG.cell rfl
      have s8 : w6.cell? ⟨g, 8, none⟩ = some (.int .i64 x.fares.down) := hG.cell rfl
      have s9 : w6.cell? ⟨g, 9, none⟩ = some (.int .i64 x.day) := hG.cell rfl
      have s10 : w6.cell? ⟨g, 10, none⟩ = some (.int .i64 x.leaves) := hG.cell rfl
      have s11 : w6.cell? ⟨g, 11, none⟩ = some (.slice C nb cb) := hG.cell rfl
      have s12 : w6.cell? ⟨g, 12, none⟩ = some (.bool x.closed) := hG.cell rfl
      have b0 : w6.cell? ⟨h, 0, none⟩ = some (.int .i64 id) := (HH.out _ hb).cell rfl
      have HC := Lib.hid (HBA0.out _ (HSX.out _ hb).bks)
      subst h0
      clear hG
      go_wp2_with fail
      refine HC.out.mono ?_
      rintro e w7 ⟨rfl, hb1⟩
      go_wp2_with fail
      go_meet
      exact ⟨by rw [HAI.out], hb1⟩
    · obtain rfl : tv = false := by rw [HTW.out, decide_eq_false h0]; rfl
      have h0' : (xv == 0) = false := by simpa using h0
      clear h0
      go_wp2_with fail
      go_meet
      exact ⟨rfl, Below.refl _ _⟩
  obtain ⟨rfl, hb1⟩ := hcut
  replace HA1 := Lib.hid (HA1.out.bel hb1)
  replace HA2 := Lib.hid (HA2.out.bel hb1)
  replace HA3 := Lib.hid (HA3.out.bel hb1)
  replace hb := hb.trans (hb1.mono hb.size)
  clear hb1
  go_upto_if 73 with (fail)
  go_cut [16] (fun p wx => p = .int .i64 cE ∧ wx = wc)
  case first => as_aux_lemma =>
    cases tv
    · obtain rfl : cE = xv := by
        have h2 := HTW.out
        rw [HCE.out]
        by_cases h : r = 0
        · rw [if_neg (by rw [h]; simp)]
          have h3 : xv = oe := by rw [HXV.out, if_neg (by rw [h]; simp)]
          by_cases h4 : oe = 0
          · rw [h3, decide_eq_true h4] at h2
            cases hi
            · rw [if_neg (by rw [h4]; simp), h3, h4]; rfl
            · cases h2
          · rw [if_pos h4, h3]
        · rw [if_pos h, HXV.out, if_pos h]
      go_wp2_with fail
      go_meet
      exact ⟨rfl, rfl⟩
    · obtain rfl : cE = 6 := by
        have h2 := HTW.out
        by_cases h5 : xv = 0
        · rw [decide_eq_true h5] at h2
          have h6 : hi = true := by simpa using h2.symm
          rw [HCE.out]
          by_cases h : r = 0
          · rw [if_neg (by rw [h]; simp)]
            have h3 : xv = oe := by rw [HXV.out, if_neg (by rw [h]; simp)]
            rw [if_neg (by rw [← h3, h5]; simp), if_pos h6]
          · rw [HXV.out, if_pos h] at h5
            exact absurd h5 h
        · rw [decide_eq_false h5] at h2; cases h2
      go_wp2_with fail
      go_meet
      exact ⟨rfl, rfl⟩
  obtain ⟨rfl, rfl⟩ := hcut
  -- some, may
  obtain ⟨w7, hw7⟩ : ∃ V, V = wc := ⟨_, rfl⟩
  subst hw7
  go_upto_if 75 with (fail)
  go_cut [17, 18] (fun p p2 wx => (∃ A5 n5 c5, p = .slice A5 n5 c5 ∧ Sl intC 1 wx All A5 n5 c5 il) ∧ (∃ A5 n5 c5, p2 = .slice A5 n5 c5 ∧ Sl edgC 2 wx All A5 n5 c5 el) ∧ Below w7.heap.size w7 wx)
  case first => as_aux_lemma =>
    by_cases h0 : r = 0
    · have HOK := Lib.hid (sai_ok (HR.out.symm.trans h0))
      have HI1 := Lib.hid (show il = idsL x by rw [HIL.out, h0]; rfl)
      have HE1 := Lib.hid (show el = edgL x by rw [HEL.out, h0]; rfl)
      have HC := Lib.hid (HPO0.out _ (HSX.out _ hb) HOK.out.bs)
      subst h0
      go_wp2_with (first | (refine wpList_load_row rfl 32 (.tmp 3) rfl g rfl 32 _ (0, 0) _ (HG.out _ hb) Tryz.underlying32 rfl (by kernel_rfl) ?_) | (refine wpList_load_row rfl 42 (.tmp 5) rfl h rfl 42 _ (0, 0) _ (HH.out _ hb) Tryz.underlying42 rfl (by kernel_rfl) ?_))
      refine HC.out.mono ?_
      rintro e w8 ⟨v1, v2, xs4, xs5, rfl, hO1, hO2, hb1⟩
      obtain ⟨A5, n5, c5, rfl, hs4⟩ := hO1.sl intC_good
      obtain ⟨A6, n6, c6, rfl, hs5⟩ := hO2.sl edgC_good
      replace hs4 := hs4.all intC_good (by omega)
      replace hs5 := hs5.all edgC_good (by omega)
      rw [← HI1.out] at hs4
      rw [← HE1.out] at hs5
      have H4 := Lib.hid hs4
      clear hs4
      have H5 := Lib.hid hs5
      clear hs5
      clear hO1 hO2
      go_wp2_with fail
      go_meet
      exact ⟨⟨_, _, _, rfl, H4.out⟩, ⟨_, _, _, rfl, H5.out⟩, hb1⟩
    · have HI1 := Lib.hid (show il = [] by rw [HIL.out, okL_ne h0])
      have HE1 := Lib.hid (show el = [] by rw [HEL.out, okL_ne h0])
      have h0' : (r == 0) = false := by simpa using h0
      clear h0
      go_wp2_with fail
      go_meet
      exact ⟨⟨none, 0, 0, rfl, by rw [HI1.out]; exact Sl.nil _ _ _ _⟩, ⟨none, 0, 0, rfl, by rw [HE1.out]; exact Sl.nil _ _ _ _⟩, Below.refl _ _⟩
  obtain ⟨⟨A5, n5, c5, rfl, hs5⟩, ⟨A6, n6, c6, rfl, hs6⟩, hb1⟩ := hcut
  replace HA1 := Lib.hid (HA1.out.bel hb1)
  replace HA2 := Lib.hid (HA2.out.bel hb1)
  replace HA3 := Lib.hid (HA3.out.bel hb1)
  replace hb := hb.trans (hb1.mono hb.size)
  have HA5 := Lib.hid hs5
  clear hs5
  have HA6 := Lib.hid hs6
  clear hs6
  clear hb1
  -- free
  obtain ⟨w8, hw8⟩ : ∃ V, V = wc := ⟨_, rfl⟩
  subst hw8
  go_upto_if 82 with (fail)
  go_cut [19] (fun p wx => (∃ A7 n7 c7 l7, p = .slice A7 n7 c7 ∧ Sl spanC 2 wx All A7 n7 c7 l7 ∧ (fe = 0 → l7 = gl)) ∧ Below w8.heap.size w8 wx)
  case first => as_aux_lemma =>
    by_cases h0 : fe = 0
    · have hr0 : r = 0 := by
        by_cases h : r = 0
        · exact h
        · have h2 := HFE.out; rw [if_pos h] at h2; omega
      have HOK := Lib.hid (sai_ok (HR.out.symm.trans hr0))
      have hlg := shp_legs HOK.out.bs.ship
      obtain ⟨N, hNl⟩ : ∃ N : Nat, x.ship.legs = N := ⟨x.ship.legs.toNat, by omega⟩
      have HCAL := Lib.hid (tak_cal HOK.out.bs c)
      have HSPO := Lib.hid (show ∀ s ∈ takL x.bks c, OkSp s from fun s hs => by
        have := cal_mem HCAL.out hs
        exact ⟨this.1, this.2.1, by omega⟩)
      have HGL2 := Lib.hid (show (frS (takL x.bks c) N).1 = gl by rw [HGL.out, hNl]; exact free_same (by rw [← hNl]; exact HCAL.out))
      have HN7 := Lib.hid (show N ≤ 7 by omega)
      have HNL := Lib.hid hNl
      have s11 : w8.cell? ⟨g, 11, none⟩ = some (.slice C nb cb) := (HG.out _ hb).cell rfl
      have HC := Lib.hid (HSF0.out _ (HSX.out _ hb).bks HOK.out.bs)
      subst h0
      clear hr0 hlg hNl
      go_wp2_with fail
      refine HC.out.mono ?_
      rintro e w9 ⟨v1, xs4, rfl, hO1, hb1⟩
      obtain ⟨A7, n7, c7, rfl, hs7⟩ := hO1.sl spanC_good
      replace hs7 := hs7.all spanC_good (by omega)
      have hb' := hb.trans (hb1.mono hb.size)
      have g0 : w9.cell? ⟨g, 0, none⟩ = some (.int .i64 N) := by rw [← HNL.out]; exact (HG.out _ hb').cell rfl
      have HC2 := Lib.hid (FreeOf_any _ _ _ _ N _ hs7 HN7.out HSPO.out)
      clear hs7 hO1 s11 hb'
      go_wp2_with fail
      refine HC2.out.mono ?_
      rintro e w10 ⟨v2, xs5, rfl, hO2, hb2⟩
      obtain ⟨A8, n8, c8, rfl, hs8⟩ := hO2.sl spanC_good
      replace hs8 := hs8.all spanC_good (by omega)
      rw [HGL2.out] at hs8
      have H8 := Lib.hid hs8
      clear hs8
      clear hO2
      go_wp2_with fail
      go_meet
      exact ⟨⟨_, _, _, gl, rfl, H8.out, fun _ => rfl⟩, hb1.trans (hb2.mono hb1.size)⟩
    · have H0 := Lib.hid h0
      have h0' : (fe == 0) = false := by simpa using h0
      clear h0
      go_wp2_with fail
      go_meet
      exact ⟨⟨none, 0, 0, [], rfl, Sl.nil _ _ _ _, fun h => absurd h H0.out⟩, Below.refl _ _⟩
  obtain ⟨⟨A7, n7, c7, l7, rfl, hs7, hl7⟩, hb1⟩ := hcut
  replace HA1 := Lib.hid (HA1.out.bel hb1)
  replace HA2 := Lib.hid (HA2.out.bel hb1)
  replace HA3 := Lib.hid (HA3.out.bel hb1)
  replace HA5 := Lib.hid (HA5.out.bel hb1)
  replace HA6 := Lib.hid (HA6.out.bel hb1)
  replace hb := hb.trans (hb1.mono hb.size)
  have HA7 := Lib.hid hs7
  clear hs7
  have HL7 := Lib.hid hl7
  clear hl7
  clear hb1
  -- could
  obtain ⟨w9, hw9⟩ : ∃ V, V = wc := ⟨_, rfl⟩
  subst hw9
  go_upto_region 20 with (fail)
  go_cut [22] (fun p wx => p = .bool cB ∧ Below w9.heap.size w9 wx)
  case first => as_aux_lemma =>
    by_cases h0 : cE = 0
    · have hr0 : r = 0 := by
        by_cases h : r = 0
        · exact h
        · have h2 := HCE.out; rw [if_pos h] at h2; omega
      have hhi : hi = false := by
        have h2 := HCE.out
        rw [if_neg (by rw [hr0]; simp)] at h2
        by_cases h : oe = 0
        · rw [if_neg (by rw [h]; simp)] at h2
          cases hi
          · rfl
          · rw [if_pos rfl] at h2; omega
        · rw [if_pos h] at h2; omega
      have HOK := Lib.hid (sai_ok (HR.out.symm.trans hr0))
      have HCB2 := Lib.hid (show cB = (saiE (withS x ⟨id, kind, state, gst, lev, cab, cat, frm, upto, til, fol⟩) == 0) by rw [HCBE.out, if_neg (by rw [h0]; simp)])
      have hG := HG.out _ hb
      have hH := HH.out _ hb
      have s0 : w9.cell? ⟨g, 0, none⟩ = some (.int .i64 x.ship.legs) := hG.cell rfl
      have s1 : w9.cell? ⟨g, 1, none⟩ = some (.int .i64 x.ship.souls) := hG.cell rfl
      have s2 : w9.cell? ⟨g, 2, none⟩ = some (.slice A n cap) := hG.cell rfl
      have s3 : w9.cell? ⟨g, 3, none⟩ = some (.slice B m cap2) := hG.cell rfl
      have s4 : w9.cell? ⟨g, 4, none⟩ = some (.slice D nd cd) := hG.cell rfl
      have s5 : w9.cell? ⟨g, 5, none⟩ = some (.int .i64 x.fares.alone) := hG.cell rfl
      have s6 : w9.cell? ⟨g, 6, none⟩ = some (.int .i64 x.fares.third) := hG.cell rfl
      have s7 : w9.cell? ⟨g, 7, none⟩ = some (.slice E ne ce) := hG.cell rfl
      have s8 : w9.cell? ⟨g, 8, none⟩ = some (.int .i64 x.fares.down) := hG.cell rfl
      have s9 : w9.cell? ⟨g, 9, none⟩ = some (.int .i64 x.day) := hG.cell rfl
      have s10 : w9.cell? ⟨g, 10, none⟩ = some (.int .i64 x.leaves) := hG.cell rfl
      have s11 : w9.cell? ⟨g, 11, none⟩ = some (.slice C nb cb) := hG.cell rfl
      have s12 : w9.cell? ⟨g, 12, none⟩ = some (.bool x.closed) := hG.cell rfl
      have z0 : w9.cell? ⟨h, 0, none⟩ = some (.int .i64 id) := hH.cell rfl
      have z1 : w9.cell? ⟨h, 1, none⟩ = some (.int .i64 kind) := hH.cell rfl
      have z2 : w9.cell? ⟨h, 2, none⟩ = some (.int .i64 state) := hH.cell rfl
      have z3 : w9.cell? ⟨h, 3, none⟩ = some (.int .i64 gst) := hH.cell rfl
      have z4 : w9.cell? ⟨h, 4, none⟩ = some (.bool lev) := hH.cell rfl
      have z5 : w9.cell? ⟨h, 5, none⟩ = some (.int .i64 cab) := hH.cell rfl
      have z6 : w9.cell? ⟨h, 6, none⟩ = some (.int .i64 cat) := hH.cell rfl
      have z7 : w9.cell? ⟨h, 7, none⟩ = some (.int .i64 frm) := hH.cell rfl
      have z8 : w9.cell? ⟨h, 8, none⟩ = some (.int .i64 upto) := hH.cell rfl
      have z9 : w9.cell? ⟨h, 9, none⟩ = some (.int .i64 til) := hH.cell rfl
      have z10 : w9.cell? ⟨h, 10, none⟩ = some ((.slice A3 n3 c3)) := hH.cell rfl
      have HC := Lib.hid (HWB0.out _ (HSX.out _ hb) (HFX.out _ hb) (rise_of HOK.out.bs.rise) (by rw [← HHI.out]; exact hhi) HOK.out.bs.len)
      subst h0
      clear hr0 hhi hG hH
      go_wp2_with fail
      refine HC.out.mono ?_
      rintro e w10 ⟨p', rfl, hS', hb1⟩
      have HC2 := Lib.hid (HCS0.out _ p' _ hS')
      clear hS'
      go_wp2_with fail
      refine HC2.out.mono ?_
      rintro e w11 ⟨rfl, hb2⟩
      go_wp2_with fail
      go_meet
      exact ⟨by rw [HCB2.out], hb1.trans (hb2.mono hb1.size)⟩
    · obtain rfl : cB = false := by rw [HCBE.out, if_pos h0]
      have h0' : (cE == 0) = false := by simpa using h0
      clear h0
      go_wp2_with fail
      go_meet
      exact ⟨rfl, Below.refl _ _⟩
  obtain ⟨rfl, hb1⟩ := hcut
  replace HA1 := Lib.hid (HA1.out.bel hb1)
  replace HA2 := Lib.hid (HA2.out.bel hb1)
  replace HA3 := Lib.hid (HA3.out.bel hb1)
  replace HA5 := Lib.hid (HA5.out.bel hb1)
  replace HA6 := Lib.hid (HA6.out.bel hb1)
  replace HA7 := Lib.hid (HA7.out.bel hb1)
  replace hb := hb.trans (hb1.mono hb.size)
  clear hb1
  -- the answer
  go_wp2_with fail
  refine (stockBegun_any _).mono ?_
  rintro e w13 ⟨rfl, hb1⟩
  replace HA1 := Lib.hid (HA1.out.bel hb1)
  replace HA2 := Lib.hid (HA2.out.bel hb1)
  replace HA3 := Lib.hid (HA3.out.bel hb1)
  replace HA5 := Lib.hid (HA5.out.bel hb1)
  replace HA6 := Lib.hid (HA6.out.bel hb1)
  replace HA7 := Lib.hid (HA7.out.bel hb1)
  replace hb := hb.trans (hb1.mono hb.size)
  clear hb1
  have hG := HG.out _ hb
  have s0 : w13.cell? ⟨g, 0, none⟩ = some (.int .i64 x.ship.legs) := hG.cell rfl
  have s1 : w13.cell? ⟨g, 1, none⟩ = some (.int .i64 x.ship.souls) := hG.cell rfl
  have s2 : w13.cell? ⟨g, 2, none⟩ = some (.slice A n cap) := hG.cell rfl
  have s3 : w13.cell? ⟨g, 3, none⟩ = some (.slice B m cap2) := hG.cell rfl
  have s4 : w13.cell? ⟨g, 4, none⟩ = some (.slice D nd cd) := hG.cell rfl
  have s5 : w13.cell? ⟨g, 5, none⟩ = some (.int .i64 x.fares.alone) := hG.cell rfl
  have s6 : w13.cell? ⟨g, 6, none⟩ = some (.int .i64 x.fares.third) := hG.cell rfl
  have s7 : w13.cell? ⟨g, 7, none⟩ = some (.slice E ne ce) := hG.cell rfl
  have s8 : w13.cell? ⟨g, 8, none⟩ = some (.int .i64 x.fares.down) := hG.cell rfl
  have s9 : w13.cell? ⟨g, 9, none⟩ = some (.int .i64 x.day) := hG.cell rfl
  have s10 : w13.cell? ⟨g, 10, none⟩ = some (.int .i64 x.leaves) := hG.cell rfl
  have s11 : w13.cell? ⟨g, 11, none⟩ = some (.slice C nb cb) := hG.cell rfl
  have s12 : w13.cell? ⟨g, 12, none⟩ = some (.bool x.closed) := hG.cell rfl
  have HC := Lib.hid (HCK0.out _ (HSX.out _ hb))
  clear hG
  go_wp2_with fail
  refine HC.out.mono ?_
  rintro e w14 ⟨rfl, hb1⟩
  have hi := intsAre_any A1 A5 n1 c1 n5 c5 il il r r w14 (HA1.out.bel hb1) (HA5.out.bel hb1)
  rw [show listIs il r r il = true by rw [HIL.out]; exact tells_ints] at hi
  replace HA2 := Lib.hid (HA2.out.bel hb1)
  replace HA3 := Lib.hid (HA3.out.bel hb1)
  replace HA6 := Lib.hid (HA6.out.bel hb1)
  replace HA7 := Lib.hid (HA7.out.bel hb1)
  replace hb := hb.trans (hb1.mono hb.size)
  have HC2 := Lib.hid hi
  clear hi
  clear hb1 s0 s1 s2 s3 s4 s5 s6 s7 s8 s9 s10 s11 s12 HC
  go_wp2_with fail
  refine HC2.out.mono ?_
  rintro e w15 ⟨rfl, hb1⟩
  have he := SameEdges_any A2 A6 n2 c2 n6 c6 el el w15 (HA2.out.bel hb1) (HA6.out.bel hb1)
  rw [decide_eq_true (rfl : el = el)] at he
  replace HA3 := Lib.hid (HA3.out.bel hb1)
  replace HA7 := Lib.hid (HA7.out.bel hb1)
  replace hb := hb.trans (hb1.mono hb.size)
  have HC3 := Lib.hid he
  clear he
  clear hb1 HC2
  go_wp2_with fail
  refine HC3.out.mono ?_
  rintro e w16 ⟨rfl, k, hk⟩
  have hb1 : Below w15.heap.size w15 w16 := by rw [hk]; exact below_drewN (Below.refl _ _) _
  clear hk
  have ha := spansAre_any A4 A7 n4 c4 n7 c7 gl l7 fe w16 (HA3.out.bel hb1) (HA7.out.bel hb1) HL7.out
  replace hb := hb.trans (hb1.mono hb.size)
  have HC4 := Lib.hid ha
  clear ha
  clear hb1 HC3
  go_wp2_with fail
  refine HC4.out.mono ?_
  rintro e w17 ⟨rfl, hb1⟩
  go_wp2_with fail
  go_ret
  exact ⟨rfl, HT.out _ (hb.trans (hb1.mono hb.size))⟩
set_option maxRecDepth 100000 in
theorem StockTells_lifted (os : Os) (started : os.Started) (H : Type) (enc : TypeId × Value → H) :
    ReturnsInHanded {} Tryz.checked os 4 .any (Rows.stockTellsSpec.pre6 enc Tryz.prog Tryz.f4 Rows.stockTellsRow.domain false) (Rows.stockTellsSpec.post enc Tryz.prog Tryz.f4 false true false false) := by
  refine returnsInHanded_of_change (C := Tryz.checked) own started (by kernel_rfl) Tryz.func4
    (ChangeSpec.witness6 (enc := enc) (C := Tryz.checked) false ⟨#[], #[.agg #[.int .i64 0, .int .i64 0, .slice none 0 0, .slice none 0 0, .slice none 0 0, .int .i64 0, .int .i64 0, .slice none 0 0, .int .i64 0, .int .i64 0, .int .i64 0, .slice none 0 0, .bool false], .int .i64 0, .agg #[.int .i64 0, .int .i64 0, .int .i64 0, .int .i64 0, .bool false, .int .i64 0, .int .i64 0, .int .i64 0, .int .i64 0, .int .i64 0, .slice none 0 0]], []⟩ 8 (by kernel_rfl) (by kernel_rfl) (by kernel_rfl) (by kernel_rfl)) ?_
  intro W base args ds gs before hval0 hW hcnd _
  have hval : ∀ (j : Nat) t v, Tryz.f4.params[j]? = some t → args[j]? = some v → Value.okWide Tryz.prog W .any base t v := hval0
  have hW' := hW
  obtain ⟨p, q, hA0, hV, rfl, hfz, hnd⟩ := hW
  have hA : DataW.TrodAll enc Tryz.prog W 0 (fun _ => true) true Tryz.f4.params.toList args.toList ds p := hA0
  rw [Tryz.params4] at hA hval
  obtain ⟨v0, vs0, d0, ds0, p0, q0, hargs, rfl, rfl, h0, r0⟩ := trodAll_cons hA
  obtain ⟨v1, vs1, d1, ds1, p1, q1, rfl, rfl, rfl, h1, r1⟩ := trodAll_cons r0
  obtain ⟨v2, vs2, d2, ds2, p2, q2, rfl, rfl, rfl, h2, r2⟩ := trodAll_cons r1
  obtain ⟨rfl, rfl, rfl⟩ := trodAll_nil r2
  obtain rfl : args = #[v0, v1, v2] := by cases args; simp_all
  obtain ⟨rfl, rfl⟩ := trodVars_none hV
  have lt0 := arg_lt h0
  have k0 := h0
  obtain ⟨cs0, a0, rfl, w0⟩ := arg_agg (c := saiC) Tryz.underlying32 opens_saiC (hval 0 32 v0 rfl rfl) h0
  have lt1 := arg_lt h1
  have k1 := h1
  obtain ⟨a1, rfl, w1⟩ := arg_int Tryz.underlying3 (hval 1 3 v1 rfl rfl) h1
  have lt2 := arg_lt h2
  have k2 := h2
  obtain ⟨cs2, a2, rfl, w2⟩ := arg_agg (c := bkgC) Tryz.underlying42 opens_bkgC (hval 2 42 v2 rfl rfl) h2
  clear hA0 hval0
  refine (StockTells_walk W cs0 a0 w0 a1 w1 cs2 a2 w2).mono fun e W' ⟨he, bel⟩ => ?_
  subst he
  exact ⟨_, rfl, _, _, _, [], _, [], hW', trodAll_mk1 (shut_bool Tryz.underlying4 _), (trodAll_cons_mk (Below.trod laidOut (by kernel_rfl) (of_decide_eq_true (by kernel_rfl)) k0 bel lt0) (trodAll_cons_mk (Below.trod laidOut (by kernel_rfl) (of_decide_eq_true (by kernel_rfl)) k1 bel lt1) (trodAll_cons_mk (Below.trod laidOut (by kernel_rfl) (of_decide_eq_true (by kernel_rfl)) k2 bel lt2) trodAll_mk0))), rfl, bel.frame _, fun h => by cases h⟩

/-- THE GIVEN STATEMENT StockTells. -/
theorem stockTells_holds : Rows.StockTellsSaid :=
  OpenClaim.holds_of_wide 4 Tryz.f4 rfl rfl rfl rfl rfl rfl rfl ⟨rfl, rfl, rfl, rfl, rfl⟩ rfl rfl rfl rfl rfl (by kernel_rfl) Tryz.func4 (by kernel_rfl)
    (of_decide_eq_true (by kernel_rfl)) (by unfold Func.isWrapper; rw [if_neg (of_decide_eq_false (by kernel_rfl))]; exact ⟨rfl, rfl⟩)
    (fun os started H enc _ => StockTells_lifted os started H enc)
#print axioms stockTells_holds
end Go.Proofs.YtlablioefblmkaaGreat
