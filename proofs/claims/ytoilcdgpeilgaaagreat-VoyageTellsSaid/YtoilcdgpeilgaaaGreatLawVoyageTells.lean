/-
  The law VoyageTells returns true, whatever it is handed, and changes nothing that was there.
-/
import Derived.Test.YtoilcdgpeilgaaaGreatBun0
import Derived.Test.YtoilcdgpeilgaaaGreatBun31
import Derived.Test.YtoilcdgpeilgaaaGreatBun34
import Derived.Test.YtoilcdgpeilgaaaGreatBun35
import Derived.Test.YtoilcdgpeilgaaaGreatBun39
import Derived.BigQuiet
set_option linter.unusedSimpArgs false
set_option linter.unusedVariables false
namespace Go.Proofs.YtoilcdgpeilgaaaGreat
open Go.ChangeShapes Go.WideShapes Go.ChangeAt Go.RowKit Go.Shelf

theorem okS_two (e : Int) (x : Sai) : okS e (okS e x) = okS e x := by
  by_cases h : e = 0
  · subst h; rfl
  · rw [okS_ne h, okS_ne h]
/-- A late day, a closed sailing. -/
def lateE (u : Int) (b : Bool) : Int := if (u == 0 && b) = true then 4 else u
theorem turn_guard (x : Sai) (day : Int) : lateE (guardE (saiE x) (betB day 0 9999)) (decide (day ≤ x.day)) = turnEx x day := by
  unfold lateE guardE turnEx
  by_cases h0 : saiE x = 0
  · rw [h0]
    cases hb : betB day 0 9999 <;> by_cases h2 : day ≤ x.day <;> simp [h2]
  · simp [h0]
theorem close_guard (x : Sai) : lateE (saiE x) x.closed = closeEx x := by
  unfold lateE closeEx
  by_cases h0 : saiE x = 0
  · rw [h0, if_neg (c := (0 : Int) ≠ 0) (by simp)]
    cases x.closed <;> rfl
  · rw [if_pos h0, if_neg]
    simp [h0]
set_option maxRecDepth 100000 in
set_option maxHeartbeats 20000000 in
theorem VoyageTells_walk (W : World) (cs0 : Array Value) (x : Sai) (hx0 : saiC W All x cs0.toList) (day : Int) (iday : InI day) :
    Calls Tryz.prog 8 #[.agg cs0, .int .i64 day] W fun e w' => e = .returned (.bool true) ∧ Below W.heap.size W w' := by
  obtain ⟨p, rfl, hS, i1, i2, _, _⟩ := sai_in hx0
  obtain ⟨L, hLs, hLp⟩ := hS.bks.raw bkgC_good
  have HP1 := Lib.hid (fun X hX => Turn_any x p day X hX)
  have HP2 := Lib.hid (fun X hX => Close_any x p X hX)
  have HP3 := Lib.hid (fun X hX => Plan_any x p X hX)
  have HCS0 := Lib.hid (fun X hX => CheckSailing_any x p X hX)
  obtain ⟨r, hr⟩ : ∃ r, r = saiE x := ⟨_, rfl⟩
  obtain ⟨u1, hu1⟩ : ∃ r, r = guardE (saiE x) (betB day 0 9999) := ⟨_, rfl⟩
  obtain ⟨e1, he1⟩ : ∃ r, r = turnEx x day := ⟨_, rfl⟩
  obtain ⟨e2, he2⟩ : ∃ r, r = closeEx x := ⟨_, rfl⟩
  obtain ⟨X1, hX1⟩ : ∃ r, r = turnX x day := ⟨_, rfl⟩
  obtain ⟨X2, hX2⟩ : ∃ r, r = closeX x := ⟨_, rfl⟩
  obtain ⟨LI, hLI⟩ : ∃ r, r = okL (turnEx x day) (turnI x day) := ⟨_, rfl⟩
  obtain ⟨LP, hLPl⟩ : ∃ r, r = okL (saiE x) (planL x) := ⟨_, rfl⟩
  have HU1 := Lib.hid (show u1 = guardE r (betB day 0 9999) by rw [hu1, hr])
  have HE1 := Lib.hid (show lateE u1 (decide (day ≤ x.day)) = e1 by rw [hu1, he1]; exact turn_guard x day)
  have HE2 := Lib.hid (show lateE r x.closed = e2 by rw [hr, he2]; exact close_guard x)
  have hz1 : e1 = 0 → saiE x = 0 ∧ 0 ≤ day ∧ day ≤ 9999 := fun q => by
    rw [he1] at q
    unfold turnEx at q
    by_cases h0 : saiE x ≠ 0
    · rw [if_pos h0] at q; exact absurd q h0
    rw [if_neg h0] at q
    by_cases h1 : betB day 0 9999 = false
    · rw [if_pos h1] at q; omega
    exact ⟨Decidable.not_not.1 h0, betB_iff.1 (not_false_of h1)⟩
  have hz2 : e2 = 0 → saiE x = 0 := fun q => by
    rw [he2] at q
    unfold closeEx at q
    by_cases h0 : saiE x ≠ 0
    · rw [if_pos h0] at q; exact absurd q h0
    exact Decidable.not_not.1 h0
  have HR1 := Lib.hid (fun (q : e1 = 0) K X h1 h2 h3 h4 h5 => TurnOf_K K x p day L X h1 h2 h3 h4 h5 (sai_ok (hz1 q).1) (hz1 q).2)
  have HR2 := Lib.hid (fun (q : e2 = 0) K X h1 h2 h3 h4 h5 => CloseOf_K K x p L X h1 h2 h3 h4 h5 (sai_ok (hz2 q)))
  have HR3 := Lib.hid (fun (q : r = 0) X hX => PlanOf_any x p X hX (sai_ok (hr.symm.trans q)).bs.len)
  have HL0 := Lib.hid (show e1 = 0 → turnI x day = LI from fun q => by rw [hLI, show turnEx x day = 0 from he1.symm.trans q]; rfl)
  have HL1 := Lib.hid (show ¬ e1 = 0 → LI = [] from fun q => by rw [hLI]; exact okL_ne (fun h => q (he1.trans h)) _)
  have HM0 := Lib.hid (show r = 0 → planL x = LP from fun q => by rw [hLPl, show saiE x = 0 from hr.symm.trans q]; rfl)
  have HM1 := Lib.hid (show ¬ r = 0 → LP = [] from fun q => by rw [hLPl]; exact okL_ne (fun h => q (hr.trans h)) _)
  rw [← hr] at HCS0
  rw [← he1, ← hX1] at HP1
  rw [← he2, ← hX2] at HP2
  rw [← hLPl, ← hr] at HP3
  rw [← hX1] at HR1
  rw [← hX2] at HR2
  have HTI := Lib.hid (show okL e1 (turnI x day) = LI by rw [hLI, he1])
  have HS := Lib.hid hS
  have HLS := Lib.hid hLs
  have HLP := Lib.hid hLp
  obtain ⟨xd, hxd⟩ : ∃ q, q = x.day := ⟨_, rfl⟩
  obtain ⟨xc, hxc⟩ : ∃ q, q = x.closed := ⟨_, rfl⟩
  have HXD := Lib.hid hxd
  have HXC := Lib.hid hxc
  rw [← hxd] at HE1
  rw [← hxc] at HE2
  clear hr hu1 he1 he2 hX1 hX2 hLI hLPl hS hLs hLp hx0 i1 i2 iday hz1 hz2 hxd hxc
  obtain ⟨A, n, cap, B, m, cap2, D, nd, cd, E, ne, ce, C, nb, cb⟩ := p
  go_enter Tryz.func8, Tryz.ntmps8
  go_upto_region 0 with (fail)
  go_cut [2, 4] (fun p _ wx => ∃ g, p = .pointer (some ⟨g, 0, none⟩) ∧ Blk wx g (saiA x ⟨A, n, cap, B, m, cap2, D, nd, cd, E, ne, ce, C, nb, cb⟩) 32 ∧ Below W.heap.size W wx)
  case first => as_aux_lemma =>
    go_wp2_with fail
    go_meet
    exact ⟨_, rfl, blk1 _ _, bel1 _ _⟩
  obtain ⟨g, rfl, hG, hb0⟩ := hcut
  obtain ⟨W0, hW0⟩ : ∃ V, V = wc := ⟨_, rfl⟩
  subst hW0
  have HT := Lib.hid (fun X (hX : Below W0.heap.size W0 X) => hb0.trans (hX.mono hb0.size))
  have HG := Lib.hid (fun X (hX : Below W0.heap.size W0 X) => hG.bel hX)
  have HSX := Lib.hid (fun X (hX : Below W0.heap.size W0 X) => HS.out.bel (HT.out X hX))
  clear hG hb0
  have hb : Below W0.heap.size W0 W0 := Below.refl _ _
  go_upto_region 1 with (fail)
  go_cut [5, 6, 7] (fun q v e wx => e = .int .i64 e1 ∧ (∃ z y p', q = .pointer (some ⟨z, 0, none⟩) ∧ Blk wx z (saiA y p') 32 ∧ y = okS e1 X1 ∧ SaiR wx y p') ∧ (∃ A n c, v = .slice A n c ∧ Sl intC 1 wx All A n c LI) ∧ Below W0.heap.size W0 wx)
  case first =>
    have HC := Lib.hid (HP1.out _ (HSX.out _ hb))
    clear HP1 HP2 HP3 HCS0 HR1 HR2 HR3 HE1 HE2 HU1
    go_wp2_with (refine wpList_load_row rfl 32 (.tmp 2) rfl g rfl 32 _ (0, 0) _ (HG.out _ hb) Tryz.underlying32 rfl (by kernel_rfl) ?_)
    refine HC.out.mono ?_
    rintro e w8 ⟨⟨y, p', v, xs, rfl, hy, hO, hI⟩, hb8⟩
    rw [HTI.out] at hI
    obtain ⟨A5, n5, c5, rfl, hs⟩ := hI.sl intC_good
    have HS8 := Lib.hid (hs.all intC_good (by omega))
    have HO8 := Lib.hid hO.sai
    have HY8 := Lib.hid hy
    have HB8 := Lib.hid hb8
    clear hy hO hI hs hb8 HC
    go_wp2_with (refine wpList_store_row rfl 32 (.tmp 5) (.tmp 23) rfl w8.heap.size (saiA y p') rfl rfl 32 _ (Blk.new w8 #[.int .i64 0, .int .i64 0, .slice none 0 0, .slice none 0 0, .slice none 0 0, .int .i64 0, .int .i64 0, .slice none 0 0, .int .i64 0, .int .i64 0, .int .i64 0, .slice none 0 0, .bool false] 32) (by kernel_rfl) rfl (by simp [Value.oneCell']) ?_)
    go_meet
    have hbe : Below w8.heap.size w8 ((w8.alloc (.cells #[.int .i64 0, .int .i64 0, .slice none 0 0, .slice none 0 0, .slice none 0 0, .int .i64 0, .int .i64 0, .slice none 0 0, .int .i64 0, .int .i64 0, .int .i64 0, .slice none 0 0, .bool false] 32)).setRow w8.heap.size (saiA y p')) := below_setRow (bel1 w8 _) (Nat.le_refl _) _
    exact ⟨rfl, ⟨_, y, p', rfl, (Blk.new w8 _ _).row _, HY8.out, HO8.out.bel hbe⟩, ⟨A5, n5, c5, rfl, HS8.out.bel hbe⟩, HB8.out.trans (hbe.mono HB8.out.size)⟩
  obtain ⟨rfl, ⟨z1, y1, p1, rfl, hZ1, hy1, hS1⟩, ⟨A1, n1, c1, rfl, hI1⟩, hb1⟩ := hcut
  obtain ⟨W1, hW1⟩ : ∃ V, V = wc := ⟨_, rfl⟩
  subst hW1
  have HZ1 := Lib.hid hZ1
  have HS1 := Lib.hid hS1
  have HI1 := Lib.hid hI1
  have HY1 := Lib.hid hy1
  replace hb := hb1
  clear hZ1 hS1 hI1 hy1 hb1 HP1
  go_upto_region 2 with (fail)
  go_cut [8, 9] (fun q e wx => e = .int .i64 e2 ∧ (∃ z y p', q = .pointer (some ⟨z, 0, none⟩) ∧ Blk wx z (saiA y p') 32 ∧ y = okS e2 X2 ∧ SaiR wx y p') ∧ Below W1.heap.size W1 wx)
  case first =>
    have HC := Lib.hid (HP2.out _ (HSX.out _ hb))
    have HB4 := Lib.hid (Below.refl W1.heap.size W1)
    go_wp2_with (refine wpList_load_row rfl 32 (.tmp 2) rfl g rfl 32 _ (0, 0) _ (HG.out _ hb) Tryz.underlying32 rfl (by kernel_rfl) ?_)
    go_wp2_with fail
    refine HC.out.mono ?_
    rintro e w8 ⟨⟨y, p', rfl, hy, hO⟩, hb8⟩
    have HO8 := Lib.hid hO.sai
    have HY8 := Lib.hid hy
    have HB8 := Lib.hid (HB4.out.trans (hb8.mono HB4.out.size))
    clear hO hy hb8
    go_wp2_with (refine wpList_store_row rfl 32 (.tmp 8) (.tmp 29) rfl w8.heap.size (saiA y p') rfl rfl 32 _ (Blk.new w8 #[.int .i64 0, .int .i64 0, .slice none 0 0, .slice none 0 0, .slice none 0 0, .int .i64 0, .int .i64 0, .slice none 0 0, .int .i64 0, .int .i64 0, .int .i64 0, .slice none 0 0, .bool false] 32) (by kernel_rfl) rfl (by simp [Value.oneCell']) ?_)
    go_meet
    have hbe : Below w8.heap.size w8 ((w8.alloc (.cells #[.int .i64 0, .int .i64 0, .slice none 0 0, .slice none 0 0, .slice none 0 0, .int .i64 0, .int .i64 0, .slice none 0 0, .int .i64 0, .int .i64 0, .int .i64 0, .slice none 0 0, .bool false] 32)).setRow w8.heap.size (saiA y p')) := below_setRow (bel1 w8 _) (Nat.le_refl _) _
    exact ⟨rfl, ⟨_, y, p', rfl, (Blk.new w8 _ _).row _, HY8.out, HO8.out.bel hbe⟩, HB8.out.trans (hbe.mono HB8.out.size)⟩
  obtain ⟨rfl, ⟨z2, y2, p2, rfl, hZ2, hy2, hS2⟩, hbn⟩ := hcut
  obtain ⟨W2, hW2⟩ : ∃ V, V = wc := ⟨_, rfl⟩
  subst hW2
  have HZ2 := Lib.hid hZ2
  have HS2 := Lib.hid hS2
  have HY2 := Lib.hid hy2
  replace hb := hb.trans (hbn.mono hb.size)
  clear hZ2 hS2 hy2
  replace HZ1 := Lib.hid (HZ1.out.bel hbn)
  replace HS1 := Lib.hid (HS1.out.bel hbn)
  replace HI1 := Lib.hid (HI1.out.bel hbn)
  clear hbn HP2
  go_upto_region 3 with (fail)
  go_cut [10, 11] (fun v e wx => e = .int .i64 r ∧ (∃ A n c, v = .slice A n c ∧ Sl edgC 2 wx All A n c LP) ∧ Below W2.heap.size W2 wx)
  case first =>
    have HC := Lib.hid (HP3.out _ (HSX.out _ hb))
    go_wp2_with (refine wpList_load_row rfl 32 (.tmp 2) rfl g rfl 32 _ (0, 0) _ (HG.out _ hb) Tryz.underlying32 rfl (by kernel_rfl) ?_)
    refine HC.out.mono ?_
    rintro e w8 ⟨v, xs, rfl, hO, hb8⟩
    obtain ⟨A5, n5, c5, rfl, hs⟩ := hO.sl edgC_good
    have HS8 := Lib.hid (hs.all edgC_good (by omega))
    have HB8 := Lib.hid hb8
    clear hO hs hb8 HC
    go_wp2_with fail
    go_meet
    exact ⟨rfl, ⟨A5, n5, c5, rfl, HS8.out⟩, HB8.out⟩
  obtain ⟨rfl, ⟨A3, n3, c3, rfl, hI3⟩, hbn⟩ := hcut
  obtain ⟨W4, hW4⟩ : ∃ V, V = wc := ⟨_, rfl⟩
  subst hW4
  have HFA := Lib.hid (show ∀ V, Below W4.heap.size W4 V → ((Blk V z1 (saiA y1 p1) 32 ∧ SaiR V y1 p1) ∧ (Blk V z2 (saiA y2 p2) 32 ∧ SaiR V y2 p2)) ∧ Sl intC 1 V All A1 n1 c1 LI ∧ Sl edgC 2 V All A3 n3 c3 LP from fun V hV =>
    ⟨⟨⟨(HZ1.out.bel hbn).bel hV, (HS1.out.bel hbn).bel hV⟩, ⟨(HZ2.out.bel hbn).bel hV, (HS2.out.bel hbn).bel hV⟩⟩, (HI1.out.bel hbn).bel hV, hI3.bel hV⟩)
  replace hb := hb.trans (hbn.mono hb.size)
  clear hbn hI3 HZ1 HZ2 HS1 HS2 HI1 HP3
  have hx4 : Below W4.heap.size W4 W4 := Below.refl _ _
  have HC := Lib.hid (HCS0.out _ (HSX.out _ hb))
  go_wp2_with (refine wpList_load_row rfl 32 (.tmp 2) rfl g rfl 32 _ (0, 0) _ (HG.out _ hb) Tryz.underlying32 rfl (by kernel_rfl) ?_)
  refine HC.out.mono ?_
  rintro e w5 ⟨rfl, hb5⟩
  replace hx4 := hx4.trans (hb5.mono hx4.size)
  replace hb := hb.trans (hb5.mono hb.size)
  clear hb5 HC HCS0
  obtain ⟨W5, hW5⟩ : ∃ V, V = w5 := ⟨_, rfl⟩
  subst hW5
  have g9 : W5.cell? ⟨g, 9, none⟩ = some (.int .i64 xd) := by rw [HXD.out]; exact (HG.out _ hb).cell rfl
  have g12 : W5.cell? ⟨g, 12, none⟩ = some (.bool xc) := by rw [HXC.out]; exact (HG.out _ hb).cell rfl
  have HX5 := Lib.hid hx4
  have HB5 := Lib.hid hb
  clear hx4 hb
  obtain ⟨t1, ht1⟩ : ∃ q, q = (r == 0 && !betB day 0 9999) := ⟨_, rfl⟩
  have HT1 := Lib.hid ht1
  clear ht1
  go_upto_region 6 with (fail)
  go_cut [49] (fun q wx => q = .bool t1 ∧ W5 = wx)
  case first => as_aux_lemma =>
    by_cases h0 : r = 0
    · by_cases h1 : day < 0
      · obtain rfl : t1 = true := by rw [HT1.out, h0, betB_false (.inl h1)]; rfl
        have d1 : decide (day < 0) = true := decide_eq_true h1
        subst h0
        clear h1
        go_wp2_with fail
        go_meet
        exact ⟨rfl, rfl⟩
      · by_cases h2 : 9999 < day
        · obtain rfl : t1 = true := by rw [HT1.out, h0, betB_false (.inr h2)]; rfl
          have d1 : decide (day < 0) = false := decide_eq_false h1
          have d2 : decide (9999 < day) = true := decide_eq_true h2
          subst h0
          clear h1 h2
          go_wp2_with fail
          go_meet
          exact ⟨rfl, rfl⟩
        · obtain rfl : t1 = false := by rw [HT1.out, h0, betB_true (by omega) (by omega)]; rfl
          have d1 : decide (day < 0) = false := decide_eq_false h1
          have d2 : decide (9999 < day) = false := decide_eq_false h2
          subst h0
          clear h1 h2
          go_wp2_with fail
          go_meet
          exact ⟨rfl, rfl⟩
    · have h1 : (r == 0) = false := by simpa using h0
      obtain rfl : t1 = false := by rw [HT1.out, h1]; rfl
      clear h0
      go_wp2_with fail
      go_meet
      exact ⟨rfl, rfl⟩
  obtain ⟨rfl, rfl⟩ := hcut
  go_upto_if 49 with (fail)
  go_cut [13] (fun q wx => q = .int .i64 u1 ∧ W5 = wx)
  case first => as_aux_lemma =>
    cases t1
    · have h := guard_f HU1.out HT1.out
      go_wp2_with fail
      go_meet
      exact ⟨by rw [h], rfl⟩
    · have h := guard_t HU1.out HT1.out
      go_wp2_with fail
      go_meet
      exact ⟨by rw [h], rfl⟩
  obtain ⟨rfl, rfl⟩ := hcut
  obtain ⟨t2, ht2⟩ : ∃ q, q = (u1 == 0 && decide (day ≤ xd)) := ⟨_, rfl⟩
  have HT2 := Lib.hid ht2
  clear ht2
  go_upto_region 8 with (fail)
  go_cut [57] (fun q wx => q = .bool t2 ∧ W5 = wx)
  case first => as_aux_lemma =>
    by_cases h0 : u1 = 0
    · have hv : t2 = decide (day ≤ xd) := by rw [HT2.out, h0]; rfl
      have HV := Lib.hid hv
      have h1 : (u1 == 0) = true := by simpa using h0
      clear h0 hv
      go_wp2_with fail
      go_meet
      exact ⟨by rw [HV.out], rfl⟩
    · have h1 : (u1 == 0) = false := by simpa using h0
      obtain rfl : t2 = false := by rw [HT2.out, h1]; rfl
      clear h0
      go_wp2_with fail
      go_meet
      exact ⟨rfl, rfl⟩
  obtain ⟨rfl, rfl⟩ := hcut
  go_upto_if 57 with (fail)
  go_cut [13] (fun q wx => q = .int .i64 e1 ∧ W5 = wx)
  case first => as_aux_lemma =>
    have h := HE1.out
    unfold lateE at h
    rw [← HT2.out] at h
    have HH := Lib.hid h
    clear h
    cases t2
    · skip
      go_wp2_with fail
      go_meet
      exact ⟨by rw [← HH.out]; rfl, rfl⟩
    · skip
      go_wp2_with fail
      go_meet
      exact ⟨by rw [← HH.out]; rfl, rfl⟩
  obtain ⟨rfl, rfl⟩ := hcut
  obtain ⟨t3, ht3⟩ : ∃ q, q = (r == 0 && xc) := ⟨_, rfl⟩
  have HT3 := Lib.hid ht3
  clear ht3
  go_upto_region 10 with (fail)
  go_cut [63] (fun q wx => q = .bool t3 ∧ W5 = wx)
  case first => as_aux_lemma =>
    by_cases h0 : r = 0
    · have hv : t3 = xc := by rw [HT3.out, h0]; rfl
      have HV := Lib.hid hv
      have h1 : (r == 0) = true := by simpa using h0
      clear h0 hv
      go_wp2_with fail
      go_meet
      exact ⟨by rw [HV.out], rfl⟩
    · have h1 : (r == 0) = false := by simpa using h0
      obtain rfl : t3 = false := by rw [HT3.out, h1]; rfl
      clear h0
      go_wp2_with fail
      go_meet
      exact ⟨rfl, rfl⟩
  obtain ⟨rfl, rfl⟩ := hcut
  go_upto_if 63 with (fail)
  go_cut [14] (fun q wx => q = .int .i64 e2 ∧ W5 = wx)
  case first => as_aux_lemma =>
    have h := HE2.out
    unfold lateE at h
    rw [← HT3.out] at h
    have HH := Lib.hid h
    clear h
    cases t3
    · skip
      go_wp2_with fail
      go_meet
      exact ⟨by rw [← HH.out]; rfl, rfl⟩
    · skip
      go_wp2_with fail
      go_meet
      exact ⟨by rw [← HH.out]; rfl, rfl⟩
  obtain ⟨rfl, rfl⟩ := hcut
  clear g9 g12 HE1 HE2 HU1 HT1 HT2 HT3
  go_upto_region 12 with (fail)
  go_cut [15, 16] (fun p q wx => ∃ z5 z6, p = .pointer (some ⟨z5, 0, none⟩) ∧ q = .pointer (some ⟨z6, 0, none⟩) ∧ (W5.heap.size ≤ z5 ∧ z5 < z6) ∧ Blk wx z5 (saiA zeroS zeroP) 32 ∧ Blk wx z6 (saiA zeroS zeroP) 32 ∧ Below W5.heap.size W5 wx)
  case first => as_aux_lemma =>
    go_wp2_with fail
    go_meet
    exact ⟨_, _, rfl, rfl, ⟨Nat.le_refl _, by omega⟩, blk2_0 _ _ _, blk2_1 _ _ _, bel2 _ _ _⟩
  obtain ⟨z5, z6, rfl, rfl, ⟨o5, o6⟩, hZ5, hZ6, hb5⟩ := hcut
  obtain ⟨W6, hW6⟩ : ∃ V, V = wc := ⟨_, rfl⟩
  subst hW6
  have hs05 := HB5.out.size
  have hs45 := HX5.out.size
  have hl6 := hZ6.lt
  have HZ5 := Lib.hid hZ5
  have HZ6 := Lib.hid hZ6
  have hb := HB5.out.trans (hb5.mono HB5.out.size)
  have HX6 := Lib.hid (HX5.out.trans (hb5.mono HX5.out.size))
  have HB6 := Lib.hid hb
  clear hZ5 hZ6 hb5 HX5 HB5
  have HCL := Lib.hid (show ∀ V V', Below W0.heap.size W0 V → Below V.heap.size V V' → Below W0.heap.size W0 V' from fun V V' h1 h2 => h1.trans (h2.mono h1.size))
  have HPT := Lib.hid (show ∀ V, Below W0.heap.size W0 V → Pts bkgC V L x.bks from fun V hV => Pts.bel (size := 11) HLP.out (HT.out V hV))
  go_upto_if 65 with (fail)
  go_cut [15, 17] (fun b v wx => b = .pointer (some ⟨z5, 0, none⟩) ∧ (∃ y p', Blk wx z5 (saiA y p') 32 ∧ okS e1 y = okS e1 X1 ∧ (∀ V, Below W0.heap.size W0 V → NewSame W6 wx V → SaiR V y p')) ∧ (∃ vn xs, vn = v ∧ Own intC 1 3 wx W6.heap.size vn LI xs) ∧ Kept (fun k => k = z5) W6 wx)
  case first =>
    by_cases q0 : e1 = 0
    rotate_left
    · have q0' : (e1 == 0) = false := by simpa using q0
      have Q0 := Lib.hid q0
      clear q0
      go_wp2_with fail
      go_meet
      exact ⟨rfl, ⟨zeroS, zeroP, HZ5.out, by rw [okS_ne Q0.out, okS_ne Q0.out], fun V _ _ => zeroS_rd _⟩, ⟨_, [], rfl, by rw [HL1.out Q0.out]; exact Own.nil _ _ _ _ _⟩, Kept.refl _ _⟩
    have HC := Lib.hid (HR1.out q0 (fun V => Below W0.heap.size W0 V) _ HCL.out HSX.out HPT.out hb (HLS.out.bel (HT.out _ hb)))
    rw [HL0.out q0] at HC
    subst q0
    go_wp2_with (refine wpList_load_row rfl 32 (.tmp 2) rfl g rfl 32 _ (0, 0) _ (HG.out _ hb) Tryz.underlying32 rfl (by kernel_rfl) ?_)
    refine HC.out.mono ?_
    rintro e w7 ⟨⟨p', v, xs, rfl, hk, hO⟩, hb7⟩
    have HKw := Lib.hid hk
    have HOw := Lib.hid hO
    have HZw := Lib.hid (HZ5.out.bel hb7)
    have HBw := Lib.hid hb7
    clear hb7
    clear hk hO
    go_wp2_with (refine wpList_store_row rfl 32 (.tmp 15) (.tmp 70) rfl z5 (saiA X1 p') rfl rfl 32 _ HZw.out (by kernel_rfl) rfl (by simp [Value.oneCell']) ?_)
    go_meet
    have hKz : Kept (fun k => k = z5) w7 (w7.setRow z5 (saiA X1 p')) := (Kept.refl (fun k => k = z5) w7).setRow (.inl rfl) _
    exact ⟨rfl, ⟨X1, p', HZw.out.row _, rfl, fun V h1 h2 => HKw.out V h1 (fun b b1 b2 => (h2 b b1 (Nat.lt_of_lt_of_le b2 hKz.size)).trans (hKz.block b b2 (by omega)))⟩, ⟨v, xs, rfl, HOw.out.keepB intC_flat (fun j hj => hKz.block j (HOw.out.lt j hj).2 (by have := (HOw.out.lt j hj).1; omega))⟩, (Kept.of_below HBw.out (fun k hk h2 => absurd h2 (by omega))).trans hKz⟩
  obtain ⟨rfl, ⟨y5, p5, hZ5', hy5, hk5⟩, ⟨v5, xs5, rfl, hO5⟩, hK5⟩ := hcut
  obtain ⟨W7, hW7⟩ : ∃ V, V = wc := ⟨_, rfl⟩
  subst hW7
  have hs67 := hK5.size
  replace hb := hb.trans (hK5.below (B := W0.heap.size) hb.size (fun k hk e => by omega))
  have HZ6b := Lib.hid (HZ6.out.kept hK5 (by omega))
  have HZ5b := Lib.hid hZ5'
  have HY5 := Lib.hid hy5
  have HK5 := Lib.hid hk5
  have HKK5 := Lib.hid hK5
  have HO5 := Lib.hid hO5
  clear hZ5' hy5 hk5 hK5 hO5 HR1 HL0 HL1 HZ5 HZ6
  go_upto_if 73 with (fail)
  go_cut [16] (fun b wx => b = .pointer (some ⟨z6, 0, none⟩) ∧ (∃ y p', Blk wx z6 (saiA y p') 32 ∧ okS e2 y = okS e2 X2 ∧ (∀ V, Below W0.heap.size W0 V → NewSame W7 wx V → SaiR V y p')) ∧ Kept (fun k => k = z6) W7 wx)
  case first =>
    by_cases q0 : e2 = 0
    rotate_left
    · have q0' : (e2 == 0) = false := by simpa using q0
      have Q0 := Lib.hid q0
      clear q0
      go_wp2_with fail
      go_meet
      exact ⟨rfl, ⟨zeroS, zeroP, HZ6b.out, by rw [okS_ne Q0.out, okS_ne Q0.out], fun V _ _ => zeroS_rd _⟩, Kept.refl _ _⟩
    have HC := Lib.hid (HR2.out q0 (fun V => Below W0.heap.size W0 V) _ HCL.out HSX.out HPT.out hb (HLS.out.bel (HT.out _ hb)))
    subst q0
    go_wp2_with (refine wpList_load_row rfl 32 (.tmp 2) rfl g rfl 32 _ (0, 0) _ (HG.out _ hb) Tryz.underlying32 rfl (by kernel_rfl) ?_)
    refine HC.out.mono ?_
    rintro e w7 ⟨⟨p', rfl, hk⟩, hb7⟩
    have HKw := Lib.hid hk
    have HZw := Lib.hid (HZ6b.out.bel hb7)
    have HBw := Lib.hid hb7
    clear hb7
    clear hk
    go_wp2_with (refine wpList_store_row rfl 32 (.tmp 16) (.tmp 75) rfl z6 (saiA X2 p') rfl rfl 32 _ HZw.out (by kernel_rfl) rfl (by simp [Value.oneCell']) ?_)
    go_meet
    have hKz : Kept (fun k => k = z6) w7 (w7.setRow z6 (saiA X2 p')) := (Kept.refl (fun k => k = z6) w7).setRow (.inl rfl) _
    exact ⟨rfl, ⟨X2, p', HZw.out.row _, rfl, fun V h1 h2 => HKw.out V h1 (fun b b1 b2 => (h2 b b1 (Nat.lt_of_lt_of_le b2 hKz.size)).trans (hKz.block b b2 (by omega)))⟩, (Kept.of_below HBw.out (fun k hk h2 => absurd h2 (by omega))).trans hKz⟩
  obtain ⟨rfl, ⟨y6, p6, hZ6', hy6, hk6⟩, hK6⟩ := hcut
  obtain ⟨W8, hW8⟩ : ∃ V, V = wc := ⟨_, rfl⟩
  subst hW8
  have hs78 := hK6.size
  replace hb := hb.trans (hK6.below (B := W0.heap.size) hb.size (fun k hk e => by omega))
  have HK6 := Lib.hid hk6
  have HY6 := Lib.hid hy6
  have HZ6c := Lib.hid hZ6'
  have HKK6 := Lib.hid hK6
  clear hZ6' hy6 hk6 hK6 HR2 HZ6b
  go_upto_if 77 with (fail)
  go_cut [18] (fun v wx => (∃ A n c, v = .slice A n c ∧ Sl edgC 2 wx All A n c LP) ∧ Below W8.heap.size W8 wx)
  case first =>
    by_cases q0 : r = 0
    rotate_left
    · have q0' : (r == 0) = false := by simpa using q0
      have Q0 := Lib.hid q0
      clear q0
      go_wp2_with fail
      go_meet
      exact ⟨⟨_, _, _, rfl, by rw [HM1.out Q0.out]; exact Sl.nil _ _ _ _⟩, Below.refl _ _⟩
    have HC := Lib.hid (HR3.out q0 _ (HSX.out _ hb))
    rw [HM0.out q0] at HC
    subst q0
    go_wp2_with (refine wpList_load_row rfl 32 (.tmp 2) rfl g rfl 32 _ (0, 0) _ (HG.out _ hb) Tryz.underlying32 rfl (by kernel_rfl) ?_)
    refine HC.out.mono ?_
    rintro e w7 ⟨v, xs, rfl, hO, hb7⟩
    obtain ⟨A5, n5, c5, rfl, hs⟩ := hO.sl edgC_good
    have HS8 := Lib.hid (hs.all edgC_good (by omega))
    have HBw := Lib.hid hb7
    clear hb7
    clear hO hs HC
    go_wp2_with fail
    go_meet
    exact ⟨⟨A5, n5, c5, rfl, HS8.out⟩, HBw.out⟩
  obtain ⟨⟨A9, n9, c9, rfl, hI9⟩, hb9⟩ := hcut
  obtain ⟨W9, hW9⟩ : ∃ V, V = wc := ⟨_, rfl⟩
  subst hW9
  have hs89 := hb9.size
  replace hb := hb.trans (hb9.mono hb.size)
  have hr5 := HK5.out W9 hb (fun b b1 b2 => (hb9.block b (by omega)).trans (HKK6.out.block b (by omega) (by omega)))
  have hr6 := HK6.out W9 hb (fun b b1 b2 => hb9.block b (by omega))
  have hZ5 := (HZ5b.out.kept HKK6.out (by omega)).bel hb9
  have hZ6 := HZ6c.out.bel hb9
  have hO5 : Own intC 1 3 W9 W6.heap.size v5 LI xs5 := (HO5.out.keepB intC_flat (fun j hj => HKK6.out.block j (HO5.out.lt j hj).2 (by have := (HO5.out.lt j hj).1; omega)) : Own intC 1 3 W8 W6.heap.size v5 LI xs5).bel hb9
  obtain ⟨A5, n5, c5, rfl, hI5⟩ := hO5.sl intC_good
  have hI5 := hI5.all intC_good (by omega)
  have hb49 : Below W4.heap.size W4 W9 := HX6.out.trans (((HKK5.out.below (B := W4.heap.size) HX6.out.size (fun k hk e => by omega)).trans (HKK6.out.below (B := W4.heap.size) (by omega) (fun k hk e => by omega))).trans (hb9.mono (by omega)))
  have HFB := Lib.hid (show ∀ V, Below W9.heap.size W9 V → (Blk V z1 (saiA y1 p1) 32 ∧ SaiR V y1 p1) ∧ (Blk V z2 (saiA y2 p2) 32 ∧ SaiR V y2 p2) from fun V hV => (HFA.out V (hb49.trans (hV.mono hb49.size))).1)
  have HFZ := Lib.hid (show ∀ V, Below W9.heap.size W9 V → (Blk V z5 (saiA y5 p5) 32 ∧ SaiR V y5 p5) ∧ (Blk V z6 (saiA y6 p6) 32 ∧ SaiR V y6 p6) from fun V hV => ⟨⟨hZ5.bel hV, hr5.bel hV⟩, ⟨hZ6.bel hV, hr6.bel hV⟩⟩)
  have HFI := Lib.hid (show ∀ V, Below W9.heap.size W9 V → Sl intC 1 V All A1 n1 c1 LI ∧ Sl intC 1 V All A5 n5 c5 LI from fun V hV => ⟨(HFA.out V (hb49.trans (hV.mono hb49.size))).2.1, hI5.bel hV⟩)
  have HFE := Lib.hid (show ∀ V, Below W9.heap.size W9 V → Sl edgC 2 V All A3 n3 c3 LP ∧ Sl edgC 2 V All A9 n9 c9 LP from fun V hV => ⟨(HFA.out V (hb49.trans (hV.mono hb49.size))).2.2, hI9.bel hV⟩)
  have HV1 := Lib.hid (show y1 = okS e1 y5 by rw [HY1.out, HY5.out])
  have HV2 := Lib.hid (show y2 = okS e2 y6 by rw [HY2.out, HY6.out])
  have HTE := Lib.hid (show ∀ V, Below W9.heap.size W9 V → Below W.heap.size W V from fun V hV => HT.out _ (hb.trans (hV.mono hb.size)))
  have hdI : decide (LI = LI) = true := decide_eq_true rfl
  have hdP : decide (LP = LP) = true := decide_eq_true rfl
  clear hr5 hr6 hZ5 hZ6 hO5 hI5 hI9 hb9 hb hb49 HFA HY1 HY2 HY5 HY6 HX6 HB6 HZ5b HZ6c HK5 HK6 HKK5 HKK6 HO5 HR3 HM0 HM1
  go_wp2_with fail
  refine (voyageBegun_any _).mono ?_
  rintro e v1 ⟨rfl, hb⟩
  obtain ⟨a0, a1, a2, a3, a4, a5, a6, a7, a8, a9, a10, a11, a12⟩ := saiCells (HFB.out _ hb).1.1
  obtain ⟨f0, f1, f2, f3, f4, f5, f6, f7, f8, f9, f10, f11, f12⟩ := saiCells (HFZ.out _ hb).1.1
  have HC := Lib.hid (sailingIs_any y1 y5 p1 p5 e1 v1 (HFB.out _ hb).1.2 (HFZ.out _ hb).1.2 HV1.out)
  go_wp2_with fail
  refine HC.out.mono ?_
  rintro e v2 ⟨rfl, hbq⟩
  replace hb := hb.trans (hbq.mono hb.size)
  clear hbq HC a0 a1 a2 a3 a4 a5 a6 a7 a8 a9 a10 a11 a12 f0 f1 f2 f3 f4 f5 f6 f7 f8 f9 f10 f11 f12
  go_wp2_with fail
  refine (SameInts_any _ _ _ _ _ _ LI LI _ (HFI.out _ hb).1 (HFI.out _ hb).2).mono ?_
  rintro e v3 ⟨rfl, k, hk⟩
  replace hb : Below W9.heap.size W9 v3 := by rw [hk]; exact below_drewN hb _
  clear hk
  obtain ⟨a0, a1, a2, a3, a4, a5, a6, a7, a8, a9, a10, a11, a12⟩ := saiCells (HFB.out _ hb).2.1
  obtain ⟨f0, f1, f2, f3, f4, f5, f6, f7, f8, f9, f10, f11, f12⟩ := saiCells (HFZ.out _ hb).2.1
  have HC := Lib.hid (sailingIs_any y2 y6 p2 p6 e2 v3 (HFB.out _ hb).2.2 (HFZ.out _ hb).2.2 HV2.out)
  go_wp2_with fail
  refine HC.out.mono ?_
  rintro e v4 ⟨rfl, hbq⟩
  replace hb := hb.trans (hbq.mono hb.size)
  clear hbq HC a0 a1 a2 a3 a4 a5 a6 a7 a8 a9 a10 a11 a12 f0 f1 f2 f3 f4 f5 f6 f7 f8 f9 f10 f11 f12
  go_wp2_with fail
  refine (SameEdges_any _ _ _ _ _ _ LP LP _ (HFE.out _ hb).1 (HFE.out _ hb).2).mono ?_
  rintro e v5 ⟨rfl, k, hk⟩
  replace hb : Below W9.heap.size W9 v5 := by rw [hk]; exact below_drewN hb _
  clear hk
  go_wp2_with fail
  go_ret
  exact ⟨rfl, HTE.out _ hb⟩
set_option maxRecDepth 100000 in
theorem VoyageTells_lifted (os : Os) (started : os.Started) (H : Type) (enc : TypeId × Value → H) :
    ReturnsInHanded {} Tryz.checked os 8 .any (Rows.voyageTellsSpec.pre6 enc Tryz.prog Tryz.f8 Rows.voyageTellsRow.domain false) (Rows.voyageTellsSpec.post enc Tryz.prog Tryz.f8 false true false false) := by
  refine returnsInHanded_of_change (C := Tryz.checked) own started (by kernel_rfl) Tryz.func8
    (ChangeSpec.witness6 (enc := enc) (C := Tryz.checked) false ⟨#[], #[.agg #[.int .i64 0, .int .i64 0, .slice none 0 0, .slice none 0 0, .slice none 0 0, .int .i64 0, .int .i64 0, .slice none 0 0, .int .i64 0, .int .i64 0, .int .i64 0, .slice none 0 0, .bool false], .int .i64 0], []⟩ 8 (by kernel_rfl) (by kernel_rfl) (by kernel_rfl) (by kernel_rfl)) ?_
  intro W base args ds gs before hval0 hW hcnd _
  have hval : ∀ (j : Nat) t v, Tryz.f8.params[j]? = some t → args[j]? = some v → Value.okWide Tryz.prog W .any base t v := hval0
  have hW' := hW
  obtain ⟨p, q, hA0, hV, rfl, hfz, hnd⟩ := hW
  have hA : DataW.TrodAll enc Tryz.prog W 0 (fun _ => true) true Tryz.f8.params.toList args.toList ds p := hA0
  rw [Tryz.params8] at hA hval
  obtain ⟨v0, vs0, d0, ds0, p0, q0, hargs, rfl, rfl, h0, r0⟩ := trodAll_cons hA
  obtain ⟨v1, vs1, d1, ds1, p1, q1, rfl, rfl, rfl, h1, r1⟩ := trodAll_cons r0
  obtain ⟨rfl, rfl, rfl⟩ := trodAll_nil r1
  obtain rfl : args = #[v0, v1] := by cases args; simp_all
  obtain ⟨rfl, rfl⟩ := trodVars_none hV
  have lt0 := arg_lt h0
  have k0 := h0
  obtain ⟨cs0, a0, rfl, w0⟩ := arg_agg (c := saiC) Tryz.underlying32 opens_saiC (hval 0 32 v0 rfl rfl) h0
  have lt1 := arg_lt h1
  have k1 := h1
  obtain ⟨a1, rfl, w1⟩ := arg_int Tryz.underlying3 (hval 1 3 v1 rfl rfl) h1
  clear hA0 hval0
  refine (VoyageTells_walk W cs0 a0 w0 a1 w1).mono fun e W' ⟨he, bel⟩ => ?_
  subst he
  exact ⟨_, rfl, _, _, _, [], _, [], hW', trodAll_mk1 (shut_bool Tryz.underlying4 _), (trodAll_cons_mk (Below.trod laidOut (by kernel_rfl) (of_decide_eq_true (by kernel_rfl)) k0 bel lt0) (trodAll_cons_mk (Below.trod laidOut (by kernel_rfl) (of_decide_eq_true (by kernel_rfl)) k1 bel lt1) trodAll_mk0)), rfl, bel.frame _, fun h => by cases h⟩

theorem VoyageTells_fit1 : (Rows.voyageTellsRow.wf (OpenSpec.ofChange Rows.voyageTellsSpec) && Tryz.f8.params.all (Tryz.prog.readableRec ·) && namedTie Tryz.prog Rows.voyageTellsRow.named Rows.voyageTellsSpec.vars && (Rows.voyageTellsRow.stops == []) && (Tryz.prog.stops == []) && (Rows.voyageTellsRow.knobs == []) && (Tryz.prog.stopKnobs == [])) = true := by kernel_rfl
theorem VoyageTells_fit2 : ((Rows.voyageTellsRow.inPlace == Tryz.prog.inPlace 8) && (Rows.voyageTellsRow.unfollowed == Tryz.prog.unfollowed 8) && (Rows.voyageTellsRow.recurses == Tryz.prog.recurses 8) && (Rows.voyageTellsRow.named == Tryz.prog.varsNamed 8)) = true := by kernel_rfl
theorem VoyageTells_fit3 : ((Rows.voyageTellsRow.maps == (Tryz.f8.params.toList ++ Rows.voyageTellsSpec.plain.varTypes Tryz.prog).any (Tryz.prog.mapsRec ·)) && (Rows.voyageTellsRow.ifaces == (Tryz.f8.params.toList ++ Rows.voyageTellsSpec.plain.varTypes Tryz.prog).any (Tryz.prog.ifacesRec ·)) && (Rows.voyageTellsRow.mapsOut == Tryz.prog.mapsAmong Tryz.f8.resultTypes.toList) && (Rows.voyageTellsRow.loops == (Tryz.f8.params.toList ++ Rows.voyageTellsSpec.plain.varTypes Tryz.prog).any (Tryz.prog.loopsFrom ·)) && (Rows.voyageTellsRow.wideKeys == (Tryz.f8.params.toList ++ Rows.voyageTellsSpec.plain.varTypes Tryz.prog ++ Tryz.f8.resultTypes.toList).any (Tryz.prog.wideKeysFrom ·)) &&
    Rows.voyageTellsSpec.vars.all (Tryz.prog.varReadable ·) && Tryz.f8.resultTypes.all (fun t => Tryz.prog.readableRec t && decide (t < Tryz.prog.types.size)) && (Rows.voyageTellsRow.ifacesOut == Tryz.f8.resultTypes.toList.any (Tryz.prog.ifacesRec ·)) && (Rows.voyageTellsRow.loopsOut == Tryz.f8.resultTypes.toList.any (Tryz.prog.loopsFrom ·)) && (Rows.voyageTellsRow.plainKeys == Tryz.prog.plainKeys) && Rows.voyageTellsRow.shortTexts.isNone) = true := by kernel_rfl
theorem VoyageTells_fit4 : ((Rows.voyageTellsRow.lifted == Tryz.prog.liftsFinal) && (Tryz.prog.make == some Rows.voyageTellsRow.make)) = true := by kernel_rfl
theorem VoyageTells_fit5 : ((Rows.voyageTellsRow.kinds == (if Rows.voyageTellsRow.domain.isEmpty then [] else Tryz.f8.params.toList.map fun t => match Tryz.prog.underlying t with | some (.int k) => some k | _ => none)) && (Rows.voyageTellsRow.pinned == Rows.voyageTellsRow.pinnedBy) && (Rows.voyageTellsRow.veiled == (Tryz.f8.params.toList ++ Rows.voyageTellsSpec.plain.varTypes Tryz.prog ++ Tryz.f8.resultTypes.toList).any (Tryz.prog.veiledRec ·)) && Rows.voyageTellsRow.veiledFits Tryz.prog Tryz.f8.params.toList (Tryz.f8.params.toList ++ Rows.voyageTellsSpec.plain.varTypes Tryz.prog ++ Tryz.f8.resultTypes.toList)) = true := by kernel_rfl

set_option maxRecDepth 100000 in
/-- THE GIVEN STATEMENT VoyageTells. -/
theorem voyageTells_holds : Rows.VoyageTellsSaid :=
  OpenClaim.holds_of_wide 8 Tryz.f8 rfl rfl rfl rfl rfl rfl rfl ⟨rfl, rfl, rfl, rfl, rfl⟩ rfl rfl rfl rfl rfl (by kernel_rfl) Tryz.func8
    (joined_of VoyageTells_fit1 fit_laid fit_rows VoyageTells_fit2 VoyageTells_fit3 fit_heard fit_enter VoyageTells_fit4 VoyageTells_fit5)
    (of_decide_eq_true (by kernel_rfl)) (by unfold Func.isWrapper; rw [if_neg (of_decide_eq_false (by kernel_rfl))]; exact ⟨rfl, rfl⟩)
    (fun os started H enc _ => VoyageTells_lifted os started H enc)
#print axioms voyageTells_holds
end Go.Proofs.YtoilcdgpeilgaaaGreat
