/-
  The law ChangeTells returns true, whatever it is handed, and changes nothing that was there.
-/
import Derived.Test.YtoilcdgpeilgaaaGreatBun0
import Derived.Test.YtoilcdgpeilgaaaGreatBun25
import Derived.Test.YtoilcdgpeilgaaaGreatBun32
import Derived.Test.YtoilcdgpeilgaaaGreatBun34
import Derived.Test.YtoilcdgpeilgaaaGreatBun38
import Derived.BigQuiet
set_option linter.unusedSimpArgs false
set_option linter.unusedVariables false
namespace Go.Proofs.YtoilcdgpeilgaaaGreat
open Go.ChangeShapes Go.WideShapes Go.ChangeAt Go.RowKit Go.Shelf

theorem okS_two (e : Int) (x : Sai) : okS e (okS e x) = okS e x := by
  by_cases h : e = 0
  · subst h; rfl
  · rw [okS_ne h, okS_ne h]
theorem ch_bad {x : Sai} {t E : Int} (h : ¬ saiE x = 0) : chE x t E = saiE x := by unfold chE; rw [if_pos h]
set_option maxRecDepth 100000 in
set_option maxHeartbeats 20000000 in
theorem ChangeTells_walk (W : World) (cs0 : Array Value) (x : Sai) (hx0 : saiC W All x cs0.toList) (id : Int) (iid : InI id) (am : Int) (iam : InI am) (cbn : Int) (icb : InI cbn) :
    Calls Tryz.prog 5 #[.agg cs0, .int .i64 id, .int .i64 am, .int .i64 cbn] W fun e w' => e = .returned (.bool true) ∧ Below W.heap.size W w' := by
  obtain ⟨p, rfl, hS, i1, i2, _, _⟩ := sai_in hx0
  obtain ⟨L, hLs, hLp⟩ := hS.bks.raw bkgC_good
  have HP1 := Lib.hid (fun X hX => Sure_any x p id X hX iid)
  have HP2 := Lib.hid (fun X hX => Pay_any x p id am X hX iid iam)
  have HP3 := Lib.hid (fun X hX => CancelS_any x p id X hX iid)
  have HP4 := Lib.hid (fun X hX => Move_any x p id cbn X hX iid icb)
  have HCS0 := Lib.hid (fun X hX => CheckSailing_any x p X hX)
  obtain ⟨r, hr⟩ : ∃ r, r = saiE x := ⟨_, rfl⟩
  obtain ⟨e1, he1⟩ : ∃ r, r = sureEx x id := ⟨_, rfl⟩
  obtain ⟨e2, he2⟩ : ∃ r, r = paidEx x id am := ⟨_, rfl⟩
  obtain ⟨e3, he3⟩ : ∃ r, r = goneEx x id := ⟨_, rfl⟩
  obtain ⟨e4, he4⟩ : ∃ r, r = moveEx x id cbn := ⟨_, rfl⟩
  obtain ⟨X1, hX1⟩ : ∃ r, r = sureX x id := ⟨_, rfl⟩
  obtain ⟨X2, hX2⟩ : ∃ r, r = paidX x id am := ⟨_, rfl⟩
  obtain ⟨X3, hX3⟩ : ∃ r, r = goneX x id := ⟨_, rfl⟩
  obtain ⟨X4, hX4⟩ : ∃ r, r = moveX x id cbn := ⟨_, rfl⟩
  have HR1 := Lib.hid (fun (q : r = 0) K X h1 h2 h3 h4 h5 => SureOf_K K x p id X1 L X h1 h2 h3 h4 h5 (sai_ok (hr.symm.trans q)) hX1)
  have HR2 := Lib.hid (fun (q : r = 0) K X h1 h2 h3 h4 h5 => PayOf_K K x p id am X2 L X h1 h2 h3 h4 h5 (sai_ok (hr.symm.trans q)) hX2)
  have HR3 := Lib.hid (fun (q : r = 0) K X h1 h2 h3 h4 h5 => CancelBooking_K K x p id X3 L X h1 h2 h3 h4 h5 (sai_ok (hr.symm.trans q)) hX3)
  have HR4 := Lib.hid (fun (q : r = 0) K X h1 h2 h3 h4 h5 => MoveOf_K K x p id cbn X4 L X h1 h2 h3 h4 h5 (sai_ok (hr.symm.trans q)) icb hX4)
  have HE := Lib.hid (show r = 0 → chE1 x id (sureE (curB x id)) = e1 ∧ chE1 x id (paidE x (curB x id) am) = e2 ∧ chE1 x id (goneE x (curB x id) x.day) = e3 ∧ chE1 x id (moveE x (posI x.bks id) (curB x id) cbn) = e4 from fun q => by
    have q := hr.symm.trans q
    rw [he1, he2, he3, he4]
    exact ⟨(chE_ok q).symm, (chE_ok q).symm, (chE_ok q).symm, (chE_ok q).symm⟩)
  have HN := Lib.hid (show ¬ r = 0 → e1 = r ∧ e2 = r ∧ e3 = r ∧ e4 = r from fun q => by
    have q2 : ¬ saiE x = 0 := fun h => q (hr.trans h)
    rw [he1, he2, he3, he4, hr]
    exact ⟨ch_bad q2, ch_bad q2, ch_bad q2, ch_bad q2⟩)
  rw [← hr] at HCS0
  rw [← he1, ← hX1] at HP1
  rw [← he2, ← hX2] at HP2
  rw [← he3, ← hX3] at HP3
  rw [← he4, ← hX4] at HP4
  have HS := Lib.hid hS
  have HLS := Lib.hid hLs
  have HLP := Lib.hid hLp
  clear hr he1 he2 he3 he4 hX1 hX2 hX3 hX4 hS hLs hLp hx0 i1 i2 iid iam icb
  obtain ⟨A, n, cap, B, m, cap2, D, nd, cd, E, ne, ce, C, nb, cb⟩ := p
  go_enter Tryz.func5, Tryz.ntmps5
  go_upto_region 0 with (fail)
  go_cut [4, 8] (fun p _ wx => ∃ g, p = .pointer (some ⟨g, 0, none⟩) ∧ Blk wx g (saiA x ⟨A, n, cap, B, m, cap2, D, nd, cd, E, ne, ce, C, nb, cb⟩) 32 ∧ Below W.heap.size W wx)
  case first => as_aux_lemma =>
    go_wp2_with fail
    go_meet
    exact ⟨_, rfl, blk1 _ _, bel1 _ _⟩
  obtain ⟨g, rfl, hG, hb0⟩ := hcut
  obtain ⟨W0, hW0⟩ : ∃ V, V = wc := ⟨_, rfl⟩
  subst hW0
  have HT := Lib.hid (fun X (hX : Below W0.heap.size W0 X) => hb0.trans (hX.mono hb0.size))
  have HG := Lib.hid (fun X (hX : Below W0.heap.size W0 X) => hG.bel hX)
  have HSX := Lib.hid (fun X (hX : Below W0.heap.size W0 X) => HS.out.bel (HT.out X hX))
  clear hG hb0
  have hb : Below W0.heap.size W0 W0 := Below.refl _ _
  go_upto_region 1 with (fail)
  go_cut [9, 10] (fun q e wx => e = .int .i64 e1 ∧ (∃ z y p', q = .pointer (some ⟨z, 0, none⟩) ∧ Blk wx z (saiA y p') 32 ∧ y = okS e1 X1 ∧ SaiR wx y p') ∧ Below W0.heap.size W0 wx)
  case first =>
    have HC := Lib.hid (HP1.out _ (HSX.out _ hb))
    have HB4 := Lib.hid (Below.refl W0.heap.size W0)
    go_wp2_with (refine wpList_load_row rfl 32 (.tmp 4) rfl g rfl 32 _ (0, 0) _ (HG.out _ hb) Tryz.underlying32 rfl (by kernel_rfl) ?_)
    go_wp2_with fail
    refine HC.out.mono ?_
    rintro e w8 ⟨⟨y, p', rfl, hy, hO⟩, hb8⟩
    have HO8 := Lib.hid hO.sai
    have HY8 := Lib.hid hy
    have HB8 := Lib.hid (HB4.out.trans (hb8.mono HB4.out.size))
    clear hO hy hb8
    go_wp2_with (refine wpList_store_row rfl 32 (.tmp 9) (.tmp 29) rfl w8.heap.size (saiA y p') rfl rfl 32 _ (Blk.new w8 #[.int .i64 0, .int .i64 0, .slice none 0 0, .slice none 0 0, .slice none 0 0, .int .i64 0, .int .i64 0, .slice none 0 0, .int .i64 0, .int .i64 0, .int .i64 0, .slice none 0 0, .bool false] 32) (by kernel_rfl) rfl (by simp [Value.oneCell']) ?_)
    go_meet
    have hbe : Below w8.heap.size w8 ((w8.alloc (.cells #[.int .i64 0, .int .i64 0, .slice none 0 0, .slice none 0 0, .slice none 0 0, .int .i64 0, .int .i64 0, .slice none 0 0, .int .i64 0, .int .i64 0, .int .i64 0, .slice none 0 0, .bool false] 32)).setRow w8.heap.size (saiA y p')) := below_setRow (bel1 w8 _) (Nat.le_refl _) _
    exact ⟨rfl, ⟨_, y, p', rfl, (Blk.new w8 _ _).row _, HY8.out, HO8.out.bel hbe⟩, HB8.out.trans (hbe.mono HB8.out.size)⟩
  obtain ⟨rfl, ⟨z1, y1, p1, rfl, hZ1, hy1, hS1⟩, hbn⟩ := hcut
  obtain ⟨W1, hW1⟩ : ∃ V, V = wc := ⟨_, rfl⟩
  subst hW1
  have HZ1 := Lib.hid hZ1
  have HS1 := Lib.hid hS1
  have HY1 := Lib.hid hy1
  replace hb := hb.trans (hbn.mono hb.size)
  clear hZ1 hS1 hy1
  clear hbn
  go_upto_region 2 with (fail)
  go_cut [11, 12] (fun q e wx => e = .int .i64 e2 ∧ (∃ z y p', q = .pointer (some ⟨z, 0, none⟩) ∧ Blk wx z (saiA y p') 32 ∧ y = okS e2 X2 ∧ SaiR wx y p') ∧ Below W1.heap.size W1 wx)
  case first =>
    have HC := Lib.hid (HP2.out _ (HSX.out _ hb))
    have HB4 := Lib.hid (Below.refl W1.heap.size W1)
    go_wp2_with (refine wpList_load_row rfl 32 (.tmp 4) rfl g rfl 32 _ (0, 0) _ (HG.out _ hb) Tryz.underlying32 rfl (by kernel_rfl) ?_)
    go_wp2_with fail
    refine HC.out.mono ?_
    rintro e w8 ⟨⟨y, p', rfl, hy, hO⟩, hb8⟩
    have HO8 := Lib.hid hO.sai
    have HY8 := Lib.hid hy
    have HB8 := Lib.hid (HB4.out.trans (hb8.mono HB4.out.size))
    clear hO hy hb8
    go_wp2_with (refine wpList_store_row rfl 32 (.tmp 11) (.tmp 36) rfl w8.heap.size (saiA y p') rfl rfl 32 _ (Blk.new w8 #[.int .i64 0, .int .i64 0, .slice none 0 0, .slice none 0 0, .slice none 0 0, .int .i64 0, .int .i64 0, .slice none 0 0, .int .i64 0, .int .i64 0, .int .i64 0, .slice none 0 0, .bool false] 32) (by kernel_rfl) rfl (by simp [Value.oneCell']) ?_)
    go_meet
    have hbe : Below w8.heap.size w8 ((w8.alloc (.cells #[.int .i64 0, .int .i64 0, .slice none 0 0, .slice none 0 0, .slice none 0 0, .int .i64 0, .int .i64 0, .slice none 0 0, .int .i64 0, .int .i64 0, .int .i64 0, .slice none 0 0, .bool false] 32)).setRow w8.heap.size (saiA y p')) := below_setRow (bel1 w8 _) (Nat.le_refl _) _
    exact ⟨rfl, ⟨_, y, p', rfl, (Blk.new w8 _ _).row _, HY8.out, HO8.out.bel hbe⟩, HB8.out.trans (hbe.mono HB8.out.size)⟩
  obtain ⟨rfl, ⟨z2, y2, p2, rfl, hZ2, hy2, hS2⟩, hbn⟩ := hcut
  obtain ⟨W2, hW2⟩ : ∃ V, V = wc := ⟨_, rfl⟩
  subst hW2
  have HZ2 := Lib.hid hZ2
  have HS2 := Lib.hid hS2
  have HY2 := Lib.hid hy2
  replace hb := hb.trans (hbn.mono hb.size)
  clear hZ2 hS2 hy2
  replace HZ1 := Lib.hid (HZ1.out.bel hbn)
  replace HS1 := Lib.hid (HS1.out.bel hbn)
  clear hbn
  go_upto_region 3 with (fail)
  go_cut [13, 14] (fun q e wx => e = .int .i64 e3 ∧ (∃ z y p', q = .pointer (some ⟨z, 0, none⟩) ∧ Blk wx z (saiA y p') 32 ∧ y = okS e3 X3 ∧ SaiR wx y p') ∧ Below W2.heap.size W2 wx)
  case first =>
    have HC := Lib.hid (HP3.out _ (HSX.out _ hb))
    have HB4 := Lib.hid (Below.refl W2.heap.size W2)
    go_wp2_with (refine wpList_load_row rfl 32 (.tmp 4) rfl g rfl 32 _ (0, 0) _ (HG.out _ hb) Tryz.underlying32 rfl (by kernel_rfl) ?_)
    go_wp2_with fail
    refine HC.out.mono ?_
    rintro e w8 ⟨⟨y, p', rfl, hy, hO⟩, hb8⟩
    have HO8 := Lib.hid hO.sai
    have HY8 := Lib.hid hy
    have HB8 := Lib.hid (HB4.out.trans (hb8.mono HB4.out.size))
    clear hO hy hb8
    go_wp2_with (refine wpList_store_row rfl 32 (.tmp 13) (.tmp 42) rfl w8.heap.size (saiA y p') rfl rfl 32 _ (Blk.new w8 #[.int .i64 0, .int .i64 0, .slice none 0 0, .slice none 0 0, .slice none 0 0, .int .i64 0, .int .i64 0, .slice none 0 0, .int .i64 0, .int .i64 0, .int .i64 0, .slice none 0 0, .bool false] 32) (by kernel_rfl) rfl (by simp [Value.oneCell']) ?_)
    go_meet
    have hbe : Below w8.heap.size w8 ((w8.alloc (.cells #[.int .i64 0, .int .i64 0, .slice none 0 0, .slice none 0 0, .slice none 0 0, .int .i64 0, .int .i64 0, .slice none 0 0, .int .i64 0, .int .i64 0, .int .i64 0, .slice none 0 0, .bool false] 32)).setRow w8.heap.size (saiA y p')) := below_setRow (bel1 w8 _) (Nat.le_refl _) _
    exact ⟨rfl, ⟨_, y, p', rfl, (Blk.new w8 _ _).row _, HY8.out, HO8.out.bel hbe⟩, HB8.out.trans (hbe.mono HB8.out.size)⟩
  obtain ⟨rfl, ⟨z3, y3, p3, rfl, hZ3, hy3, hS3⟩, hbn⟩ := hcut
  obtain ⟨W3, hW3⟩ : ∃ V, V = wc := ⟨_, rfl⟩
  subst hW3
  have HZ3 := Lib.hid hZ3
  have HS3 := Lib.hid hS3
  have HY3 := Lib.hid hy3
  replace hb := hb.trans (hbn.mono hb.size)
  clear hZ3 hS3 hy3
  replace HZ1 := Lib.hid (HZ1.out.bel hbn)
  replace HS1 := Lib.hid (HS1.out.bel hbn)
  replace HZ2 := Lib.hid (HZ2.out.bel hbn)
  replace HS2 := Lib.hid (HS2.out.bel hbn)
  clear hbn
  go_upto_region 4 with (fail)
  go_cut [15, 16] (fun q e wx => e = .int .i64 e4 ∧ (∃ z y p', q = .pointer (some ⟨z, 0, none⟩) ∧ Blk wx z (saiA y p') 32 ∧ y = okS e4 X4 ∧ SaiR wx y p') ∧ Below W3.heap.size W3 wx)
  case first =>
    have HC := Lib.hid (HP4.out _ (HSX.out _ hb))
    have HB4 := Lib.hid (Below.refl W3.heap.size W3)
    go_wp2_with (refine wpList_load_row rfl 32 (.tmp 4) rfl g rfl 32 _ (0, 0) _ (HG.out _ hb) Tryz.underlying32 rfl (by kernel_rfl) ?_)
    go_wp2_with fail
    refine HC.out.mono ?_
    rintro e w8 ⟨⟨y, p', rfl, hy, hO⟩, hb8⟩
    have HO8 := Lib.hid hO.sai
    have HY8 := Lib.hid hy
    have HB8 := Lib.hid (HB4.out.trans (hb8.mono HB4.out.size))
    clear hO hy hb8
    go_wp2_with (refine wpList_store_row rfl 32 (.tmp 15) (.tmp 49) rfl w8.heap.size (saiA y p') rfl rfl 32 _ (Blk.new w8 #[.int .i64 0, .int .i64 0, .slice none 0 0, .slice none 0 0, .slice none 0 0, .int .i64 0, .int .i64 0, .slice none 0 0, .int .i64 0, .int .i64 0, .int .i64 0, .slice none 0 0, .bool false] 32) (by kernel_rfl) rfl (by simp [Value.oneCell']) ?_)
    go_meet
    have hbe : Below w8.heap.size w8 ((w8.alloc (.cells #[.int .i64 0, .int .i64 0, .slice none 0 0, .slice none 0 0, .slice none 0 0, .int .i64 0, .int .i64 0, .slice none 0 0, .int .i64 0, .int .i64 0, .int .i64 0, .slice none 0 0, .bool false] 32)).setRow w8.heap.size (saiA y p')) := below_setRow (bel1 w8 _) (Nat.le_refl _) _
    exact ⟨rfl, ⟨_, y, p', rfl, (Blk.new w8 _ _).row _, HY8.out, HO8.out.bel hbe⟩, HB8.out.trans (hbe.mono HB8.out.size)⟩
  obtain ⟨rfl, ⟨z4, y4, p4, rfl, hZ4, hy4, hS4⟩, hbn⟩ := hcut
  obtain ⟨W4, hW4⟩ : ∃ V, V = wc := ⟨_, rfl⟩
  subst hW4
  have HZ4 := Lib.hid hZ4
  have HS4 := Lib.hid hS4
  have HY4 := Lib.hid hy4
  replace hb := hb.trans (hbn.mono hb.size)
  clear hZ4 hS4 hy4
  replace HZ1 := Lib.hid (HZ1.out.bel hbn)
  replace HS1 := Lib.hid (HS1.out.bel hbn)
  replace HZ2 := Lib.hid (HZ2.out.bel hbn)
  replace HS2 := Lib.hid (HS2.out.bel hbn)
  replace HZ3 := Lib.hid (HZ3.out.bel hbn)
  replace HS3 := Lib.hid (HS3.out.bel hbn)
  clear hbn HP1 HP2 HP3 HP4
  have HFA := Lib.hid (show ∀ V, Below W4.heap.size W4 V → (Blk V z1 (saiA y1 p1) 32 ∧ SaiR V y1 p1) ∧ (Blk V z2 (saiA y2 p2) 32 ∧ SaiR V y2 p2) ∧ (Blk V z3 (saiA y3 p3) 32 ∧ SaiR V y3 p3) ∧ (Blk V z4 (saiA y4 p4) 32 ∧ SaiR V y4 p4) from fun V hV =>
    ⟨⟨HZ1.out.bel hV, HS1.out.bel hV⟩, ⟨HZ2.out.bel hV, HS2.out.bel hV⟩, ⟨HZ3.out.bel hV, HS3.out.bel hV⟩, ⟨HZ4.out.bel hV, HS4.out.bel hV⟩⟩)
  clear HZ1 HZ2 HZ3 HZ4 HS1 HS2 HS3 HS4
  have hx4 : Below W4.heap.size W4 W4 := Below.refl _ _
  have HC := Lib.hid (HCS0.out _ (HSX.out _ hb))
  go_wp2_with (refine wpList_load_row rfl 32 (.tmp 4) rfl g rfl 32 _ (0, 0) _ (HG.out _ hb) Tryz.underlying32 rfl (by kernel_rfl) ?_)
  refine HC.out.mono ?_
  rintro e w5 ⟨rfl, hb5⟩
  replace hx4 := hx4.trans (hb5.mono hx4.size)
  replace hb := hb.trans (hb5.mono hb.size)
  clear hb5 HC HCS0
  go_upto_region 7 with (fail)
  obtain ⟨W5, hW5⟩ : ∃ V, V = w5 := ⟨_, rfl⟩
  subst hW5
  go_cut [21, 22, 23, 24] (fun p q p2 q2 wx => ∃ z5 z6 z7 z8, p = .pointer (some ⟨z5, 0, none⟩) ∧ q = .pointer (some ⟨z6, 0, none⟩) ∧ p2 = .pointer (some ⟨z7, 0, none⟩) ∧ q2 = .pointer (some ⟨z8, 0, none⟩) ∧ (W5.heap.size ≤ z5 ∧ z5 < z6 ∧ z6 < z7 ∧ z7 < z8) ∧ Blk wx z5 (saiA zeroS zeroP) 32 ∧ Blk wx z6 (saiA zeroS zeroP) 32 ∧ Blk wx z7 (saiA zeroS zeroP) 32 ∧ Blk wx z8 (saiA zeroS zeroP) 32 ∧ Below W5.heap.size W5 wx)
  case first => as_aux_lemma =>
    go_wp2_with fail
    go_meet
    exact ⟨_, _, _, _, rfl, rfl, rfl, rfl, ⟨Nat.le_refl _, by omega, by omega, by omega⟩, ((Blk.new W5 _ _).old _).old _ |>.old _, ((Blk.new1 W5 _ _ _).old _).old _, (Blk.new2 W5 _ _ _ _).old _, Blk.new3 W5 _ _ _ _ _, (bel3 W5 _ _ _).alloc (by simp; omega) _⟩
  obtain ⟨z5, z6, z7, z8, rfl, rfl, rfl, rfl, ⟨o5, o6, o7, o8⟩, hZ5, hZ6, hZ7, hZ8, hb5⟩ := hcut
  obtain ⟨W6, hW6⟩ : ∃ V, V = wc := ⟨_, rfl⟩
  subst hW6
  have hs4 := hx4.size
  have hl8 := hZ8.lt
  have hs0 := hb.size
  have HZ5 := Lib.hid hZ5
  have HZ6 := Lib.hid hZ6
  have HZ7 := Lib.hid hZ7
  have HZ8 := Lib.hid hZ8
  replace hx4 := hx4.trans (hb5.mono hx4.size)
  replace hb := hb.trans (hb5.mono hb.size)
  have HX6 := Lib.hid hx4
  have HB6 := Lib.hid hb
  clear hZ5 hZ6 hZ7 hZ8 hb5 hx4
  go_upto_if 57 with (fail)
  go_cut [17, 18, 19, 20, 21, 22, 23, 24] (fun q1 q2 q3 q4 b1 b2 b3 b4 wx => q1 = .int .i64 e1 ∧ q2 = .int .i64 e2 ∧ q3 = .int .i64 e3 ∧ q4 = .int .i64 e4 ∧ b1 = .pointer (some ⟨z5, 0, none⟩) ∧ b2 = .pointer (some ⟨z6, 0, none⟩) ∧ b3 = .pointer (some ⟨z7, 0, none⟩) ∧ b4 = .pointer (some ⟨z8, 0, none⟩) ∧
    (∃ y p', Blk wx z5 (saiA y p') 32 ∧ okS e1 y = okS e1 X1 ∧ SaiR wx y p') ∧ (∃ y p', Blk wx z6 (saiA y p') 32 ∧ okS e2 y = okS e2 X2 ∧ SaiR wx y p') ∧ (∃ y p', Blk wx z7 (saiA y p') 32 ∧ okS e3 y = okS e3 X3 ∧ SaiR wx y p') ∧ (∃ y p', Blk wx z8 (saiA y p') 32 ∧ okS e4 y = okS e4 X4 ∧ SaiR wx y p') ∧ Kept (fun k => z5 ≤ k) W6 wx)
  case first =>
    by_cases q0 : r = 0
    rotate_left
    · obtain ⟨a1, a2, a3, a4⟩ := HN.out q0
      have q0' : (r == 0) = false := by simpa using q0
      have Q0 := Lib.hid q0
      have A1 := Lib.hid a1
      have A2 := Lib.hid a2
      have A3 := Lib.hid a3
      have A4 := Lib.hid a4
      clear q0 a1 a2 a3 a4
      go_wp2_with fail
      go_meet
      exact ⟨by rw [A1.out], by rw [A2.out], by rw [A3.out], by rw [A4.out], rfl, rfl, rfl, rfl, ⟨zeroS, zeroP, HZ5.out, by rw [A1.out, okS_ne Q0.out, okS_ne Q0.out], zeroS_rd _⟩, ⟨zeroS, zeroP, HZ6.out, by rw [A2.out, okS_ne Q0.out, okS_ne Q0.out], zeroS_rd _⟩, ⟨zeroS, zeroP, HZ7.out, by rw [A3.out, okS_ne Q0.out, okS_ne Q0.out], zeroS_rd _⟩, ⟨zeroS, zeroP, HZ8.out, by rw [A4.out, okS_ne Q0.out, okS_ne Q0.out], zeroS_rd _⟩, Kept.refl _ _⟩
    obtain ⟨f1, f2, f3, f4⟩ := HE.out q0
    have HQ1 := Lib.hid (HR1.out q0)
    have HQ2 := Lib.hid (HR2.out q0)
    have HQ3 := Lib.hid (HR3.out q0)
    have HQ4 := Lib.hid (HR4.out q0)
    rw [f1] at HQ1
    rw [f2] at HQ2
    rw [f3] at HQ3
    rw [f4] at HQ4
    subst q0
    clear f1 f2 f3 f4 HR1 HR2 HR3 HR4
    have hs6 := hb.size
    have HCL := Lib.hid (show ∀ V V', Below W0.heap.size W0 V → Below V.heap.size V V' → Below W0.heap.size W0 V' from fun V V' h1 h2 => h1.trans (h2.mono h1.size))
    have HPT := Lib.hid (show ∀ V, Below W0.heap.size W0 V → Pts bkgC V L x.bks from fun V hV => Pts.bel (size := 11) HLP.out (HT.out V hV))
    have HC := Lib.hid (HQ1.out (fun V => Below W0.heap.size W0 V) _ HCL.out HSX.out HPT.out hb (HLS.out.bel (HT.out _ hb)))
    go_upto_region 9 with (fail)
    go_cut [17, 21] (fun p q wx => p = .int .i64 e1 ∧ q = .pointer (some ⟨z5, 0, none⟩) ∧ (∃ y p', Blk wx z5 (saiA y p') 32 ∧ y = okS e1 X1 ∧ (∀ V, Below W0.heap.size W0 V → NewSame W6 wx V → SaiR V y p')) ∧ Kept (fun k => k = z5) W6 wx)
    case first =>
      go_wp2_with (refine wpList_load_row rfl 32 (.tmp 4) rfl g rfl 32 _ (0, 0) _ (HG.out _ hb) Tryz.underlying32 rfl (by kernel_rfl) ?_)
      refine HC.out.mono ?_
      rintro e w7 ⟨⟨y, p', rfl, hy, hk⟩, hb7⟩
      have HKw := Lib.hid hk
      have HYw := Lib.hid hy
      have HZw := Lib.hid (HZ5.out.bel hb7)
      have HBw := Lib.hid hb7
      clear hb7
      clear hk hy
      go_wp2_with (refine wpList_store_row rfl 32 (.tmp 21) (.tmp 62) rfl z5 (saiA y p') rfl rfl 32 _ HZw.out (by kernel_rfl) rfl (by simp [Value.oneCell']) ?_)
      go_meet
      have hKz : Kept (fun k => k = z5) w7 (w7.setRow z5 (saiA y p')) := (Kept.refl (fun k => k = z5) w7).setRow (.inl rfl) _
      have hzl : z5 < W6.heap.size := HZ5.out.lt
      exact ⟨rfl, rfl, ⟨y, p', HZw.out.row _, HYw.out, fun V h1 h2 => HKw.out V h1 (fun b b1 b2 => (h2 b b1 (Nat.lt_of_lt_of_le b2 hKz.size)).trans (hKz.block b b2 (by omega)))⟩, (Kept.of_below HBw.out (fun k hk h2 => absurd h2 (by omega))).trans hKz⟩
    obtain ⟨rfl, rfl, ⟨y15, p15, hZ15, hy15, hk15⟩, hK15⟩ := hcut
    obtain ⟨W7, hW7⟩ : ∃ V, V = wc := ⟨_, rfl⟩
    subst hW7
    have hsz15 := hK15.size
    have HZ15 := Lib.hid hZ15
    have HY15 := Lib.hid hy15
    have HK15 := Lib.hid hk15
    have HKK15 := Lib.hid hK15
    replace hb := hb.trans (hK15.below (B := W0.heap.size) hb.size (fun k hk e => by omega))
    clear hZ15 hy15 hk15 HC
    replace HZ6 := Lib.hid (HZ6.out.kept HKK15.out (by omega))
    replace HZ7 := Lib.hid (HZ7.out.kept HKK15.out (by omega))
    replace HZ8 := Lib.hid (HZ8.out.kept HKK15.out (by omega))
    have HC := Lib.hid (HQ2.out (fun V => Below W0.heap.size W0 V) _ HCL.out HSX.out HPT.out hb (HLS.out.bel (HT.out _ hb)))
    go_upto_region 10 with (fail)
    go_cut [18, 22] (fun p q wx => p = .int .i64 e2 ∧ q = .pointer (some ⟨z6, 0, none⟩) ∧ (∃ y p', Blk wx z6 (saiA y p') 32 ∧ y = okS e2 X2 ∧ (∀ V, Below W0.heap.size W0 V → NewSame W7 wx V → SaiR V y p')) ∧ Kept (fun k => k = z6) W7 wx)
    case first =>
      go_wp2_with (refine wpList_load_row rfl 32 (.tmp 4) rfl g rfl 32 _ (0, 0) _ (HG.out _ hb) Tryz.underlying32 rfl (by kernel_rfl) ?_)
      refine HC.out.mono ?_
      rintro e w7 ⟨⟨y, p', rfl, hy, hk⟩, hb7⟩
      have HKw := Lib.hid hk
      have HYw := Lib.hid hy
      have HZw := Lib.hid (HZ6.out.bel hb7)
      have HBw := Lib.hid hb7
      clear hb7
      clear hk hy
      go_wp2_with (refine wpList_store_row rfl 32 (.tmp 22) (.tmp 69) rfl z6 (saiA y p') rfl rfl 32 _ HZw.out (by kernel_rfl) rfl (by simp [Value.oneCell']) ?_)
      go_meet
      have hKz : Kept (fun k => k = z6) w7 (w7.setRow z6 (saiA y p')) := (Kept.refl (fun k => k = z6) w7).setRow (.inl rfl) _
      have hzl : z6 < W7.heap.size := HZ6.out.lt
      exact ⟨rfl, rfl, ⟨y, p', HZw.out.row _, HYw.out, fun V h1 h2 => HKw.out V h1 (fun b b1 b2 => (h2 b b1 (Nat.lt_of_lt_of_le b2 hKz.size)).trans (hKz.block b b2 (by omega)))⟩, (Kept.of_below HBw.out (fun k hk h2 => absurd h2 (by omega))).trans hKz⟩
    obtain ⟨rfl, rfl, ⟨y16, p16, hZ16, hy16, hk16⟩, hK16⟩ := hcut
    obtain ⟨W8, hW8⟩ : ∃ V, V = wc := ⟨_, rfl⟩
    subst hW8
    have hsz16 := hK16.size
    have HZ16 := Lib.hid hZ16
    have HY16 := Lib.hid hy16
    have HK16 := Lib.hid hk16
    have HKK16 := Lib.hid hK16
    replace hb := hb.trans (hK16.below (B := W0.heap.size) hb.size (fun k hk e => by omega))
    clear hZ16 hy16 hk16 HC
    replace HZ15 := Lib.hid (HZ15.out.kept HKK16.out (by omega))
    replace HZ7 := Lib.hid (HZ7.out.kept HKK16.out (by omega))
    replace HZ8 := Lib.hid (HZ8.out.kept HKK16.out (by omega))
    have HC := Lib.hid (HQ3.out (fun V => Below W0.heap.size W0 V) _ HCL.out HSX.out HPT.out hb (HLS.out.bel (HT.out _ hb)))
    go_upto_region 11 with (fail)
    go_cut [19, 23] (fun p q wx => p = .int .i64 e3 ∧ q = .pointer (some ⟨z7, 0, none⟩) ∧ (∃ y p', Blk wx z7 (saiA y p') 32 ∧ y = okS e3 X3 ∧ (∀ V, Below W0.heap.size W0 V → NewSame W8 wx V → SaiR V y p')) ∧ Kept (fun k => k = z7) W8 wx)
    case first =>
      go_wp2_with (refine wpList_load_row rfl 32 (.tmp 4) rfl g rfl 32 _ (0, 0) _ (HG.out _ hb) Tryz.underlying32 rfl (by kernel_rfl) ?_)
      refine HC.out.mono ?_
      rintro e w7 ⟨⟨y, p', rfl, hy, hk⟩, hb7⟩
      have HKw := Lib.hid hk
      have HYw := Lib.hid hy
      have HZw := Lib.hid (HZ7.out.bel hb7)
      have HBw := Lib.hid hb7
      clear hb7
      clear hk hy
      go_wp2_with (refine wpList_store_row rfl 32 (.tmp 23) (.tmp 75) rfl z7 (saiA y p') rfl rfl 32 _ HZw.out (by kernel_rfl) rfl (by simp [Value.oneCell']) ?_)
      go_meet
      have hKz : Kept (fun k => k = z7) w7 (w7.setRow z7 (saiA y p')) := (Kept.refl (fun k => k = z7) w7).setRow (.inl rfl) _
      have hzl : z7 < W8.heap.size := HZ7.out.lt
      exact ⟨rfl, rfl, ⟨y, p', HZw.out.row _, HYw.out, fun V h1 h2 => HKw.out V h1 (fun b b1 b2 => (h2 b b1 (Nat.lt_of_lt_of_le b2 hKz.size)).trans (hKz.block b b2 (by omega)))⟩, (Kept.of_below HBw.out (fun k hk h2 => absurd h2 (by omega))).trans hKz⟩
    obtain ⟨rfl, rfl, ⟨y17, p17, hZ17, hy17, hk17⟩, hK17⟩ := hcut
    obtain ⟨W9, hW9⟩ : ∃ V, V = wc := ⟨_, rfl⟩
    subst hW9
    have hsz17 := hK17.size
    have HZ17 := Lib.hid hZ17
    have HY17 := Lib.hid hy17
    have HK17 := Lib.hid hk17
    have HKK17 := Lib.hid hK17
    replace hb := hb.trans (hK17.below (B := W0.heap.size) hb.size (fun k hk e => by omega))
    clear hZ17 hy17 hk17 HC
    replace HZ15 := Lib.hid (HZ15.out.kept HKK17.out (by omega))
    replace HZ16 := Lib.hid (HZ16.out.kept HKK17.out (by omega))
    replace HZ8 := Lib.hid (HZ8.out.kept HKK17.out (by omega))
    have HC := Lib.hid (HQ4.out (fun V => Below W0.heap.size W0 V) _ HCL.out HSX.out HPT.out hb (HLS.out.bel (HT.out _ hb)))
    go_upto_region 12 with (fail)
    go_cut [20, 24] (fun p q wx => p = .int .i64 e4 ∧ q = .pointer (some ⟨z8, 0, none⟩) ∧ (∃ y p', Blk wx z8 (saiA y p') 32 ∧ y = okS e4 X4 ∧ (∀ V, Below W0.heap.size W0 V → NewSame W9 wx V → SaiR V y p')) ∧ Kept (fun k => k = z8) W9 wx)
    case first =>
      go_wp2_with (refine wpList_load_row rfl 32 (.tmp 4) rfl g rfl 32 _ (0, 0) _ (HG.out _ hb) Tryz.underlying32 rfl (by kernel_rfl) ?_)
      refine HC.out.mono ?_
      rintro e w7 ⟨⟨y, p', rfl, hy, hk⟩, hb7⟩
      have HKw := Lib.hid hk
      have HYw := Lib.hid hy
      have HZw := Lib.hid (HZ8.out.bel hb7)
      have HBw := Lib.hid hb7
      clear hb7
      clear hk hy
      go_wp2_with (refine wpList_store_row rfl 32 (.tmp 24) (.tmp 82) rfl z8 (saiA y p') rfl rfl 32 _ HZw.out (by kernel_rfl) rfl (by simp [Value.oneCell']) ?_)
      go_meet
      have hKz : Kept (fun k => k = z8) w7 (w7.setRow z8 (saiA y p')) := (Kept.refl (fun k => k = z8) w7).setRow (.inl rfl) _
      have hzl : z8 < W9.heap.size := HZ8.out.lt
      exact ⟨rfl, rfl, ⟨y, p', HZw.out.row _, HYw.out, fun V h1 h2 => HKw.out V h1 (fun b b1 b2 => (h2 b b1 (Nat.lt_of_lt_of_le b2 hKz.size)).trans (hKz.block b b2 (by omega)))⟩, (Kept.of_below HBw.out (fun k hk h2 => absurd h2 (by omega))).trans hKz⟩
    obtain ⟨rfl, rfl, ⟨y18, p18, hZ18, hy18, hk18⟩, hK18⟩ := hcut
    obtain ⟨W10, hW10⟩ : ∃ V, V = wc := ⟨_, rfl⟩
    subst hW10
    have hsz18 := hK18.size
    have HZ18 := Lib.hid hZ18
    have HY18 := Lib.hid hy18
    have HK18 := Lib.hid hk18
    have HKK18 := Lib.hid hK18
    replace hb := hb.trans (hK18.below (B := W0.heap.size) hb.size (fun k hk e => by omega))
    clear hZ18 hy18 hk18 HC
    replace HZ15 := Lib.hid (HZ15.out.kept HKK18.out (by omega))
    replace HZ16 := Lib.hid (HZ16.out.kept HKK18.out (by omega))
    replace HZ17 := Lib.hid (HZ17.out.kept HKK18.out (by omega))
    have r15 := HK15.out W10 hb (fun b b1 b2 => ((HKK18.out.block b (by omega) (by omega)).trans (HKK17.out.block b (by omega) (by omega))).trans (HKK16.out.block b (by omega) (by omega)))
    have r16 := HK16.out W10 hb (fun b b1 b2 => (HKK18.out.block b (by omega) (by omega)).trans (HKK17.out.block b (by omega) (by omega)))
    have r17 := HK17.out W10 hb (fun b b1 b2 => HKK18.out.block b (by omega) (by omega))
    have r18 := HK18.out W10 hb (fun b b1 b2 => rfl)
    have HPK := Lib.hid (show (∃ y p', Blk W10 z5 (saiA y p') 32 ∧ okS e1 y = okS e1 X1 ∧ SaiR W10 y p') ∧ (∃ y p', Blk W10 z6 (saiA y p') 32 ∧ okS e2 y = okS e2 X2 ∧ SaiR W10 y p') ∧ (∃ y p', Blk W10 z7 (saiA y p') 32 ∧ okS e3 y = okS e3 X3 ∧ SaiR W10 y p') ∧ (∃ y p', Blk W10 z8 (saiA y p') 32 ∧ okS e4 y = okS e4 X4 ∧ SaiR W10 y p') ∧ Kept (fun k => z5 ≤ k) W6 W10 from
      ⟨⟨y15, p15, HZ15.out, by rw [HY15.out]; exact okS_two _ _, r15⟩, ⟨y16, p16, HZ16.out, by rw [HY16.out]; exact okS_two _ _, r16⟩, ⟨y17, p17, HZ17.out, by rw [HY17.out]; exact okS_two _ _, r17⟩, ⟨y18, p18, HZ18.out, by rw [HY18.out]; exact okS_two _ _, r18⟩,
        (((HKK15.out.mono fun k _ h => by omega).trans (HKK16.out.mono fun k _ h => by omega)).trans (HKK17.out.mono fun k _ h => by omega)).trans (HKK18.out.mono fun k _ h => by omega)⟩)
    clear r15 r16 r17 r18
    go_wp2_with fail
    go_meet
    exact ⟨rfl, rfl, rfl, rfl, rfl, rfl, rfl, rfl, HPK.out⟩
  obtain ⟨rfl, rfl, rfl, rfl, rfl, rfl, rfl, rfl, ⟨y5, p5, hZ5, hy5, hS5⟩, ⟨y6, p6, hZ6, hy6, hS6⟩, ⟨y7, p7, hZ7, hy7, hS7⟩, ⟨y8, p8, hZ8, hy8, hS8⟩, hK⟩ := hcut
  obtain ⟨W7, hW7⟩ : ∃ V, V = wc := ⟨_, rfl⟩
  subst hW7
  have hb7 : Below W0.heap.size W0 W7 := HB6.out.trans (hK.below (B := W0.heap.size) HB6.out.size (fun k hk e => by omega))
  have hb47 : Below W4.heap.size W4 W7 := HX6.out.trans (hK.below (B := W4.heap.size) HX6.out.size (fun k hk e => by omega))
  have HFZ := Lib.hid (show ∀ V, Below W7.heap.size W7 V → (Blk V z5 (saiA y5 p5) 32 ∧ SaiR V y5 p5) ∧ (Blk V z6 (saiA y6 p6) 32 ∧ SaiR V y6 p6) ∧ (Blk V z7 (saiA y7 p7) 32 ∧ SaiR V y7 p7) ∧ (Blk V z8 (saiA y8 p8) 32 ∧ SaiR V y8 p8) from fun V hV =>
    ⟨⟨hZ5.bel hV, hS5.bel hV⟩, ⟨hZ6.bel hV, hS6.bel hV⟩, ⟨hZ7.bel hV, hS7.bel hV⟩, ⟨hZ8.bel hV, hS8.bel hV⟩⟩)
  have HFB := Lib.hid (show ∀ V, Below W7.heap.size W7 V → (Blk V z1 (saiA y1 p1) 32 ∧ SaiR V y1 p1) ∧ (Blk V z2 (saiA y2 p2) 32 ∧ SaiR V y2 p2) ∧ (Blk V z3 (saiA y3 p3) 32 ∧ SaiR V y3 p3) ∧ (Blk V z4 (saiA y4 p4) 32 ∧ SaiR V y4 p4) from fun V hV =>
    HFA.out V (hb47.trans (hV.mono hb47.size)))
  have HV1 := Lib.hid (show y1 = okS e1 y5 by rw [HY1.out, hy5])
  have HV2 := Lib.hid (show y2 = okS e2 y6 by rw [HY2.out, hy6])
  have HV3 := Lib.hid (show y3 = okS e3 y7 by rw [HY3.out, hy7])
  have HV4 := Lib.hid (show y4 = okS e4 y8 by rw [HY4.out, hy8])
  have HTE := Lib.hid (show ∀ V, Below W7.heap.size W7 V → Below W.heap.size W V from fun V hV => HT.out _ (hb7.trans (hV.mono hb7.size)))
  clear hZ5 hZ6 hZ7 hZ8 hy5 hy6 hy7 hy8 hS5 hS6 hS7 hS8 hK hb hb7 hb47 HFA HY1 HY2 HY3 HY4 HX6 HB6 HZ5 HZ6 HZ7 HZ8
  go_wp2_with fail
  refine (changeBegun_any _).mono ?_
  rintro e v1 ⟨rfl, hb⟩
  obtain ⟨a0, a1, a2, a3, a4, a5, a6, a7, a8, a9, a10, a11, a12⟩ := saiCells (HFB.out _ hb).1.1
  obtain ⟨f0, f1, f2, f3, f4, f5, f6, f7, f8, f9, f10, f11, f12⟩ := saiCells (HFZ.out _ hb).1.1
  have HC := Lib.hid (sailingIs_any y1 y5 p1 p5 e1 v1 (HFB.out _ hb).1.2 (HFZ.out _ hb).1.2 HV1.out)
  go_wp2_with fail
  refine HC.out.mono ?_
  rintro e v2 ⟨rfl, hbq⟩
  replace hb := hb.trans (hbq.mono hb.size)
  clear hbq HC a0 a1 a2 a3 a4 a5 a6 a7 a8 a9 a10 a11 a12 f0 f1 f2 f3 f4 f5 f6 f7 f8 f9 f10 f11 f12
  obtain ⟨a0, a1, a2, a3, a4, a5, a6, a7, a8, a9, a10, a11, a12⟩ := saiCells (HFB.out _ hb).2.1.1
  obtain ⟨f0, f1, f2, f3, f4, f5, f6, f7, f8, f9, f10, f11, f12⟩ := saiCells (HFZ.out _ hb).2.1.1
  have HC := Lib.hid (sailingIs_any y2 y6 p2 p6 e2 v2 (HFB.out _ hb).2.1.2 (HFZ.out _ hb).2.1.2 HV2.out)
  go_wp2_with fail
  refine HC.out.mono ?_
  rintro e v3 ⟨rfl, hbq⟩
  replace hb := hb.trans (hbq.mono hb.size)
  clear hbq HC a0 a1 a2 a3 a4 a5 a6 a7 a8 a9 a10 a11 a12 f0 f1 f2 f3 f4 f5 f6 f7 f8 f9 f10 f11 f12
  obtain ⟨a0, a1, a2, a3, a4, a5, a6, a7, a8, a9, a10, a11, a12⟩ := saiCells (HFB.out _ hb).2.2.1.1
  obtain ⟨f0, f1, f2, f3, f4, f5, f6, f7, f8, f9, f10, f11, f12⟩ := saiCells (HFZ.out _ hb).2.2.1.1
  have HC := Lib.hid (sailingIs_any y3 y7 p3 p7 e3 v3 (HFB.out _ hb).2.2.1.2 (HFZ.out _ hb).2.2.1.2 HV3.out)
  go_wp2_with fail
  refine HC.out.mono ?_
  rintro e v4 ⟨rfl, hbq⟩
  replace hb := hb.trans (hbq.mono hb.size)
  clear hbq HC a0 a1 a2 a3 a4 a5 a6 a7 a8 a9 a10 a11 a12 f0 f1 f2 f3 f4 f5 f6 f7 f8 f9 f10 f11 f12
  obtain ⟨a0, a1, a2, a3, a4, a5, a6, a7, a8, a9, a10, a11, a12⟩ := saiCells (HFB.out _ hb).2.2.2.1
  obtain ⟨f0, f1, f2, f3, f4, f5, f6, f7, f8, f9, f10, f11, f12⟩ := saiCells (HFZ.out _ hb).2.2.2.1
  have HC := Lib.hid (sailingIs_any y4 y8 p4 p8 e4 v4 (HFB.out _ hb).2.2.2.2 (HFZ.out _ hb).2.2.2.2 HV4.out)
  go_wp2_with fail
  refine HC.out.mono ?_
  rintro e v5 ⟨rfl, hbq⟩
  replace hb := hb.trans (hbq.mono hb.size)
  clear hbq HC a0 a1 a2 a3 a4 a5 a6 a7 a8 a9 a10 a11 a12 f0 f1 f2 f3 f4 f5 f6 f7 f8 f9 f10 f11 f12
  go_wp2_with fail
  go_ret
  exact ⟨rfl, HTE.out _ hb⟩
set_option maxRecDepth 100000 in
theorem ChangeTells_lifted (os : Os) (started : os.Started) (H : Type) (enc : TypeId × Value → H) :
    ReturnsInHanded {} Tryz.checked os 5 .any (Rows.changeTellsSpec.pre6 enc Tryz.prog Tryz.f5 Rows.changeTellsRow.domain false) (Rows.changeTellsSpec.post enc Tryz.prog Tryz.f5 false true false false) := by
  refine returnsInHanded_of_change (C := Tryz.checked) own started (by kernel_rfl) Tryz.func5
    (ChangeSpec.witness6 (enc := enc) (C := Tryz.checked) false ⟨#[], #[.agg #[.int .i64 0, .int .i64 0, .slice none 0 0, .slice none 0 0, .slice none 0 0, .int .i64 0, .int .i64 0, .slice none 0 0, .int .i64 0, .int .i64 0, .int .i64 0, .slice none 0 0, .bool false], .int .i64 0, .int .i64 0, .int .i64 0], []⟩ 8 (by kernel_rfl) (by kernel_rfl) (by kernel_rfl) (by kernel_rfl)) ?_
  intro W base args ds gs before hval0 hW hcnd _
  have hval : ∀ (j : Nat) t v, Tryz.f5.params[j]? = some t → args[j]? = some v → Value.okWide Tryz.prog W .any base t v := hval0
  have hW' := hW
  obtain ⟨p, q, hA0, hV, rfl, hfz, hnd⟩ := hW
  have hA : DataW.TrodAll enc Tryz.prog W 0 (fun _ => true) true Tryz.f5.params.toList args.toList ds p := hA0
  rw [Tryz.params5] at hA hval
  obtain ⟨v0, vs0, d0, ds0, p0, q0, hargs, rfl, rfl, h0, r0⟩ := trodAll_cons hA
  obtain ⟨v1, vs1, d1, ds1, p1, q1, rfl, rfl, rfl, h1, r1⟩ := trodAll_cons r0
  obtain ⟨v2, vs2, d2, ds2, p2, q2, rfl, rfl, rfl, h2, r2⟩ := trodAll_cons r1
  obtain ⟨v3, vs3, d3, ds3, p3, q3, rfl, rfl, rfl, h3, r3⟩ := trodAll_cons r2
  obtain ⟨rfl, rfl, rfl⟩ := trodAll_nil r3
  obtain rfl : args = #[v0, v1, v2, v3] := by cases args; simp_all
  obtain ⟨rfl, rfl⟩ := trodVars_none hV
  have lt0 := arg_lt h0
  have k0 := h0
  obtain ⟨cs0, a0, rfl, w0⟩ := arg_agg (c := saiC) Tryz.underlying32 opens_saiC (hval 0 32 v0 rfl rfl) h0
  have lt1 := arg_lt h1
  have k1 := h1
  obtain ⟨a1, rfl, w1⟩ := arg_int Tryz.underlying3 (hval 1 3 v1 rfl rfl) h1
  have lt2 := arg_lt h2
  have k2 := h2
  obtain ⟨a2, rfl, w2⟩ := arg_int Tryz.underlying3 (hval 2 3 v2 rfl rfl) h2
  have lt3 := arg_lt h3
  have k3 := h3
  obtain ⟨a3, rfl, w3⟩ := arg_int Tryz.underlying3 (hval 3 3 v3 rfl rfl) h3
  clear hA0 hval0
  refine (ChangeTells_walk W cs0 a0 w0 a1 w1 a2 w2 a3 w3).mono fun e W' ⟨he, bel⟩ => ?_
  subst he
  exact ⟨_, rfl, _, _, _, [], _, [], hW', trodAll_mk1 (shut_bool Tryz.underlying4 _), (trodAll_cons_mk (Below.trod laidOut (by kernel_rfl) (of_decide_eq_true (by kernel_rfl)) k0 bel lt0) (trodAll_cons_mk (Below.trod laidOut (by kernel_rfl) (of_decide_eq_true (by kernel_rfl)) k1 bel lt1) (trodAll_cons_mk (Below.trod laidOut (by kernel_rfl) (of_decide_eq_true (by kernel_rfl)) k2 bel lt2) (trodAll_cons_mk (Below.trod laidOut (by kernel_rfl) (of_decide_eq_true (by kernel_rfl)) k3 bel lt3) trodAll_mk0)))), rfl, bel.frame _, fun h => by cases h⟩

theorem ChangeTells_fit1 : (Rows.changeTellsRow.wf (OpenSpec.ofChange Rows.changeTellsSpec) && Tryz.f5.params.all (Tryz.prog.readableRec ·) && namedTie Tryz.prog Rows.changeTellsRow.named Rows.changeTellsSpec.vars && (Rows.changeTellsRow.stops == []) && (Tryz.prog.stops == []) && (Rows.changeTellsRow.knobs == []) && (Tryz.prog.stopKnobs == [])) = true := by kernel_rfl
theorem ChangeTells_fit2 : ((Rows.changeTellsRow.inPlace == Tryz.prog.inPlace 5) && (Rows.changeTellsRow.unfollowed == Tryz.prog.unfollowed 5) && (Rows.changeTellsRow.recurses == Tryz.prog.recurses 5) && (Rows.changeTellsRow.named == Tryz.prog.varsNamed 5)) = true := by kernel_rfl
theorem ChangeTells_fit3 : ((Rows.changeTellsRow.maps == (Tryz.f5.params.toList ++ Rows.changeTellsSpec.plain.varTypes Tryz.prog).any (Tryz.prog.mapsRec ·)) && (Rows.changeTellsRow.ifaces == (Tryz.f5.params.toList ++ Rows.changeTellsSpec.plain.varTypes Tryz.prog).any (Tryz.prog.ifacesRec ·)) && (Rows.changeTellsRow.mapsOut == Tryz.prog.mapsAmong Tryz.f5.resultTypes.toList) && (Rows.changeTellsRow.loops == (Tryz.f5.params.toList ++ Rows.changeTellsSpec.plain.varTypes Tryz.prog).any (Tryz.prog.loopsFrom ·)) && (Rows.changeTellsRow.wideKeys == (Tryz.f5.params.toList ++ Rows.changeTellsSpec.plain.varTypes Tryz.prog ++ Tryz.f5.resultTypes.toList).any (Tryz.prog.wideKeysFrom ·)) &&
    Rows.changeTellsSpec.vars.all (Tryz.prog.varReadable ·) && Tryz.f5.resultTypes.all (fun t => Tryz.prog.readableRec t && decide (t < Tryz.prog.types.size)) && (Rows.changeTellsRow.ifacesOut == Tryz.f5.resultTypes.toList.any (Tryz.prog.ifacesRec ·)) && (Rows.changeTellsRow.loopsOut == Tryz.f5.resultTypes.toList.any (Tryz.prog.loopsFrom ·)) && (Rows.changeTellsRow.plainKeys == Tryz.prog.plainKeys) && Rows.changeTellsRow.shortTexts.isNone) = true := by kernel_rfl
theorem ChangeTells_fit4 : ((Rows.changeTellsRow.lifted == Tryz.prog.liftsFinal) && (Tryz.prog.make == some Rows.changeTellsRow.make)) = true := by kernel_rfl
theorem ChangeTells_fit5 : ((Rows.changeTellsRow.kinds == (if Rows.changeTellsRow.domain.isEmpty then [] else Tryz.f5.params.toList.map fun t => match Tryz.prog.underlying t with | some (.int k) => some k | _ => none)) && (Rows.changeTellsRow.pinned == Rows.changeTellsRow.pinnedBy) && (Rows.changeTellsRow.veiled == (Tryz.f5.params.toList ++ Rows.changeTellsSpec.plain.varTypes Tryz.prog ++ Tryz.f5.resultTypes.toList).any (Tryz.prog.veiledRec ·)) && Rows.changeTellsRow.veiledFits Tryz.prog Tryz.f5.params.toList (Tryz.f5.params.toList ++ Rows.changeTellsSpec.plain.varTypes Tryz.prog ++ Tryz.f5.resultTypes.toList)) = true := by kernel_rfl

set_option maxRecDepth 100000 in
/-- THE GIVEN STATEMENT ChangeTells. -/
theorem changeTells_holds : Rows.ChangeTellsSaid :=
  OpenClaim.holds_of_wide 5 Tryz.f5 rfl rfl rfl rfl rfl rfl rfl ⟨rfl, rfl, rfl, rfl, rfl⟩ rfl rfl rfl rfl rfl (by kernel_rfl) Tryz.func5
    (joined_of ChangeTells_fit1 fit_laid fit_rows ChangeTells_fit2 ChangeTells_fit3 fit_heard fit_enter ChangeTells_fit4 ChangeTells_fit5)
    (of_decide_eq_true (by kernel_rfl)) (by unfold Func.isWrapper; rw [if_neg (of_decide_eq_false (by kernel_rfl))]; exact ⟨rfl, rfl⟩)
    (fun os started H enc _ => ChangeTells_lifted os started H enc)
#print axioms changeTells_holds
end Go.Proofs.YtoilcdgpeilgaaaGreat
