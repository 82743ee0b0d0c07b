/-
  The law SellTells returns true, whatever it is handed, and changes nothing that was there.
-/
import Derived.Test.YtlablioefblmkaaGreatBun25
import Derived.Test.YtlablioefblmkaaGreatBun32
import Derived.Test.YtlablioefblmkaaGreatBun33
import Derived.Test.YtlablioefblmkaaGreatBun37
import Derived.BigQuiet
set_option linter.unusedSimpArgs false
set_option linter.unusedVariables false
namespace Go.Proofs.YtlablioefblmkaaGreat
open Go.ChangeShapes Go.WideShapes Go.ChangeAt Go.RowKit Go.Shelf

theorem sells_ints {r : Int} {sl : List Int} : listIs (okL r sl) r r (okL r sl) = true := by
  unfold listIs
  by_cases h0 : r = 0
  · subst h0; simp [okL_zero]
  · rw [okL_ne h0, okL_ne h0]; simp
theorem okS_twice (e : Int) (x : Sai) : okS e (okS e x) = okS e x := by
  by_cases h : e = 0
  · subst h; rfl
  · rw [okS_ne h, okS_ne h]
set_option maxRecDepth 100000 in
set_option maxHeartbeats 20000000 in
theorem SellTells_walk (W : World) (cs0 : Array Value) (x : Sai) (hx0 : saiC W All x cs0.toList) (cs1 : Array Value) (b : Bkg) (hb0 : bkgC W All b cs1.toList) (gs : Int) (igs : InI gs) (lv : Bool) (cs4 : Array Value) (sp : Span) (hs0 : spanC W All sp cs4.toList) :
    Calls Tryz.prog 9 #[.agg cs0, .agg cs1, .int .i64 gs, .bool lv, .agg cs4] W fun e w' => e = .returned (.bool true) ∧ Below W.heap.size W w' := by
  obtain ⟨p, rfl, hS, i1, i2, _, _⟩ := sai_in hx0
  obtain ⟨A3, n3, c3, hcs1, hf, hI⟩ := hb0
  obtain ⟨sf, su⟩ := sp
  obtain ⟨hcs4, isf, isu⟩ := hs0
  obtain rfl : cs1 = bkgA b (.slice A3 n3 c3) := by cases cs1; simp_all
  obtain rfl : cs4 = #[.int .i64 sf, .int .i64 su] := by cases cs4; simp_all
  simp only at isf isu
  clear hcs1 hcs4
  obtain ⟨L, hLs, hLp⟩ := hS.bks.raw bkgC_good
  have HNA0 := Lib.hid (fun X hX hF => Named_any x p b A3 n3 c3 X hX hF hI)
  have HPR0 := Lib.hid (fun X hX hF => Promise_any x p b A3 n3 c3 X hX hF hI)
  have HOF0 := Lib.hid (fun X hX => Offers_any x p gs lv sf su X hX igs isf isu)
  have HCS0 := Lib.hid (fun X hX => CheckSailing_any x p X hX)
  have HSO0 := Lib.hid (fun K k X h1 h2 h3 h4 h5 hF ho => SellOf_K K x p b A3 n3 c3 k L X h1 h2 h3 h4 h5 hF hI ho)
  have HSC0 := Lib.hid (fun X => CheckSpan_any sf su x.ship.legs X)
  have HOO0 := Lib.hid (fun X hX h0 => OffersOf_any x p gs lv sf su X hX igs isf isu h0)
  obtain ⟨r, hr⟩ : ∃ r, r = saiE x := ⟨_, rfl⟩
  obtain ⟨e1, he1⟩ : ∃ r, r = sellE x b 1 := ⟨_, rfl⟩
  obtain ⟨e2, he2⟩ : ∃ r, r = sellE x b 2 := ⟨_, rfl⟩
  obtain ⟨oe, hoe⟩ : ∃ r, r = offE x gs ⟨sf, su⟩ := ⟨_, rfl⟩
  obtain ⟨ol, hol⟩ : ∃ r, r = offL x gs lv ⟨sf, su⟩ := ⟨_, rfl⟩
  obtain ⟨X1, hX1⟩ : ∃ r, r = sellX x b := ⟨_, rfl⟩
  obtain ⟨se, hse⟩ : ∃ r, r = spanE ⟨sf, su⟩ x.ship.legs := ⟨_, rfl⟩
  have hnb : x.bks.length = p.nb := hS.bks.len
  have HOE := Lib.hid (show oe = if r ≠ 0 then r else if betB gs 1 4 = false then 3 else if se ≠ 0 then se else if x.leaves ≤ x.day then 4 else if p.nb = 16 then 2 else 0 by rw [hoe, hr, hse, ← hnb]; rfl)
  have HE1 := Lib.hid (show ∀ q : r = 0, e1 = sellE1 x b 1 by intro q; rw [he1, sellE_ok (hr.symm.trans q)])
  have HE2 := Lib.hid (show ∀ q : r = 0, e2 = sellE1 x b 2 by intro q; rw [he2, sellE_ok (hr.symm.trans q)])
  have HN1 := Lib.hid (show ∀ q : ¬ r = 0, e1 = r by intro q; rw [he1]; unfold sellE; rw [← hr, if_pos q])
  have HN2 := Lib.hid (show ∀ q : ¬ r = 0, e2 = r by intro q; rw [he2]; unfold sellE; rw [← hr, if_pos q])
  have HR := Lib.hid hr
  rw [← hr] at HCS0
  rw [← he1, ← hX1] at HNA0
  rw [← he2, ← hX1] at HPR0
  rw [← hoe, ← hol] at HOF0
  rw [← hol] at HOO0
  rw [← hX1] at HSO0
  rw [← hse] at HSC0
  have HS := Lib.hid hS
  have HF := Lib.hid hf
  have HLS := Lib.hid hLs
  have HLP := Lib.hid hLp
  clear hr he1 he2 hoe hol hX1 hse hnb hS hf hLs hLp hI hx0 i1 i2 igs isf isu
  obtain ⟨A, n, cap, B, m, cap2, D, nd, cd, E, ne, ce, C, nb, cb⟩ := p
  obtain ⟨id, kind, state, gst, lev, cab, cat, frm, upto, til, fol⟩ := b
  simp only at HOE
  go_enter Tryz.func9, Tryz.ntmps9
  go_upto_region 0 with (fail)
  go_cut [5, 6, 9, 10] (fun p p2 p3 _ wx => ∃ g h s, p = .pointer (some ⟨g, 0, none⟩) ∧ p2 = .pointer (some ⟨h, 0, none⟩) ∧ p3 = .pointer (some ⟨s, 0, none⟩) ∧ Blk wx g (saiA x ⟨A, n, cap, B, m, cap2, D, nd, cd, E, ne, ce, C, nb, cb⟩) 32 ∧ Blk wx h (bkgA ⟨id, kind, state, gst, lev, cab, cat, frm, upto, til, fol⟩ (.slice A3 n3 c3)) 42 ∧ Blk wx s #[.int .i64 sf, .int .i64 su] 39 ∧ Below W.heap.size W wx)
  case first => as_aux_lemma =>
    go_wp2_with fail
    go_meet
    exact ⟨_, _, _, rfl, rfl, rfl, blk3_0 _ _ _ _, blk3_1 _ _ _ _, blk3_2 _ _ _ _, bel3 _ _ _ _⟩
  obtain ⟨g, h, s, rfl, rfl, rfl, hG, hH, hP, hb0⟩ := hcut
  obtain ⟨W0, hW0⟩ : ∃ V, V = wc := ⟨_, rfl⟩
  subst hW0
  have HT := Lib.hid (fun X (hX : Below W0.heap.size W0 X) => hb0.trans (hX.mono hb0.size))
  have HG := Lib.hid (fun X (hX : Below W0.heap.size W0 X) => hG.bel hX)
  have HH := Lib.hid (fun X (hX : Below W0.heap.size W0 X) => hH.bel hX)
  have HP := Lib.hid (fun X (hX : Below W0.heap.size W0 X) => hP.bel hX)
  have HSX := Lib.hid (fun X (hX : Below W0.heap.size W0 X) => HS.out.bel (HT.out X hX))
  have HFX := Lib.hid (fun X (hX : Below W0.heap.size W0 X) => HF.out.bel (HT.out X hX))
  clear hG hH hP hb0
  have hb : Below W0.heap.size W0 W0 := Below.refl _ _
  have HC := Lib.hid (HNA0.out _ (HSX.out _ hb) (HFX.out _ hb))
  go_upto_region 1 with (fail)
  go_cut [11, 12] (fun p q wx => q = .int .i64 e1 ∧ (∃ z y p', p = .pointer (some ⟨z, 0, none⟩) ∧ W0.heap.size ≤ z ∧ Blk wx z (saiA y p') 32 ∧ y = okS e1 X1 ∧ SaiR wx y p') ∧ Below W0.heap.size W0 wx)
  case first =>
    go_wp2_with (first | (refine wpList_load_row rfl 32 (.tmp 5) rfl g rfl 32 _ (0, 0) _ (HG.out _ hb) Tryz.underlying32 rfl (by kernel_rfl) ?_) | (refine wpList_load_row rfl 42 (.tmp 6) rfl h rfl 42 _ (0, 0) _ (HH.out _ hb) Tryz.underlying42 rfl (by kernel_rfl) ?_))
    refine HC.out.mono ?_
    rintro e w8 ⟨⟨y, p', rfl, hy, hO⟩, hb8⟩
    have HO8 := Lib.hid hO.sai
    have HY8 := Lib.hid hy
    have HB8 := Lib.hid hb8
    clear hb8
    clear hO hy
    go_wp2_with (refine wpList_store_row rfl 32 (.tmp 11) (.tmp 28) rfl w8.heap.size (saiA y p') rfl rfl 32 _ (Blk.new w8 #[.int .i64 0, .int .i64 0, .slice none 0 0, .slice none 0 0, .slice none 0 0, .int .i64 0, .int .i64 0, .slice none 0 0, .int .i64 0, .int .i64 0, .int .i64 0, .slice none 0 0, .bool false] 32) (by kernel_rfl) rfl (by simp [Value.oneCell']) ?_)
    go_meet
    have hbe : Below w8.heap.size w8 ((w8.alloc (.cells #[.int .i64 0, .int .i64 0, .slice none 0 0, .slice none 0 0, .slice none 0 0, .int .i64 0, .int .i64 0, .slice none 0 0, .int .i64 0, .int .i64 0, .int .i64 0, .slice none 0 0, .bool false] 32)).setRow w8.heap.size (saiA y p')) := below_setRow (bel1 w8 _) (Nat.le_refl _) _
    exact ⟨rfl, ⟨_, y, p', rfl, HB8.out.size, (Blk.new w8 _ _).row _, HY8.out, HO8.out.bel hbe⟩, HB8.out.trans (hbe.mono HB8.out.size)⟩
  obtain ⟨rfl, ⟨z1, y1, p1, rfl, hz1, hZ1, hy1, hS1⟩, hb⟩ := hcut
  have HZ1 := Lib.hid hZ1
  have HS1 := Lib.hid hS1
  have HY1 := Lib.hid hy1
  clear hZ1 hS1 hy1 HC HNA0
  obtain ⟨W1, hW1⟩ : ∃ V, V = wc := ⟨_, rfl⟩
  subst hW1
  have HC := Lib.hid (HPR0.out _ (HSX.out _ hb) (HFX.out _ hb))
  go_upto_region 2 with (fail)
  go_cut [13, 14] (fun p q wx => q = .int .i64 e2 ∧ (∃ z y p', p = .pointer (some ⟨z, 0, none⟩) ∧ W1.heap.size ≤ z ∧ Blk wx z (saiA y p') 32 ∧ y = okS e2 X1 ∧ SaiR wx y p') ∧ Below W1.heap.size W1 wx)
  case first =>
    go_wp2_with (first | (refine wpList_load_row rfl 32 (.tmp 5) rfl g rfl 32 _ (0, 0) _ (HG.out _ hb) Tryz.underlying32 rfl (by kernel_rfl) ?_) | (refine wpList_load_row rfl 42 (.tmp 6) rfl h rfl 42 _ (0, 0) _ (HH.out _ hb) Tryz.underlying42 rfl (by kernel_rfl) ?_))
    refine HC.out.mono ?_
    rintro e w8 ⟨⟨y, p', rfl, hy, hO⟩, hb8⟩
    have HO8 := Lib.hid hO.sai
    have HY8 := Lib.hid hy
    have HB8 := Lib.hid hb8
    clear hb8
    clear hO hy
    go_wp2_with (refine wpList_store_row rfl 32 (.tmp 13) (.tmp 34) rfl w8.heap.size (saiA y p') rfl rfl 32 _ (Blk.new w8 #[.int .i64 0, .int .i64 0, .slice none 0 0, .slice none 0 0, .slice none 0 0, .int .i64 0, .int .i64 0, .slice none 0 0, .int .i64 0, .int .i64 0, .int .i64 0, .slice none 0 0, .bool false] 32) (by kernel_rfl) rfl (by simp [Value.oneCell']) ?_)
    go_meet
    have hbe : Below w8.heap.size w8 ((w8.alloc (.cells #[.int .i64 0, .int .i64 0, .slice none 0 0, .slice none 0 0, .slice none 0 0, .int .i64 0, .int .i64 0, .slice none 0 0, .int .i64 0, .int .i64 0, .int .i64 0, .slice none 0 0, .bool false] 32)).setRow w8.heap.size (saiA y p')) := below_setRow (bel1 w8 _) (Nat.le_refl _) _
    exact ⟨rfl, ⟨_, y, p', rfl, HB8.out.size, (Blk.new w8 _ _).row _, HY8.out, HO8.out.bel hbe⟩, HB8.out.trans (hbe.mono HB8.out.size)⟩
  obtain ⟨rfl, ⟨z2, y2, p2, rfl, hz2, hZ2, hy2, hS2⟩, hb2⟩ := hcut
  obtain ⟨W2, hW2⟩ : ∃ V, V = wc := ⟨_, rfl⟩
  subst hW2
  replace HZ1 := Lib.hid (HZ1.out.bel hb2)
  replace HS1 := Lib.hid (HS1.out.bel hb2)
  replace hb := hb.trans (hb2.mono hb.size)
  have HZ2 := Lib.hid hZ2
  have HS2 := Lib.hid hS2
  have HY2 := Lib.hid hy2
  clear hZ2 hS2 hy2 hb2 HC HPR0
  have HC := Lib.hid (HOF0.out _ (HSX.out _ hb))
  have s0 : W2.cell? ⟨s, 0, none⟩ = some (.int .i64 sf) := (HP.out _ hb).cell rfl
  have s1 : W2.cell? ⟨s, 1, none⟩ = some (.int .i64 su) := (HP.out _ hb).cell rfl
  go_wp2_with (first | (refine wpList_load_row rfl 32 (.tmp 5) rfl g rfl 32 _ (0, 0) _ (HG.out _ hb) Tryz.underlying32 rfl (by kernel_rfl) ?_) | (refine wpList_load_row rfl 42 (.tmp 6) rfl h rfl 42 _ (0, 0) _ (HH.out _ hb) Tryz.underlying42 rfl (by kernel_rfl) ?_))
  refine HC.out.mono ?_
  rintro e w3 ⟨v3, xs3, rfl, hO3, hb3⟩
  obtain ⟨A4, n4, c4, rfl, hs4⟩ := hO3.sl intC_good
  replace hs4 := hs4.all intC_good (by omega)
  have HA4 := Lib.hid hs4
  replace HZ1 := Lib.hid (HZ1.out.bel hb3)
  replace HS1 := Lib.hid (HS1.out.bel hb3)
  replace HZ2 := Lib.hid (HZ2.out.bel hb3)
  replace HS2 := Lib.hid (HS2.out.bel hb3)
  replace hb := hb.trans (hb3.mono hb.size)
  clear hO3 hs4 hb3 HC HOF0 s0 s1
  have HC := Lib.hid (HCS0.out _ (HSX.out _ hb))
  go_wp2_with (first | (refine wpList_load_row rfl 32 (.tmp 5) rfl g rfl 32 _ (0, 0) _ (HG.out _ hb) Tryz.underlying32 rfl (by kernel_rfl) ?_) | (refine wpList_load_row rfl 42 (.tmp 6) rfl h rfl 42 _ (0, 0) _ (HH.out _ hb) Tryz.underlying42 rfl (by kernel_rfl) ?_))
  refine HC.out.mono ?_
  rintro e w4 ⟨rfl, hb4⟩
  replace HZ1 := Lib.hid (HZ1.out.bel hb4)
  replace HS1 := Lib.hid (HS1.out.bel hb4)
  replace HZ2 := Lib.hid (HZ2.out.bel hb4)
  replace HS2 := Lib.hid (HS2.out.bel hb4)
  replace HA4 := Lib.hid (HA4.out.bel hb4)
  replace hb := hb.trans (hb4.mono hb.size)
  clear hb4 HC HCS0
  go_upto_region 6 with (fail)
  obtain ⟨W5, hW5⟩ : ∃ V, V = w4 := ⟨_, rfl⟩
  subst hW5
  go_cut [21, 22] (fun p q wx => ∃ z3 z4, p = .pointer (some ⟨z3, 0, none⟩) ∧ q = .pointer (some ⟨z4, 0, none⟩) ∧ W5.heap.size ≤ z3 ∧ W5.heap.size ≤ z4 ∧ z3 ≠ z4 ∧ Blk wx z3 (saiA zeroS zeroP) 32 ∧ Blk wx z4 (saiA zeroS zeroP) 32 ∧ Below W5.heap.size W5 wx)
  case first => as_aux_lemma =>
    go_wp2_with fail
    go_meet
    exact ⟨_, _, rfl, rfl, Nat.le_refl _, by omega, by omega, blk2_0 _ _ _, blk2_1 _ _ _, bel2 _ _ _⟩
  obtain ⟨z3, z4, rfl, rfl, hz3, hz4, hz34, hZ3, hZ4, hb5⟩ := hcut
  obtain ⟨W6, hW6⟩ : ∃ V, V = wc := ⟨_, rfl⟩
  subst hW6
  have hsz5 := hb.size
  have hz1l := HZ1.out.lt
  have hz2l := HZ2.out.lt
  replace HZ1 := Lib.hid (HZ1.out.bel hb5)
  replace HS1 := Lib.hid (fun V (hV : Below W5.heap.size W5 V) => HS1.out.bel hV)
  replace HZ2 := Lib.hid (HZ2.out.bel hb5)
  replace HS2 := Lib.hid (fun V (hV : Below W5.heap.size W5 V) => HS2.out.bel hV)
  replace HA4 := Lib.hid (fun V (hV : Below W5.heap.size W5 V) => HA4.out.bel hV)
  have HZ3 := Lib.hid hZ3
  have HZ4 := Lib.hid hZ4
  have HB5 := Lib.hid hb5
  have hb0 := hb
  have HB00 := Lib.hid hb0
  clear hb0
  replace hb := hb.trans (hb5.mono hb.size)
  clear hZ3 hZ4 hb5
  go_upto_if 50 with (fail)
  go_cut [18, 19, 20, 21, 22, 23] (fun q1 q2 q3 q4 q5 q6 wx => q1 = .int .i64 e1 ∧ q2 = .int .i64 e2 ∧ q3 = .int .i64 oe ∧ q4 = .pointer (some ⟨z3, 0, none⟩) ∧ q5 = .pointer (some ⟨z4, 0, none⟩) ∧ (∃ A6 n6 c6, q6 = .slice A6 n6 c6 ∧ Sl intC 1 wx All A6 n6 c6 (okL oe ol)) ∧
    (∃ y p', Blk wx z3 (saiA y p') 32 ∧ okS e1 y = okS e1 X1 ∧ SaiR wx y p') ∧ (∃ y p', Blk wx z4 (saiA y p') 32 ∧ okS e2 y = okS e2 X1 ∧ SaiR wx y p') ∧ Kept (fun k => k = z3 ∨ k = z4) W6 wx)
  case first =>
    by_cases q0 : r = 0
    rotate_left
    · have a1 := HN1.out q0
      have a2 := HN2.out q0
      have a3 : oe = r := by rw [HOE.out, if_pos q0]
      have q0' : (r == 0) = false := by simpa using q0
      have Q0 := Lib.hid q0
      have A1 := Lib.hid a1
      have A2 := Lib.hid a2
      have A3' := Lib.hid a3
      clear q0 a1 a2 a3
      go_wp2_with fail
      go_meet
      exact ⟨by rw [A1.out], by rw [A2.out], by rw [A3'.out], rfl, rfl, ⟨none, 0, 0, rfl, by rw [A3'.out, okL_ne Q0.out]; exact Sl.nil _ _ _ _⟩, ⟨zeroS, zeroP, HZ3.out, by rw [A1.out, okS_ne Q0.out, okS_ne Q0.out], zeroS_rd _⟩, ⟨zeroS, zeroP, HZ4.out, by rw [A2.out, okS_ne Q0.out, okS_ne Q0.out], zeroS_rd _⟩, Kept.refl _ _⟩
    have HOK := Lib.hid (sai_ok (HR.out.symm.trans q0))
    have HOE1 := Lib.hid (HOE.out.trans (if_neg (by rw [q0]; simp)))
    have HSAI := Lib.hid (HR.out.symm.trans q0)
    have HC := Lib.hid (HSO0.out (fun V => Below W0.heap.size W0 V) 1 W6 (fun V V' h1 h2 => h1.trans (h2.mono h1.size)) (fun V hV => HSX.out V hV) (fun V hV => Pts.bel (size := 11) HLP.out (HT.out V hV)) hb (HLS.out.bel (HT.out _ hb)) (HFX.out _ hb) HOK.out)
    rw [← HE1.out q0] at HC
    have HE2' := Lib.hid (HE2.out q0)
    subst q0
    have hs6 := hb.size
    go_upto_region 9 with (fail)
    go_cut [18, 21] (fun p q wx => p = .int .i64 e1 ∧ q = .pointer (some ⟨z3, 0, none⟩) ∧ (∃ y p', Blk wx z3 (saiA y p') 32 ∧ y = okS e1 X1 ∧ (∀ V, Below W0.heap.size W0 V → NewSame W6 wx V → SaiR V y p')) ∧ Kept (fun k => k = z3) W6 wx)
    case first =>
      go_wp2_with (first | (refine wpList_load_row rfl 32 (.tmp 5) rfl g rfl 32 _ (0, 0) _ (HG.out _ hb) Tryz.underlying32 rfl (by kernel_rfl) ?_) | (refine wpList_load_row rfl 42 (.tmp 6) rfl h rfl 42 _ (0, 0) _ (HH.out _ hb) Tryz.underlying42 rfl (by kernel_rfl) ?_))
      refine HC.out.mono ?_
      rintro e w7 ⟨⟨y, p', rfl, hy, hk⟩, hb7⟩
      have HK7 := Lib.hid hk
      have HY7 := Lib.hid hy
      have HZ7 := Lib.hid (HZ3.out.bel hb7)
      have HB7 := Lib.hid hb7
      clear hb7
      clear hk hy
      go_wp2_with (refine wpList_store_row rfl 32 (.tmp 21) (.tmp 55) rfl z3 (saiA y p') rfl rfl 32 _ HZ7.out (by kernel_rfl) rfl (by simp [Value.oneCell']) ?_)
      go_meet
      have hKz : Kept (fun k => k = z3) w7 (w7.setRow z3 (saiA y p')) := (Kept.refl (fun k => k = z3) w7).setRow (.inl rfl) _
      have hzl : z3 < W6.heap.size := HZ3.out.lt
      exact ⟨rfl, rfl, ⟨y, p', HZ7.out.row _, HY7.out, fun V h1 h2 => HK7.out V h1 (fun b b1 b2 => (h2 b b1 (Nat.lt_of_lt_of_le b2 hKz.size)).trans (hKz.block b b2 (by omega)))⟩, (Kept.of_below HB7.out (fun k hk h2 => absurd h2 (by omega))).trans hKz⟩
    obtain ⟨rfl, rfl, ⟨y5, p5, hZ5, hy5, hk5⟩, hK5⟩ := hcut
    obtain ⟨W7, hW7⟩ : ∃ V, V = wc := ⟨_, rfl⟩
    subst hW7
    have HZ4' := Lib.hid (HZ4.out.kept hK5 (fun e => hz34 e.symm))
    have hb7 : Below W0.heap.size W0 W7 := hb.trans (hK5.below (B := W0.heap.size) hb.size (fun k hk e => by omega))
    have HC := Lib.hid (HSO0.out (fun V => Below W0.heap.size W0 V) 2 W7 (fun V V' h1 h2 => h1.trans (h2.mono h1.size)) (fun V hV => HSX.out V hV) (fun V hV => Pts.bel (size := 11) HLP.out (HT.out V hV)) hb7 (HLS.out.bel (HT.out _ hb7)) (HFX.out _ hb7) HOK.out)
    rw [← HE2'.out] at HC
    have HZ5 := Lib.hid hZ5
    clear hZ5
    have HY5 := Lib.hid hy5
    clear hy5
    have HK5 := Lib.hid hk5
    clear hk5
    have HKK5 := Lib.hid hK5
    clear hK5
    have HB6 := Lib.hid hb
    clear hb
    have hb : Below W0.heap.size W0 W7 := hb7
    clear hb7
    go_upto_region 10 with (fail)
    go_cut [19, 22] (fun p q wx => p = .int .i64 e2 ∧ q = .pointer (some ⟨z4, 0, none⟩) ∧ (∃ y p', Blk wx z4 (saiA y p') 32 ∧ y = okS e2 X1 ∧ (∀ V, Below W0.heap.size W0 V → NewSame W7 wx V → SaiR V y p')) ∧ Kept (fun k => k = z4) W7 wx)
    case first =>
      go_wp2_with (first | (refine wpList_load_row rfl 32 (.tmp 5) rfl g rfl 32 _ (0, 0) _ (HG.out _ hb) Tryz.underlying32 rfl (by kernel_rfl) ?_) | (refine wpList_load_row rfl 42 (.tmp 6) rfl h rfl 42 _ (0, 0) _ (HH.out _ hb) Tryz.underlying42 rfl (by kernel_rfl) ?_))
      refine HC.out.mono ?_
      rintro e w7 ⟨⟨y, p', rfl, hy, hk⟩, hb7⟩
      have HK7 := Lib.hid hk
      have HY7 := Lib.hid hy
      have HZ7 := Lib.hid (HZ4'.out.bel hb7)
      have HB7 := Lib.hid hb7
      clear hb7
      clear hk hy
      go_wp2_with (refine wpList_store_row rfl 32 (.tmp 22) (.tmp 61) rfl z4 (saiA y p') rfl rfl 32 _ HZ7.out (by kernel_rfl) rfl (by simp [Value.oneCell']) ?_)
      go_meet
      have hKz : Kept (fun k => k = z4) w7 (w7.setRow z4 (saiA y p')) := (Kept.refl (fun k => k = z4) w7).setRow (.inl rfl) _
      have hzl : z4 < W7.heap.size := HZ4'.out.lt
      exact ⟨rfl, rfl, ⟨y, p', HZ7.out.row _, HY7.out, fun V h1 h2 => HK7.out V h1 (fun b b1 b2 => (h2 b b1 (Nat.lt_of_lt_of_le b2 hKz.size)).trans (hKz.block b b2 (by omega)))⟩, (Kept.of_below HB7.out (fun k hk h2 => absurd h2 (by omega))).trans hKz⟩
    obtain ⟨rfl, rfl, ⟨y9, p9, hZ9, hy9, hk9⟩, hK9⟩ := hcut
    obtain ⟨W10, hW10⟩ : ∃ V, V = wc := ⟨_, rfl⟩
    subst hW10
    have hb10 : Below W0.heap.size W0 W10 := hb.trans (hK9.below (B := W0.heap.size) hb.size (fun k hk e => by omega))
    have hKA : Kept (fun k => k = z3 ∨ k = z4) W6 W10 := (HKK5.out.mono fun k _ h => .inl h).trans (hK9.mono fun k _ h => .inr h)
    have hz3l := HZ3.out.lt
    have hz4l := HZ4.out.lt
    have r5 := HK5.out W10 hb10 (fun b b1 b2 => hK9.block b b2 (fun e => by omega))
    have r9 := hk9 W10 hb10 (fun b b1 b2 => rfl)
    have z5 := HZ5.out.kept hK9 hz34
    have HPACK := Lib.hid (show ∀ V, Below W10.heap.size W10 V → (∃ y p', Blk V z3 (saiA y p') 32 ∧ okS e1 y = okS e1 X1 ∧ SaiR V y p') ∧ (∃ y p', Blk V z4 (saiA y p') 32 ∧ okS e2 y = okS e2 X1 ∧ SaiR V y p') ∧ Kept (fun k => k = z3 ∨ k = z4) W6 V from fun V hV =>
      ⟨⟨y5, p5, z5.bel hV, by rw [HY5.out]; exact okS_twice _ _, r5.bel hV⟩, ⟨y9, p9, hZ9.bel hV, by rw [hy9]; exact okS_twice _ _, r9.bel hV⟩, hKA.trans (Kept.of_below hV (fun k hk h2 => absurd h2 (by omega)))⟩)
    clear r5 r9 z5 hZ9 hy9 hk9 hK9 hb hKA HC
    have hbz : Below W10.heap.size W10 W10 := Below.refl _ _
    by_cases d1 : gs < 1
    · have HO := Lib.hid (show oe = 3 by rw [HOE1.out, if_pos (betB_false (.inl d1))])
      have d1' : decide (gs < 1) = true := decide_eq_true d1
      clear d1
      go_wp2_with fail
      go_meet
      exact ⟨rfl, rfl, by rw [HO.out], rfl, rfl, ⟨none, 0, 0, rfl, by rw [HO.out, okL_ne (by decide)]; exact Sl.nil _ _ _ _⟩, HPACK.out _ hbz⟩
    have d1' : decide (gs < 1) = false := decide_eq_false d1
    by_cases d2 : 4 < gs
    · have HO := Lib.hid (show oe = 3 by rw [HOE1.out, if_pos (betB_false (.inr d2))])
      have d2' : decide (4 < gs) = true := decide_eq_true d2
      clear d1 d2
      go_wp2_with fail
      go_meet
      exact ⟨rfl, rfl, by rw [HO.out], rfl, rfl, ⟨none, 0, 0, rfl, by rw [HO.out, okL_ne (by decide)]; exact Sl.nil _ _ _ _⟩, HPACK.out _ hbz⟩
    have d2' : decide (4 < gs) = false := decide_eq_false d2
    have HOE2 := Lib.hid (HOE1.out.trans (if_neg (by rw [betB_true (by omega) (by omega)]; simp)))
    clear d1 d2
    have s0 : W10.cell? ⟨s, 0, none⟩ = some (.int .i64 sf) := (HP.out _ hb10).cell rfl
    have s1 : W10.cell? ⟨s, 1, none⟩ = some (.int .i64 su) := (HP.out _ hb10).cell rfl
    have g0 : W10.cell? ⟨g, 0, none⟩ = some (.int .i64 x.ship.legs) := (HG.out _ hb10).cell rfl
    have HC := Lib.hid (HSC0.out W10)
    go_wp2_with fail
    refine HC.out.mono ?_
    rintro e w11 ⟨rfl, hb11⟩
    have hbx := hb10.trans (hb11.mono hb10.size)
    clear s0 s1 g0 HC
    by_cases d3 : se = 0
    rotate_left
    · have HO := Lib.hid (show oe = se by rw [HOE2.out, if_pos d3])
      have d3' : (se == 0) = false := by simpa using d3
      have D3 := Lib.hid d3
      have HB11 := Lib.hid hb11
      clear hb11
      clear d3
      go_wp2_with fail
      go_meet
      exact ⟨rfl, rfl, by rw [HO.out], rfl, rfl, ⟨none, 0, 0, rfl, by rw [HO.out, okL_ne D3.out]; exact Sl.nil _ _ _ _⟩, HPACK.out _ HB11.out⟩
    have HOE3 := Lib.hid (HOE2.out.trans (if_neg (by rw [d3]; simp)))
    subst d3
    have g9 : w11.cell? ⟨g, 9, none⟩ = some (.int .i64 x.day) := (HG.out _ hbx).cell rfl
    have g10 : w11.cell? ⟨g, 10, none⟩ = some (.int .i64 x.leaves) := (HG.out _ hbx).cell rfl
    have g11 : w11.cell? ⟨g, 11, none⟩ = some (.slice C nb cb) := (HG.out _ hbx).cell rfl
    have HB11 := Lib.hid hb11
    clear hb11
    by_cases d4 : x.leaves ≤ x.day
    · have HO := Lib.hid (show oe = 4 by rw [HOE3.out, if_pos d4])
      have d4' : decide (x.leaves ≤ x.day) = true := decide_eq_true d4
      clear d4
      go_wp2_with fail
      go_meet
      exact ⟨rfl, rfl, by rw [HO.out], rfl, rfl, ⟨none, 0, 0, rfl, by rw [HO.out, okL_ne (by decide)]; exact Sl.nil _ _ _ _⟩, HPACK.out _ HB11.out⟩
    have d4' : decide (x.leaves ≤ x.day) = false := decide_eq_false d4
    have HOE4 := Lib.hid (HOE3.out.trans (if_neg d4))
    clear d4
    by_cases d5 : nb = 16
    · have HO := Lib.hid (show oe = 2 by rw [HOE4.out, if_pos d5])
      subst d5
      go_wp2_with fail
      go_meet
      exact ⟨rfl, rfl, by rw [HO.out], rfl, rfl, ⟨none, 0, 0, rfl, by rw [HO.out, okL_ne (by decide)]; exact Sl.nil _ _ _ _⟩, HPACK.out _ HB11.out⟩
    have HO := Lib.hid (show oe = 0 by rw [HOE4.out, if_neg d5])
    have d5' : ((nb : Int) == 16) = false := by simp; omega
    have s0 : w11.cell? ⟨s, 0, none⟩ = some (.int .i64 sf) := (HP.out _ hbx).cell rfl
    have s1 : w11.cell? ⟨s, 1, none⟩ = some (.int .i64 su) := (HP.out _ hbx).cell rfl
    have HC := Lib.hid (HOO0.out w11 (HSX.out _ hbx) HSAI.out)
    have HGX := Lib.hid (HG.out _ hbx)
    clear d5
    go_wp2_with (refine wpList_load_row rfl 32 (.tmp 5) rfl g rfl 32 _ (0, 0) _ HGX.out Tryz.underlying32 rfl (by kernel_rfl) ?_)
    refine HC.out.mono ?_
    rintro e w12 ⟨v, xs, rfl, hO, hb12⟩
    obtain ⟨A6, n6, c6, rfl, hs6'⟩ := hO.sl intC_good
    replace hs6' := hs6'.all intC_good (by omega)
    have HS6 := Lib.hid hs6'
    have HB12 := Lib.hid (HB11.out.trans (hb12.mono HB11.out.size))
    clear hO hs6' hb12
    go_wp2_with fail
    go_meet
    exact ⟨rfl, rfl, by rw [HO.out], rfl, rfl, ⟨_, _, _, rfl, by rw [HO.out, okL_zero]; exact HS6.out⟩, HPACK.out _ HB12.out⟩
  obtain ⟨rfl, rfl, rfl, rfl, rfl, ⟨A6, n6, c6, rfl, hA6⟩, ⟨y3, p3, hZ3, hy3, hS3⟩, ⟨y4, p4, hZ4, hy4, hS4⟩, hK⟩ := hcut
  obtain ⟨W7, hW7⟩ : ∃ V, V = wc := ⟨_, rfl⟩
  subst hW7
  have hb7 : Below W0.heap.size W0 W7 := hb.trans (hK.below (B := W0.heap.size) hb.size (fun k hk e => by omega))
  have hb57 : Below W5.heap.size W5 W7 := HB5.out.trans (hK.below (B := W5.heap.size) HB5.out.size (fun k hk e => by omega))
  replace HZ1 := Lib.hid (HZ1.out.kept hK (fun e => by omega))
  replace HZ2 := Lib.hid (HZ2.out.kept hK (fun e => by omega))
  replace HS1 := Lib.hid (HS1.out W7 hb57)
  replace HS2 := Lib.hid (HS2.out W7 hb57)
  replace HA4 := Lib.hid (HA4.out W7 hb57)
  have HZ3 := Lib.hid hZ3
  have HZ4 := Lib.hid hZ4
  have HS3 := Lib.hid hS3
  have HS4 := Lib.hid hS4
  have HY3 := Lib.hid (show y1 = okS e1 y3 by rw [HY1.out, hy3])
  have HY4 := Lib.hid (show y2 = okS e2 y4 by rw [HY2.out, hy4])
  have HA6 := Lib.hid hA6
  clear hZ3 hZ4 hS3 hS4 hy3 hy4 hA6 hK hb hb57
  -- the answer
  go_wp2_with fail
  refine (sellBegun_any _).mono ?_
  rintro e w13 ⟨rfl, hb1⟩
  replace HZ1 := Lib.hid (HZ1.out.bel hb1)
  replace HZ2 := Lib.hid (HZ2.out.bel hb1)
  replace HZ3 := Lib.hid (HZ3.out.bel hb1)
  replace HZ4 := Lib.hid (HZ4.out.bel hb1)
  replace HS1 := Lib.hid (HS1.out.bel hb1)
  replace HS2 := Lib.hid (HS2.out.bel hb1)
  replace HS3 := Lib.hid (HS3.out.bel hb1)
  replace HS4 := Lib.hid (HS4.out.bel hb1)
  replace HA4 := Lib.hid (HA4.out.bel hb1)
  replace HA6 := Lib.hid (HA6.out.bel hb1)
  replace hb7 := hb7.trans (hb1.mono hb7.size)
  clear hb1
  obtain ⟨a0, a1, a2, a3, a4, a5, a6, a7, a8, a9, a10, a11, a12⟩ := saiCells HZ1.out
  obtain ⟨f0, f1, f2, f3, f4, f5, f6, f7, f8, f9, f10, f11, f12⟩ := saiCells HZ3.out
  have HC := Lib.hid (sailingIs_any y1 y3 p1 p3 e1 w13 HS1.out HS3.out HY3.out)
  go_wp2_with fail
  refine HC.out.mono ?_
  rintro e w14 ⟨rfl, hb1⟩
  replace HZ2 := Lib.hid (HZ2.out.bel hb1)
  replace HZ4 := Lib.hid (HZ4.out.bel hb1)
  replace HS2 := Lib.hid (HS2.out.bel hb1)
  replace HS4 := Lib.hid (HS4.out.bel hb1)
  replace HA4 := Lib.hid (HA4.out.bel hb1)
  replace HA6 := Lib.hid (HA6.out.bel hb1)
  replace hb7 := hb7.trans (hb1.mono hb7.size)
  clear hb1 HC a0 a1 a2 a3 a4 a5 a6 a7 a8 a9 a10 a11 a12 f0 f1 f2 f3 f4 f5 f6 f7 f8 f9 f10 f11 f12
  obtain ⟨a0, a1, a2, a3, a4, a5, a6, a7, a8, a9, a10, a11, a12⟩ := saiCells HZ2.out
  obtain ⟨f0, f1, f2, f3, f4, f5, f6, f7, f8, f9, f10, f11, f12⟩ := saiCells HZ4.out
  have HC := Lib.hid (sailingIs_any y2 y4 p2 p4 e2 w14 HS2.out HS4.out HY4.out)
  go_wp2_with fail
  refine HC.out.mono ?_
  rintro e w15 ⟨rfl, hb1⟩
  have hi := intsAre_any A4 A6 n4 c4 n6 c6 (okL oe ol) (okL oe ol) oe oe w15 (HA4.out.bel hb1) (HA6.out.bel hb1)
  rw [sells_ints] at hi
  have HI := Lib.hid hi
  clear hi
  replace hb7 := hb7.trans (hb1.mono hb7.size)
  clear hb1 HC a0 a1 a2 a3 a4 a5 a6 a7 a8 a9 a10 a11 a12 f0 f1 f2 f3 f4 f5 f6 f7 f8 f9 f10 f11 f12
  go_wp2_with fail
  refine HI.out.mono ?_
  rintro e w16 ⟨rfl, hb1⟩
  go_wp2_with fail
  go_ret
  exact ⟨rfl, HT.out _ (hb7.trans (hb1.mono hb7.size))⟩
set_option maxRecDepth 100000 in
theorem SellTells_lifted (os : Os) (started : os.Started) (H : Type) (enc : TypeId × Value → H) :
    ReturnsInHanded {} Tryz.checked os 9 .any (Rows.sellTellsSpec.pre6 enc Tryz.prog Tryz.f9 Rows.sellTellsRow.domain false) (Rows.sellTellsSpec.post enc Tryz.prog Tryz.f9 false true false false) := by
  refine returnsInHanded_of_change (C := Tryz.checked) own started (by kernel_rfl) Tryz.func9
    (ChangeSpec.witness6 (enc := enc) (C := Tryz.checked) false ⟨#[], #[.agg #[.int .i64 0, .int .i64 0, .slice none 0 0, .slice none 0 0, .slice none 0 0, .int .i64 0, .int .i64 0, .slice none 0 0, .int .i64 0, .int .i64 0, .int .i64 0, .slice none 0 0, .bool false], .agg #[.int .i64 0, .int .i64 0, .int .i64 0, .int .i64 0, .bool false, .int .i64 0, .int .i64 0, .int .i64 0, .int .i64 0, .int .i64 0, .slice none 0 0], .int .i64 0, .bool false, .agg #[.int .i64 0, .int .i64 0]], []⟩ 8 (by kernel_rfl) (by kernel_rfl) (by kernel_rfl) (by kernel_rfl)) ?_
  intro W base args ds gs before hval0 hW hcnd _
  have hval : ∀ (j : Nat) t v, Tryz.f9.params[j]? = some t → args[j]? = some v → Value.okWide Tryz.prog W .any base t v := hval0
  have hW' := hW
  obtain ⟨p, q, hA0, hV, rfl, hfz, hnd⟩ := hW
  have hA : DataW.TrodAll enc Tryz.prog W 0 (fun _ => true) true Tryz.f9.params.toList args.toList ds p := hA0
  rw [Tryz.params9] at hA hval
  obtain ⟨v0, vs0, d0, ds0, p0, q0, hargs, rfl, rfl, h0, r0⟩ := trodAll_cons hA
  obtain ⟨v1, vs1, d1, ds1, p1, q1, rfl, rfl, rfl, h1, r1⟩ := trodAll_cons r0
  obtain ⟨v2, vs2, d2, ds2, p2, q2, rfl, rfl, rfl, h2, r2⟩ := trodAll_cons r1
  obtain ⟨v3, vs3, d3, ds3, p3, q3, rfl, rfl, rfl, h3, r3⟩ := trodAll_cons r2
  obtain ⟨v4, vs4, d4, ds4, p4, q4, rfl, rfl, rfl, h4, r4⟩ := trodAll_cons r3
  obtain ⟨rfl, rfl, rfl⟩ := trodAll_nil r4
  obtain rfl : args = #[v0, v1, v2, v3, v4] := by cases args; simp_all
  obtain ⟨rfl, rfl⟩ := trodVars_none hV
  have lt0 := arg_lt h0
  have k0 := h0
  obtain ⟨cs0, a0, rfl, w0⟩ := arg_agg (c := saiC) Tryz.underlying32 opens_saiC (hval 0 32 v0 rfl rfl) h0
  have lt1 := arg_lt h1
  have k1 := h1
  obtain ⟨cs1, a1, rfl, w1⟩ := arg_agg (c := bkgC) Tryz.underlying42 opens_bkgC (hval 1 42 v1 rfl rfl) h1
  have lt2 := arg_lt h2
  have k2 := h2
  obtain ⟨a2, rfl, w2⟩ := arg_int Tryz.underlying3 (hval 2 3 v2 rfl rfl) h2
  have lt3 := arg_lt h3
  have k3 := h3
  obtain ⟨a3, rfl⟩ := arg_bool Tryz.underlying4 (hval 3 4 v3 rfl rfl)
  have lt4 := arg_lt h4
  have k4 := h4
  obtain ⟨cs4, a4, rfl, w4⟩ := arg_agg (c := spanC) Tryz.underlying39 opens_spanC (hval 4 39 v4 rfl rfl) h4
  clear hA0 hval0
  refine (SellTells_walk W cs0 a0 w0 cs1 a1 w1 a2 w2 a3 cs4 a4 w4).mono fun e W' ⟨he, bel⟩ => ?_
  subst he
  exact ⟨_, rfl, _, _, _, [], _, [], hW', trodAll_mk1 (shut_bool Tryz.underlying4 _), (trodAll_cons_mk (Below.trod laidOut (by kernel_rfl) (of_decide_eq_true (by kernel_rfl)) k0 bel lt0) (trodAll_cons_mk (Below.trod laidOut (by kernel_rfl) (of_decide_eq_true (by kernel_rfl)) k1 bel lt1) (trodAll_cons_mk (Below.trod laidOut (by kernel_rfl) (of_decide_eq_true (by kernel_rfl)) k2 bel lt2) (trodAll_cons_mk (Below.trod laidOut (by kernel_rfl) (of_decide_eq_true (by kernel_rfl)) k3 bel lt3) (trodAll_cons_mk (Below.trod laidOut (by kernel_rfl) (of_decide_eq_true (by kernel_rfl)) k4 bel lt4) trodAll_mk0))))), rfl, bel.frame _, fun h => by cases h⟩

/-- THE GIVEN STATEMENT SellTells. -/
theorem sellTells_holds : Rows.SellTellsSaid :=
  OpenClaim.holds_of_wide 9 Tryz.f9 rfl rfl rfl rfl rfl rfl rfl ⟨rfl, rfl, rfl, rfl, rfl⟩ rfl rfl rfl rfl rfl (by kernel_rfl) Tryz.func9 (by kernel_rfl)
    (of_decide_eq_true (by kernel_rfl)) (by unfold Func.isWrapper; rw [if_neg (of_decide_eq_false (by kernel_rfl))]; exact ⟨rfl, rfl⟩)
    (fun os started H enc _ => SellTells_lifted os started H enc)
#print axioms sellTells_holds
end Go.Proofs.YtlablioefblmkaaGreat
