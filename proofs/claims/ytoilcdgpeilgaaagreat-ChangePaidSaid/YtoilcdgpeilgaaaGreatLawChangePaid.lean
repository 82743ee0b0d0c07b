/-
  The law ChangePaid returns true, whatever it is handed, and changes nothing that was there.
-/
import Derived.Test.YtoilcdgpeilgaaaGreatBun0
import Derived.Test.YtoilcdgpeilgaaaGreatBun29
import Derived.Test.YtoilcdgpeilgaaaGreatBun35
import Derived.Test.YtoilcdgpeilgaaaGreatBun39
import Derived.BigQuiet
set_option linter.unusedSimpArgs false
set_option linter.unusedVariables false
namespace Go.Proofs.YtoilcdgpeilgaaaGreat
open Go.ChangeShapes Go.WideShapes Go.ChangeAt Go.RowKit Go.Shelf

set_option maxRecDepth 100000 in
set_option maxHeartbeats 20000000 in
theorem ChangePaid_walk (W : World) (cs0 : Array Value) (x : Sai) (hx0 : saiC W All x cs0.toList) (id : Int) (iid : InI id) (cbn : Int) (icb : InI cbn) :
    Calls Tryz.prog 6 #[.agg cs0, .int .i64 id, .int .i64 cbn] W fun e w' => e = .returned (.bool true) ∧ Below W.heap.size W w' := by
  obtain ⟨p, rfl, hS, i1, i2, _, _⟩ := sai_in hx0
  have HP2 := Lib.hid (fun a X hX ia => Pay_any x p id a X hX iid ia)
  have HP3 := Lib.hid (fun X hX => CancelS_any x p id X hX iid)
  have HP4 := Lib.hid (fun X hX => Move_any x p id cbn X hX iid icb)
  have HP5 := Lib.hid (fun Y q X a hX ia => Move_any Y q id a X hX iid ia)
  have HCS0 := Lib.hid (fun X hX => CheckSailing_any x p X hX)
  have HBA0 := Lib.hid (fun X hl => BookingAt_any x p id X hl)
  have HSS0 := Lib.hid (fun q X h1 h2 => SameSailing_any x q p X h1 h2)
  obtain ⟨r, hr⟩ : ∃ r, r = saiE x := ⟨_, rfl⟩
  obtain ⟨ai, hai⟩ : ∃ r, r = atI x.bks id := ⟨_, rfl⟩
  have HR := Lib.hid hr
  have HAI := Lib.hid (show r = 0 → ai = -1 ∨ ∃ (k : Nat) (b : Bkg), ai = (k : Int) ∧ k = posI x.bks id ∧ x.bks[k]? = some b from fun q => by
    rw [hai]
    by_cases h : hasId x.bks id = true
    · obtain ⟨b, h1, _, _, h4⟩ := idxF_has (rise_of (sai_ok (hr.symm.trans q)).bs.rise) h
      exact .inr ⟨_, b, h4, rfl, h1⟩
    · exact .inl (atI_no (Bool.eq_false_iff.2 h)))
  rw [← hr] at HCS0
  rw [← hai] at HBA0
  have HLN := Lib.hid (show x.bks.length = p.nb from hS.bks.len)
  have HS := Lib.hid hS
  clear hr hai hS hx0 i1 i2 iid icb
  obtain ⟨A, n, cap, B, m, cap2, D, nd, cd, E, ne, ce, C, nb, cb⟩ := p
  simp only at HLN
  go_enter Tryz.func6, Tryz.ntmps6
  go_upto_region 0 with (fail)
  go_cut [3, 6] (fun p _ wx => ∃ g, p = .pointer (some ⟨g, 0, none⟩) ∧ Blk wx g (saiA x ⟨A, n, cap, B, m, cap2, D, nd, cd, E, ne, ce, C, nb, cb⟩) 32 ∧ Below W.heap.size W wx)
  case first => as_aux_lemma =>
    go_wp2_with fail
    go_meet
    exact ⟨_, rfl, blk1 _ _, bel1 _ _⟩
  obtain ⟨g, rfl, hG, hb0⟩ := hcut
  obtain ⟨W0, hW0⟩ : ∃ V, V = wc := ⟨_, rfl⟩
  subst hW0
  have HT := Lib.hid (fun X (hX : Below W0.heap.size W0 X) => hb0.trans (hX.mono hb0.size))
  have HG := Lib.hid (fun X (hX : Below W0.heap.size W0 X) => hG.bel hX)
  have HSX := Lib.hid (fun X (hX : Below W0.heap.size W0 X) => HS.out.bel (HT.out X hX))
  clear hG hb0
  go_wp2_with fail
  refine (changeBegun_any _).mono ?_
  rintro e v1 ⟨rfl, hb⟩
  go_wp2_with fail
  refine (folioBegun_any _).mono ?_
  rintro e v2 ⟨rfl, hb2⟩
  replace hb := hb.trans (hb2.mono hb.size)
  clear hb2
  have HC := Lib.hid (HBA0.out _ (HSX.out _ hb).bks)
  go_wp2_with (refine wpList_load_row rfl 32 (.tmp 3) rfl g rfl 32 _ (0, 0) _ (HG.out _ hb) Tryz.underlying32 rfl (by kernel_rfl) ?_)
  refine HC.out.mono ?_
  rintro e v3 ⟨rfl, hb2⟩
  replace hb := hb.trans (hb2.mono hb.size)
  clear hb2 HC HBA0
  have HC := Lib.hid (HCS0.out _ (HSX.out _ hb))
  go_wp2_with (refine wpList_load_row rfl 32 (.tmp 3) rfl g rfl 32 _ (0, 0) _ (HG.out _ hb) Tryz.underlying32 rfl (by kernel_rfl) ?_)
  refine HC.out.mono ?_
  rintro e v4 ⟨rfl, hb2⟩
  replace hb := hb.trans (hb2.mono hb.size)
  clear hb2 HC HCS0
  by_cases q0 : r = 0
  rotate_left
  · have q1 : (r != 0) = true := by simpa using q0
    clear q0
    go_wp2_with fail
    go_ret
    exact ⟨rfl, HT.out _ hb⟩
  have HOK := Lib.hid (sai_ok (HR.out.symm.trans q0))
  rcases HAI.out q0 with h0 | ⟨k, b, hk, hkp, hbk⟩
  · subst h0 q0
    go_wp2_with fail
    go_ret
    exact ⟨rfl, HT.out _ hb⟩
  subst hk q0
  have HBK := Lib.hid hbk
  have HKP := Lib.hid hkp
  have hkl := (List.getElem?_eq_some_iff.1 hbk).1
  have hlt : k < nb := by rw [← HLN.out]; exact hkl
  have hk0 : (0 : Int) ≤ (k : Int) := Int.natCast_nonneg _
  have hk1 : (k : Int) < (nb : Int) := by omega
  have hk2 : decide ((k : Int) < 0) = false := decide_eq_false (by omega)
  have hbo := HOK.out.bs.bk b (List.mem_of_getElem? hbk)
  have hfo := hbo.fol
  obtain ⟨du, hdu⟩ : ∃ q, q = dueOf b.fol := ⟨_, rfl⟩
  have hdb : -1200000000 ≤ du ∧ du ≤ 1200000000 := by rw [hdu]; exact check_sum hfo (fun _ => true)
  obtain ⟨ab, off, A3, n3, c3, hA, _, hcel, hF, hI⟩ := (HSX.out _ hb).bk hbk
  simp only at hA
  subst hA
  have HROW := Lib.hid (show ∀ V, Below v4.heap.size v4 V → V.cell? ⟨g, 11, none⟩ = some (.slice (some ⟨ab, off, none⟩) nb cb) ∧ V.cell? ⟨ab, off + k * 11 + 2, none⟩ = some (.int .i64 b.state) ∧ V.cell? ⟨ab, off + k * 11 + 5, none⟩ = some (.int .i64 b.cab) ∧ V.cell? ⟨ab, off + k * 11 + 10, none⟩ = some (.slice A3 n3 c3) from fun V hV =>
    ⟨(HG.out _ (hb.trans (hV.mono hb.size))).cell rfl, cellB hV (hcel 2 _ rfl), cellB hV (hcel 5 _ rfl), cellB hV (hcel 10 _ rfl)⟩)
  have HICB := Lib.hid hI.cab
  have HFL := Lib.hid (show b.fol.length = n3 from hF.len)
  have HOW := Lib.hid (Owed_any A3 n3 c3 b.fol v4 hF)
  rw [hfo, okI_zero, ← hdu] at HOW
  have hn3 : n3 ≤ 12 := by have := check_len hfo; rw [hF.len] at this; exact this
  have HDU := Lib.hid hdu
  have hx4 : Below v4.heap.size v4 v4 := Below.refl _ _
  obtain ⟨g11, c2, c5, c10⟩ := HROW.out _ hx4
  clear hbk hkp hkl hbo hfo hdu hcel hF hI HAI HR
  go_wp2_with fail
  refine HOW.out.mono ?_
  rintro e v5 ⟨rfl, hb2⟩
  replace hb := hb.trans (hb2.mono hb.size)
  replace hx4 := hx4.trans (hb2.mono hx4.size)
  clear hb2 HOW g11 c2 c5 c10
  obtain ⟨e2, he2⟩ : ∃ q, q = paidEx x id du := ⟨_, rfl⟩
  obtain ⟨X2, hX2⟩ : ∃ q, q = paidX x id du := ⟨_, rfl⟩
  have HC2 := Lib.hid (fun X hX => HP2.out du X hX (.of (by omega) (by omega)))
  rw [← he2, ← hX2] at HC2
  have HPA := Lib.hid (show e2 = 0 → X2.bks[k]? = some { b with fol := b.fol ++ [⟨x.day, 2, -du⟩] } ∧ checkFolio (b.fol ++ [⟨x.day, 2, -du⟩]) = 0 ∧ dueOf (b.fol ++ [⟨x.day, 2, -du⟩]) = 0 from fun q => by
    have h := paid_at (he2.symm.trans q) HKP.out HBK.out
    rw [hX2]
    exact ⟨h.1, h.2, by rw [HDU.out]; exact due_snoc _ _ _⟩)
  clear he2 hX2 hdb HP2
  have HX5 := Lib.hid hx4
  have HB5 := Lib.hid hb
  clear hx4
  go_upto_region 9 with (fail)
  go_cut [10, 9] (fun q e wx => e = .int .i64 e2 ∧ (∃ z y p', q = .pointer (some ⟨z, 0, none⟩) ∧ Blk wx z (saiA y p') 32 ∧ y = okS e2 X2 ∧ SaiR wx y p') ∧ Below v5.heap.size v5 wx)
  case first =>
    have HC := Lib.hid (HC2.out _ (HSX.out _ hb))
    have HB4 := Lib.hid (Below.refl v5.heap.size v5)
    go_wp2_with (refine wpList_load_row rfl 32 (.tmp 3) rfl g rfl 32 _ (0, 0) _ (HG.out _ hb) Tryz.underlying32 rfl (by kernel_rfl) ?_)
    go_wp2_with fail
    refine HC.out.mono ?_
    rintro e w8 ⟨⟨y, p', rfl, hy, hO⟩, hb8⟩
    have HO8 := Lib.hid hO.sai
    have HY8 := Lib.hid hy
    have HB8 := Lib.hid (HB4.out.trans (hb8.mono HB4.out.size))
    clear hO hy hb8
    go_wp2_with (refine wpList_store_row rfl 32 (.tmp 10) (.tmp 50) rfl w8.heap.size (saiA y p') rfl rfl 32 _ (Blk.new w8 #[.int .i64 0, .int .i64 0, .slice none 0 0, .slice none 0 0, .slice none 0 0, .int .i64 0, .int .i64 0, .slice none 0 0, .int .i64 0, .int .i64 0, .int .i64 0, .slice none 0 0, .bool false] 32) (by kernel_rfl) rfl (by simp [Value.oneCell']) ?_)
    go_meet
    have hbe : Below w8.heap.size w8 ((w8.alloc (.cells #[.int .i64 0, .int .i64 0, .slice none 0 0, .slice none 0 0, .slice none 0 0, .int .i64 0, .int .i64 0, .slice none 0 0, .int .i64 0, .int .i64 0, .int .i64 0, .slice none 0 0, .bool false] 32)).setRow w8.heap.size (saiA y p')) := below_setRow (bel1 w8 _) (Nat.le_refl _) _
    exact ⟨rfl, ⟨_, y, p', rfl, (Blk.new w8 _ _).row _, HY8.out, HO8.out.bel hbe⟩, HB8.out.trans (hbe.mono HB8.out.size)⟩
  obtain ⟨rfl, ⟨z2, y2, p2, rfl, hZ2, hy2, hS2⟩, hbn⟩ := hcut
  obtain ⟨V1, hV1⟩ : ∃ V, V = wc := ⟨_, rfl⟩
  subst hV1
  have HZ2 := Lib.hid hZ2
  have HS2 := Lib.hid hS2
  have HY2 := Lib.hid hy2
  replace hb := hb.trans (hbn.mono hb.size)
  clear hZ2 hS2 hy2
  have HX6 := Lib.hid (HX5.out.trans (hbn.mono HX5.out.size))
  clear hbn HB5 HX5
  go_upto_if 53 with (fail)
  go_cut [] (fun wx => Below V1.heap.size V1 wx)
  case first =>
    by_cases q1 : e2 = 0
    rotate_left
    · have q2 : (e2 == 0) = false := by simpa using q1
      clear q1
      go_wp2_with fail
      go_meet
      exact Below.refl _ _
    obtain ⟨h1, h2, h3⟩ := HPA.out q1
    have hy2 := HY2.out
    rw [q1, okS_zero] at hy2
    subst hy2 q1
    obtain ⟨ab2, off2, A4, n4, c4, hA2, hl2, hcel2, hF2, _⟩ := HS2.out.bk h1
    have z11 : V1.cell? ⟨z2, 11, none⟩ = some (.slice (some ⟨ab2, off2, none⟩) p2.nb p2.cb) := by rw [← hA2]; exact HZ2.out.cell rfl
    have z10 : V1.cell? ⟨ab2, off2 + k * 11 + 10, none⟩ = some (.slice A4 n4 c4) := hcel2 10 _ rfl
    have hk3 : (k : Int) < (p2.nb : Int) := by have := (List.getElem?_eq_some_iff.1 h1).1; omega
    have HOW := Lib.hid (Owed_any A4 n4 c4 _ V1 hF2)
    rw [show (({ b with fol := b.fol ++ [⟨x.day, 2, -du⟩] } : Bkg)).fol = b.fol ++ [⟨x.day, 2, -du⟩] from rfl, h2, okI_zero, h3] at HOW
    clear h1 h2 h3 hA2 hl2 hcel2 hF2
    go_wp2_with fail
    refine HOW.out.mono ?_
    rintro e v6 ⟨rfl, hb6⟩
    clear HOW z11 z10
    go_wp2_with fail
    go_meet
    exact hb6
  replace hb := hb.trans (hcut.mono hb.size)
  have HX7 := Lib.hid (HX6.out.trans (hcut.mono HX6.out.size))
  obtain ⟨V2, hV2⟩ : ∃ V, V = wc := ⟨_, rfl⟩
  subst hV2
  clear hcut HX6 HZ2 HS2 HY2 HPA HC2
  obtain ⟨e3, he3⟩ : ∃ q, q = goneEx x id := ⟨_, rfl⟩
  obtain ⟨X3, hX3⟩ : ∃ q, q = goneX x id := ⟨_, rfl⟩
  have HC3 := Lib.hid HP3.out
  rw [← he3, ← hX3] at HC3
  have HGA := Lib.hid (show X3.bks[k]? = some (goneB x b x.day) by rw [hX3]; exact gone_at HKP.out HBK.out)
  clear he3 hX3 HP3
  go_upto_region 14 with (fail)
  go_cut [13, 9] (fun q e wx => e = .int .i64 e3 ∧ (∃ z y p', q = .pointer (some ⟨z, 0, none⟩) ∧ Blk wx z (saiA y p') 32 ∧ y = okS e3 X3 ∧ SaiR wx y p') ∧ Below V2.heap.size V2 wx)
  case first =>
    have HC := Lib.hid (HC3.out _ (HSX.out _ hb))
    have HB4 := Lib.hid (Below.refl V2.heap.size V2)
    go_wp2_with (refine wpList_load_row rfl 32 (.tmp 3) rfl g rfl 32 _ (0, 0) _ (HG.out _ hb) Tryz.underlying32 rfl (by kernel_rfl) ?_)
    go_wp2_with fail
    refine HC.out.mono ?_
    rintro e w8 ⟨⟨y, p', rfl, hy, hO⟩, hb8⟩
    have HO8 := Lib.hid hO.sai
    have HY8 := Lib.hid hy
    have HB8 := Lib.hid (HB4.out.trans (hb8.mono HB4.out.size))
    clear hO hy hb8
    go_wp2_with (refine wpList_store_row rfl 32 (.tmp 13) (.tmp 74) rfl w8.heap.size (saiA y p') rfl rfl 32 _ (Blk.new w8 #[.int .i64 0, .int .i64 0, .slice none 0 0, .slice none 0 0, .slice none 0 0, .int .i64 0, .int .i64 0, .slice none 0 0, .int .i64 0, .int .i64 0, .int .i64 0, .slice none 0 0, .bool false] 32) (by kernel_rfl) rfl (by simp [Value.oneCell']) ?_)
    go_meet
    have hbe : Below w8.heap.size w8 ((w8.alloc (.cells #[.int .i64 0, .int .i64 0, .slice none 0 0, .slice none 0 0, .slice none 0 0, .int .i64 0, .int .i64 0, .slice none 0 0, .int .i64 0, .int .i64 0, .int .i64 0, .slice none 0 0, .bool false] 32)).setRow w8.heap.size (saiA y p')) := below_setRow (bel1 w8 _) (Nat.le_refl _) _
    exact ⟨rfl, ⟨_, y, p', rfl, (Blk.new w8 _ _).row _, HY8.out, HO8.out.bel hbe⟩, HB8.out.trans (hbe.mono HB8.out.size)⟩
  obtain ⟨rfl, ⟨z3, y3, p3, rfl, hZ3, hy3, hS3⟩, hbn⟩ := hcut
  obtain ⟨V3, hV3⟩ : ∃ V, V = wc := ⟨_, rfl⟩
  subst hV3
  have HZ3 := Lib.hid hZ3
  have HS3 := Lib.hid hS3
  have HY3 := Lib.hid hy3
  replace hb := hb.trans (hbn.mono hb.size)
  clear hZ3 hS3 hy3
  have HX8 := Lib.hid (HX7.out.trans (hbn.mono HX7.out.size))
  clear hbn HX7 HC3
  obtain ⟨st, hst⟩ : ∃ q, q = b.state := ⟨_, rfl⟩
  obtain ⟨tv, htv⟩ : ∃ q, q = (decide (e3 = 0) && decide (st = 1)) := ⟨_, rfl⟩
  have HTV := Lib.hid htv
  clear htv
  have HST := Lib.hid hst
  clear hst
  obtain ⟨g11, c2, c5, c10⟩ := HROW.out _ HX8.out
  rw [← HST.out] at c2
  go_upto_region 15 with (fail)
  go_cut [86] (fun q wx => q = .bool tv ∧ V3 = wx)
  case first => as_aux_lemma =>
    by_cases q1 : e3 = 0
    · obtain rfl : tv = decide (st = 1) := by rw [HTV.out, decide_eq_true q1]; rfl
      subst q1
      by_cases q2 : st = 1
      · have q3 : decide (st = 1) = true := decide_eq_true q2
        have Q3 := Lib.hid q3
        subst q2
        clear q3
        go_wp2_with fail
        go_meet
        exact ⟨by rw [Q3.out], rfl⟩
      · have q3 : decide (st = 1) = false := decide_eq_false q2
        have q4 : (st == 1) = false := by simpa using q2
        have Q3 := Lib.hid q3
        clear q2 q3
        go_wp2_with fail
        go_meet
        exact ⟨by rw [Q3.out], rfl⟩
    · obtain rfl : tv = false := by rw [HTV.out, decide_eq_false q1]; rfl
      have q2 : (e3 == 0) = false := by simpa using q1
      clear q1
      go_wp2_with fail
      go_meet
      exact ⟨rfl, rfl⟩
  obtain ⟨rfl, rfl⟩ := hcut
  go_upto_if 86 with (fail)
  go_cut [] (fun wx => V3 = wx)
  case first =>
    cases tv
    · skip
      go_wp2_with fail
      go_meet
      exact rfl
    obtain ⟨h1, h2⟩ := Bool.and_eq_true_iff.1 HTV.out.symm
    have q1 := of_decide_eq_true h1
    have q2 := of_decide_eq_true h2
    have hy3 := HY3.out
    rw [q1, okS_zero] at hy3
    subst hy3
    obtain ⟨ab3, off3, A5, n5, c5', hA3, hl3, hcel3, hF3, _⟩ := HS3.out.bk HGA.out
    have z11 : V3.cell? ⟨z3, 11, none⟩ = some (.slice (some ⟨ab3, off3, none⟩) p3.nb p3.cb) := by rw [← hA3]; exact HZ3.out.cell rfl
    have z10 : V3.cell? ⟨ab3, off3 + k * 11 + 10, none⟩ = some (.slice A5 n5 c5') := hcel3 10 _ rfl
    have hk3 : (k : Int) < (p3.nb : Int) := by have := (List.getElem?_eq_some_iff.1 HGA.out).1; omega
    have HKI := Lib.hid (gone_opt (x := x) (day := x.day) (b := b) (HST.out.symm.trans q2))
    have HF3 := Lib.hid hF3
    have hbd3 := hF3.bd
    clear h1 h2 q1 q2 hA3 hl3 hcel3 hF3
    go_wp2_with fail
    go_loopg [14] n5 (fun gk i wr => ∃ j : Nat, n3 ≤ j ∧ n5 - j ≤ gk ∧ i = .int .i64 j ∧ wr = V3)
    case atStart => exact ⟨n3, Nat.le_refl _, by omega, rfl, rfl⟩
    case round =>
      obtain ⟨j, hj, hgk, rfl, rfl⟩ := hrel
      by_cases hjl : j < n5
      · obtain ⟨a6, o6, y6, d0, d1, d2, rfl, hy6, ⟨hcs, _, _, _⟩, w0, w1, w2⟩ := HF3.out.at3 hjl
        simp only [List.cons.injEq, and_true] at hcs
        obtain ⟨rfl, rfl, rfl⟩ := hcs
        have hkd := HKI.out j y6 (by rw [HFL.out]; exact hj) hy6
        rw [hkd] at w1
        have hj0 : (0 : Int) ≤ (j : Int) := Int.natCast_nonneg _
        have hj1 : (j : Int) < (n5 : Int) := by omega
        clear hy6 hkd
        go_wp2_with fail
        go_roundg (n5 - (j + 1))
        case measure => omega
        case rel => exact ⟨j + 1, by omega, by omega, by go_num, rfl⟩
      · skip
        go_wp2_with fail
        go_meet
        exact rfl
  subst hcut
  clear HZ3 HS3 HY3 HGA g11 c2 c5 c10 HTV
  obtain ⟨e4, he4⟩ : ∃ q, q = moveEx x id cbn := ⟨_, rfl⟩
  obtain ⟨X4, hX4⟩ : ∃ q, q = moveX x id cbn := ⟨_, rfl⟩
  have HC4 := Lib.hid HP4.out
  rw [← he4, ← hX4] at HC4
  have HMB := Lib.hid (show e4 = 0 → moveEx X4 id b.cab = 0 ∧ moveX X4 id b.cab = x from fun q => by rw [hX4]; exact move_back (he4.symm.trans q) HKP.out HBK.out)
  clear he4 hX4 HP4
  go_upto_region 21 with (fail)
  go_cut [15, 9] (fun q e wx => e = .int .i64 e4 ∧ (∃ z y p', q = .pointer (some ⟨z, 0, none⟩) ∧ Blk wx z (saiA y p') 32 ∧ y = okS e4 X4 ∧ SaiR wx y p') ∧ Below V3.heap.size V3 wx)
  case first =>
    have HC := Lib.hid (HC4.out _ (HSX.out _ hb))
    have HB4 := Lib.hid (Below.refl V3.heap.size V3)
    go_wp2_with (refine wpList_load_row rfl 32 (.tmp 3) rfl g rfl 32 _ (0, 0) _ (HG.out _ hb) Tryz.underlying32 rfl (by kernel_rfl) ?_)
    go_wp2_with fail
    refine HC.out.mono ?_
    rintro e w8 ⟨⟨y, p', rfl, hy, hO⟩, hb8⟩
    have HO8 := Lib.hid hO.sai
    have HY8 := Lib.hid hy
    have HB8 := Lib.hid (HB4.out.trans (hb8.mono HB4.out.size))
    clear hO hy hb8
    go_wp2_with (refine wpList_store_row rfl 32 (.tmp 15) (.tmp 121) rfl w8.heap.size (saiA y p') rfl rfl 32 _ (Blk.new w8 #[.int .i64 0, .int .i64 0, .slice none 0 0, .slice none 0 0, .slice none 0 0, .int .i64 0, .int .i64 0, .slice none 0 0, .int .i64 0, .int .i64 0, .int .i64 0, .slice none 0 0, .bool false] 32) (by kernel_rfl) rfl (by simp [Value.oneCell']) ?_)
    go_meet
    have hbe : Below w8.heap.size w8 ((w8.alloc (.cells #[.int .i64 0, .int .i64 0, .slice none 0 0, .slice none 0 0, .slice none 0 0, .int .i64 0, .int .i64 0, .slice none 0 0, .int .i64 0, .int .i64 0, .int .i64 0, .slice none 0 0, .bool false] 32)).setRow w8.heap.size (saiA y p')) := below_setRow (bel1 w8 _) (Nat.le_refl _) _
    exact ⟨rfl, ⟨_, y, p', rfl, (Blk.new w8 _ _).row _, HY8.out, HO8.out.bel hbe⟩, HB8.out.trans (hbe.mono HB8.out.size)⟩
  obtain ⟨rfl, ⟨z4, y4, p4, rfl, hZ4, hy4, hS4⟩, hbn⟩ := hcut
  obtain ⟨V4, hV4⟩ : ∃ V, V = wc := ⟨_, rfl⟩
  subst hV4
  have HZ4 := Lib.hid hZ4
  have HS4 := Lib.hid hS4
  have HY4 := Lib.hid hy4
  replace hb := hb.trans (hbn.mono hb.size)
  clear hZ4 hS4 hy4
  have HX9 := Lib.hid (HX8.out.trans (hbn.mono HX8.out.size))
  clear hbn HX8 HC4
  by_cases q1 : e4 = 0
  rotate_left
  · have q2 : (e4 != 0) = true := by simpa using q1
    have hz : p4.nb = 0 := by rw [← HS4.out.bks.len, HY4.out, okS_ne q1]; rfl
    have z11 : V4.cell? ⟨z4, 11, none⟩ = some (.slice p4.C p4.nb p4.cb) := HZ4.out.cell rfl
    rw [hz] at z11
    clear q1 hz
    go_wp2_with fail
    go_ret
    exact ⟨rfl, HT.out _ hb⟩
  obtain ⟨f1, f2⟩ := HMB.out q1
  have hy4 := HY4.out
  rw [q1, okS_zero] at hy4
  have HC5 := Lib.hid (fun V h => HP5.out y4 p4 V b.cab h HICB.out)
  rw [hy4, f1, f2] at HC5
  rw [← hy4] at HC5
  subst q1
  have HSS := Lib.hid (show ∀ V, Below V4.heap.size V4 V → (fun w' => (w'.cell? ⟨z4, 0, none⟩ = some (.int .i64 y4.ship.legs) ∧ w'.cell? ⟨z4, 1, none⟩ = some (.int .i64 y4.ship.souls) ∧ w'.cell? ⟨z4, 2, none⟩ = some (.slice p4.A p4.n p4.cap) ∧ w'.cell? ⟨z4, 3, none⟩ = some (.slice p4.B p4.m p4.cap2) ∧ w'.cell? ⟨z4, 4, none⟩ = some (.slice p4.D p4.nd p4.cd) ∧ w'.cell? ⟨z4, 5, none⟩ = some (.int .i64 y4.fares.alone) ∧ w'.cell? ⟨z4, 6, none⟩ = some (.int .i64 y4.fares.third) ∧ w'.cell? ⟨z4, 7, none⟩ = some (.slice p4.E p4.ne p4.ce) ∧ w'.cell? ⟨z4, 8, none⟩ = some (.int .i64 y4.fares.down) ∧ w'.cell? ⟨z4, 9, none⟩ = some (.int .i64 y4.day) ∧ w'.cell? ⟨z4, 10, none⟩ = some (.int .i64 y4.leaves) ∧ w'.cell? ⟨z4, 11, none⟩ = some (.slice p4.C p4.nb p4.cb) ∧ w'.cell? ⟨z4, 12, none⟩ = some (.bool y4.closed)) ∧ w'.cell? ⟨g, 11, none⟩ = some (.slice (some ⟨ab, off, none⟩) nb cb) ∧ w'.cell? ⟨ab, off + k * 11 + 5, none⟩ = some (.int .i64 b.cab)) V from fun V hV => by
    obtain ⟨h1, _, h2, _⟩ := HROW.out V (HX9.out.trans (hV.mono HX9.out.size))
    exact ⟨saiCells (HZ4.out.bel hV), h1, h2⟩)
  have HSR := Lib.hid (fun V (hV : Below V4.heap.size V4 V) => HS4.out.bel hV)
  clear hy4 f1 f2 HMB HROW HS4 HY4 HP5
  go_upto_region 24 with (fail)
  go_cut [16, 9] (fun q e wx => e = .int .i64 0 ∧ (∃ z p', q = .pointer (some ⟨z, 0, none⟩) ∧ Blk wx z (saiA x p') 32 ∧ SaiR wx x p') ∧ Below V4.heap.size V4 wx)
  case first =>
    have hbx : Below V4.heap.size V4 V4.drew := (Below.refl _ V4).drew
    refine wp_region_held_drew (S := (fun w' => (w'.cell? ⟨z4, 0, none⟩ = some (.int .i64 y4.ship.legs) ∧ w'.cell? ⟨z4, 1, none⟩ = some (.int .i64 y4.ship.souls) ∧ w'.cell? ⟨z4, 2, none⟩ = some (.slice p4.A p4.n p4.cap) ∧ w'.cell? ⟨z4, 3, none⟩ = some (.slice p4.B p4.m p4.cap2) ∧ w'.cell? ⟨z4, 4, none⟩ = some (.slice p4.D p4.nd p4.cd) ∧ w'.cell? ⟨z4, 5, none⟩ = some (.int .i64 y4.fares.alone) ∧ w'.cell? ⟨z4, 6, none⟩ = some (.int .i64 y4.fares.third) ∧ w'.cell? ⟨z4, 7, none⟩ = some (.slice p4.E p4.ne p4.ce) ∧ w'.cell? ⟨z4, 8, none⟩ = some (.int .i64 y4.fares.down) ∧ w'.cell? ⟨z4, 9, none⟩ = some (.int .i64 y4.day) ∧ w'.cell? ⟨z4, 10, none⟩ = some (.int .i64 y4.leaves) ∧ w'.cell? ⟨z4, 11, none⟩ = some (.slice p4.C p4.nb p4.cb) ∧ w'.cell? ⟨z4, 12, none⟩ = some (.bool y4.closed)) ∧ w'.cell? ⟨g, 11, none⟩ = some (.slice (some ⟨ab, off, none⟩) nb cb) ∧ w'.cell? ⟨ab, off + k * 11 + 5, none⟩ = some (.int .i64 b.cab))) (by kernel_rfl) (HSS.out _ hbx) (fun hHeld => ?_)
    refine wpAnyH_take (i := 0) (v := ?v5) (gA rfl) (by kernel_rfl) (by kernel_rfl) (by kernel_rfl) (fun _ _ _ h => h) (Or.inl ⟨rfl, ?y5⟩) (by assumption) ?_
    case y5 => (intro w hSw; (try dsimp only at hSw); go_simp <;> with_reducible rfl)
    simp only [Act.put, List.setIfInBounds_toArray, List.set_cons_zero, List.set_cons_succ]
    refine wpAnyH_take (i := 1) (v := ?v6) (gA rfl) (by kernel_rfl) (by kernel_rfl) (by kernel_rfl) (fun _ _ _ h => h) (Or.inl ⟨rfl, ?y6⟩) (by assumption) ?_
    case y6 => (intro w hSw; (try dsimp only at hSw); go_simp <;> with_reducible rfl)
    simp only [Act.put, List.setIfInBounds_toArray, List.set_cons_zero, List.set_cons_succ]
    refine wpAnyH_take (i := 2) (v := ?v7) (gA rfl) (by kernel_rfl) (by kernel_rfl) (by kernel_rfl) (fun _ _ _ h => h) (Or.inl ⟨rfl, ?y7⟩) (by assumption) ?_
    case y7 => (intro w hSw; (try dsimp only at hSw); go_simp <;> with_reducible rfl)
    simp only [Act.put, List.setIfInBounds_toArray, List.set_cons_zero, List.set_cons_succ]
    refine wpAnyH_take (i := 3) (v := ?v8) (gA rfl) (by kernel_rfl) (by kernel_rfl) (by kernel_rfl) (fun _ _ _ h => h) (Or.inl ⟨rfl, ?y8⟩) (by assumption) ?_
    case y8 => (intro w hSw; (try dsimp only at hSw); go_simp <;> with_reducible rfl)
    simp only [Act.put, List.setIfInBounds_toArray, List.set_cons_zero, List.set_cons_succ]
    refine wpAnyH_take (i := 4) (v := ?v9) (gA rfl) (by kernel_rfl) (by kernel_rfl) (by kernel_rfl) (fun _ _ _ h => h) (Or.inl ⟨rfl, ?y9⟩) (by assumption) ?_
    case y9 => (intro w hSw; (try dsimp only at hSw); go_simp <;> with_reducible rfl)
    simp only [Act.put, List.setIfInBounds_toArray, List.set_cons_zero, List.set_cons_succ]
    refine wpAnyH_take (i := 5) (v := ?v10) (gA rfl) (by kernel_rfl) (by kernel_rfl) (by kernel_rfl) (fun _ _ _ h => h) (Or.inl ⟨rfl, ?y10⟩) (by assumption) ?_
    case y10 => (intro w hSw; (try dsimp only at hSw); go_simp <;> with_reducible rfl)
    simp only [Act.put, List.setIfInBounds_toArray, List.set_cons_zero, List.set_cons_succ]
    refine wpAnyH_take (i := 6) (v := ?v11) (gA rfl) (by kernel_rfl) (by kernel_rfl) (by kernel_rfl) (fun _ _ _ h => h) (Or.inl ⟨rfl, ?y11⟩) (by assumption) ?_
    case y11 => (intro w hSw; (try dsimp only at hSw); go_simp <;> with_reducible rfl)
    simp only [Act.put, List.setIfInBounds_toArray, List.set_cons_zero, List.set_cons_succ]
    refine wpAnyH_take (i := 7) (v := ?v12) (gA rfl) (by kernel_rfl) (by kernel_rfl) (by kernel_rfl) (fun _ _ _ h => h) (Or.inl ⟨rfl, ?y12⟩) (by assumption) ?_
    case y12 => (intro w hSw; (try dsimp only at hSw); go_simp <;> with_reducible rfl)
    simp only [Act.put, List.setIfInBounds_toArray, List.set_cons_zero, List.set_cons_succ]
    refine wpAnyH_ready (rs := [8, 12]) (by kernel_rfl) (by simp) ?_
    refine AllReadyH.cons (gA rfl) (fun K hK => ?_) ?m_1
    case m_1 =>
      refine AllReadyH.cons (gA rfl) (fun K hK => ?_) AllReadyH.nil
      go_simp
      refine hK.out _ _ ?_ (fun hHeld => ?_)
      · exact HSS.out _ (hbx.alloc hbx.size (.cells #[.int .i64 0, .int .i64 0, .slice none 0 0, .slice none 0 0, .slice none 0 0, .int .i64 0, .int .i64 0, .slice none 0 0, .int .i64 0, .int .i64 0, .int .i64 0, .slice none 0 0, .bool false] 32))
      clear hK K
      try simp only [Act.put, List.setIfInBounds_toArray, List.set_cons_zero, List.set_cons_succ]
      (have hL := freshG hbx #[.int .i64 0, .int .i64 0, .slice none 0 0, .slice none 0 0, .slice none 0 0, .int .i64 0, .int .i64 0, .slice none 0 0, .int .i64 0, .int .i64 0, .int .i64 0, .slice none 0 0, .bool false] 32; have hge := geOf hbx; (try replace hO := hO.bel (bel1 _ (.cells #[.int .i64 0, .int .i64 0, .slice none 0 0, .slice none 0 0, .slice none 0 0, .int .i64 0, .int .i64 0, .slice none 0 0, .int .i64 0, .int .i64 0, .int .i64 0, .slice none 0 0, .bool false] 32))); replace hbx := hbx.alloc hbx.size (.cells #[.int .i64 0, .int .i64 0, .slice none 0 0, .slice none 0 0, .slice none 0 0, .int .i64 0, .int .i64 0, .slice none 0 0, .int .i64 0, .int .i64 0, .int .i64 0, .slice none 0 0, .bool false] 32))
      refine wpAnyH_ready (rs := [8]) (by kernel_rfl) (by simp) ?_
      refine AllReadyH.cons (gA rfl) (fun K hK => ?_) AllReadyH.nil
      go_simp
      (go_at_call 31; refine (HC5.out _ (HSR.out _ hbx)).mono ?_; rintro e w8 ⟨⟨y, p', rfl, hy, hO⟩, hb8⟩; replace hy := Lib.hid hy; have hRS := Lib.hid hO.sai; have hs8 := hbx.size; (try replace hL := fun g hg => (hL g hg).bel hb8); replace hbx := hbx.trans (hb8.mono hbx.size); clear hb8)
      go_wp2_with fail
      refine hK.out _ _ ?_ (fun hHeld => ?_)
      · exact HSS.out _ hbx
      clear hK K
      try simp only [Act.put, List.setIfInBounds_toArray, List.set_cons_zero, List.set_cons_succ]
      refine wpAnyH_take (i := 9) (v := ?v13) (gA rfl) (by kernel_rfl) (by kernel_rfl) (by kernel_rfl) (fun _ _ _ h => h) (Or.inl ⟨rfl, ?y13⟩) (by assumption) ?_
      case y13 => (intro w hSw; (try dsimp only at hSw); go_simp <;> with_reducible rfl)
      simp only [Act.put, List.setIfInBounds_toArray, List.set_cons_zero, List.set_cons_succ]
      refine wpAnyH_take (i := 10) (v := ?v14) (gA rfl) (by kernel_rfl) (by kernel_rfl) (by kernel_rfl) (fun _ _ _ h => h) (Or.inl ⟨rfl, ?y14⟩) (by assumption) ?_
      case y14 => (intro w hSw; (try dsimp only at hSw); go_simp <;> with_reducible rfl)
      simp only [Act.put, List.setIfInBounds_toArray, List.set_cons_zero, List.set_cons_succ]
      refine wpAnyH_take (i := 11) (v := ?v15) (gA rfl) (by kernel_rfl) (by kernel_rfl) (by kernel_rfl) (fun _ _ _ h => h) (Or.inl ⟨rfl, ?y15⟩) (by assumption) ?_
      case y15 => (intro w hSw; (try dsimp only at hSw); go_simp <;> with_reducible rfl)
      simp only [Act.put, List.setIfInBounds_toArray, List.set_cons_zero, List.set_cons_succ]
      refine wpAnyH_ready (rs := [13]) (by kernel_rfl) (by simp) (AllReadyH.cons (gA rfl) (fun K hK => ?_) AllReadyH.nil)
      (refine wp_store_row 32 (.tmp 16) (.tmp 139) rfl _ (saiA y p') rfl rfl 32 _ (hL _ (by simp)) (by kernel_rfl) rfl (by simp [Value.oneCell']) ?_)
      refine hK.out _ _ ?_ (fun hHeld => ?_)
      · exact HSS.out _ (below_setRow hbx (hge _ (by simp)) _)
      clear hK K
      try simp only [Act.put, List.setIfInBounds_toArray, List.set_cons_zero, List.set_cons_succ]
      refine wpAnyH_take (i := 14) (v := ?v17) (gA rfl) (by kernel_rfl) (by kernel_rfl) (by kernel_rfl) (fun _ _ _ h => h) (Or.inl ⟨rfl, ?y17⟩) (by assumption) ?_
      case y17 => (intro w hSw; (try dsimp only at hSw); go_simp <;> with_reducible rfl)
      simp only [Act.put, List.setIfInBounds_toArray, List.set_cons_zero, List.set_cons_succ]
      refine wpAnyH_done (by kernel_rfl) ?_ _
      go_wp2_with fail
      go_meet
      obtain rfl : y = x := hy.out
      exact ⟨rfl, ⟨_, p', rfl, (hL _ (by simp)).row _, (by first | exact hRS.out.bel (below_setRow (bel1 w8 _) (Nat.le_refl _) _) | exact (hO.kept ((Kept.refl (fun k => k = V4.heap.size) _).setRow (.inl rfl) _) (fun k hk e => by simp at hk; omega)).sai)⟩, below_setRow hbx (hge _ (by simp)) _⟩
    go_simp
    (go_at_call 31; refine (HC5.out _ (HSR.out _ hbx)).mono ?_; rintro e w8 ⟨⟨y, p', rfl, hy, hO⟩, hb8⟩; replace hy := Lib.hid hy; have hRS := Lib.hid hO.sai; have hs8 := hbx.size; (try replace hL := fun g hg => (hL g hg).bel hb8); replace hbx := hbx.trans (hb8.mono hbx.size); clear hb8)
    go_wp2_with fail
    refine hK.out _ _ ?_ (fun hHeld => ?_)
    · exact HSS.out _ hbx
    clear hK K
    try simp only [Act.put, List.setIfInBounds_toArray, List.set_cons_zero, List.set_cons_succ]
    refine wpAnyH_take (i := 9) (v := ?v18) (gA rfl) (by kernel_rfl) (by kernel_rfl) (by kernel_rfl) (fun _ _ _ h => h) (Or.inl ⟨rfl, ?y18⟩) (by assumption) ?_
    case y18 => (intro w hSw; (try dsimp only at hSw); go_simp <;> with_reducible rfl)
    simp only [Act.put, List.setIfInBounds_toArray, List.set_cons_zero, List.set_cons_succ]
    refine wpAnyH_take (i := 10) (v := ?v19) (gA rfl) (by kernel_rfl) (by kernel_rfl) (by kernel_rfl) (fun _ _ _ h => h) (Or.inl ⟨rfl, ?y19⟩) (by assumption) ?_
    case y19 => (intro w hSw; (try dsimp only at hSw); go_simp <;> with_reducible rfl)
    simp only [Act.put, List.setIfInBounds_toArray, List.set_cons_zero, List.set_cons_succ]
    refine wpAnyH_take (i := 11) (v := ?v20) (gA rfl) (by kernel_rfl) (by kernel_rfl) (by kernel_rfl) (fun _ _ _ h => h) (Or.inl ⟨rfl, ?y20⟩) (by assumption) ?_
    case y20 => (intro w hSw; (try dsimp only at hSw); go_simp <;> with_reducible rfl)
    simp only [Act.put, List.setIfInBounds_toArray, List.set_cons_zero, List.set_cons_succ]
    refine wpAnyH_ready (rs := [12]) (by kernel_rfl) (by simp) ?_
    refine AllReadyH.cons (gA rfl) (fun K hK => ?_) AllReadyH.nil
    go_simp
    refine hK.out _ _ ?_ (fun hHeld => ?_)
    · exact HSS.out _ (hbx.alloc hbx.size (.cells #[.int .i64 0, .int .i64 0, .slice none 0 0, .slice none 0 0, .slice none 0 0, .int .i64 0, .int .i64 0, .slice none 0 0, .int .i64 0, .int .i64 0, .int .i64 0, .slice none 0 0, .bool false] 32))
    clear hK K
    try simp only [Act.put, List.setIfInBounds_toArray, List.set_cons_zero, List.set_cons_succ]
    (have hL := freshG hbx #[.int .i64 0, .int .i64 0, .slice none 0 0, .slice none 0 0, .slice none 0 0, .int .i64 0, .int .i64 0, .slice none 0 0, .int .i64 0, .int .i64 0, .int .i64 0, .slice none 0 0, .bool false] 32; have hge := geOf hbx; (try replace hO := hO.bel (bel1 _ (.cells #[.int .i64 0, .int .i64 0, .slice none 0 0, .slice none 0 0, .slice none 0 0, .int .i64 0, .int .i64 0, .slice none 0 0, .int .i64 0, .int .i64 0, .int .i64 0, .slice none 0 0, .bool false] 32))); replace hbx := hbx.alloc hbx.size (.cells #[.int .i64 0, .int .i64 0, .slice none 0 0, .slice none 0 0, .slice none 0 0, .int .i64 0, .int .i64 0, .slice none 0 0, .int .i64 0, .int .i64 0, .int .i64 0, .slice none 0 0, .bool false] 32))
    refine wpAnyH_ready (rs := [13]) (by kernel_rfl) (by simp) (AllReadyH.cons (gA rfl) (fun K hK => ?_) AllReadyH.nil)
    (refine wp_store_row 32 (.tmp 16) (.tmp 139) rfl _ (saiA y p') rfl rfl 32 _ (hL _ (by simp)) (by kernel_rfl) rfl (by simp [Value.oneCell']) ?_)
    refine hK.out _ _ ?_ (fun hHeld => ?_)
    · exact HSS.out _ (below_setRow hbx (hge _ (by simp)) _)
    clear hK K
    try simp only [Act.put, List.setIfInBounds_toArray, List.set_cons_zero, List.set_cons_succ]
    refine wpAnyH_take (i := 14) (v := ?v22) (gA rfl) (by kernel_rfl) (by kernel_rfl) (by kernel_rfl) (fun _ _ _ h => h) (Or.inl ⟨rfl, ?y22⟩) (by assumption) ?_
    case y22 => (intro w hSw; (try dsimp only at hSw); go_simp <;> with_reducible rfl)
    simp only [Act.put, List.setIfInBounds_toArray, List.set_cons_zero, List.set_cons_succ]
    refine wpAnyH_done (by kernel_rfl) ?_ _
    go_wp2_with fail
    go_meet
    obtain rfl : y = x := hy.out
    exact ⟨rfl, ⟨_, p', rfl, (hL _ (by simp)).row _, (by first | exact hRS.out.bel (below_setRow (bel1 w8 _) (Nat.le_refl _) _) | exact (hO.kept ((Kept.refl (fun k => k = V4.heap.size) _).setRow (.inl rfl) _) (fun k hk e => by simp at hk; omega)).sai)⟩, below_setRow hbx (hge _ (by simp)) _⟩
  obtain ⟨rfl, ⟨z5, p5, rfl, hZ5, hS5⟩, hbn⟩ := hcut
  replace hb := hb.trans (hbn.mono hb.size)
  obtain ⟨V5, hV5⟩ : ∃ V, V = wc := ⟨_, rfl⟩
  subst hV5
  obtain ⟨a0, a1, a2, a3, a4, a5, a6, a7, a8, a9, a10, a11, a12⟩ := saiCells hZ5
  obtain ⟨f0, f1, f2, f3, f4, f5, f6, f7, f8, f9, f10, f11, f12⟩ := saiCells (HG.out _ hb)
  have HC := Lib.hid (HSS0.out p5 V5 hS5 (HSX.out _ hb))
  clear hZ5 hS5 hbn
  go_wp2_with fail
  refine HC.out.mono ?_
  rintro e v9 ⟨rfl, hb9⟩
  replace hb := hb.trans (hb9.mono hb.size)
  clear HC hb9 a0 a1 a2 a3 a4 a5 a6 a7 a8 a9 a10 a11 a12 f0 f1 f2 f3 f4 f5 f6 f7 f8 f9 f10 f11 f12
  go_wp2_with fail
  go_ret
  exact ⟨rfl, HT.out _ hb⟩
set_option maxRecDepth 100000 in
theorem ChangePaid_lifted (os : Os) (started : os.Started) (H : Type) (enc : TypeId × Value → H) :
    ReturnsInHanded {} Tryz.checked os 6 .any (Rows.changePaidSpec.pre6 enc Tryz.prog Tryz.f6 Rows.changePaidRow.domain false) (Rows.changePaidSpec.post enc Tryz.prog Tryz.f6 false true false false) := by
  refine returnsInHanded_of_change (C := Tryz.checked) own started (by kernel_rfl) Tryz.func6
    (ChangeSpec.witness6 (enc := enc) (C := Tryz.checked) false ⟨#[], #[.agg #[.int .i64 0, .int .i64 0, .slice none 0 0, .slice none 0 0, .slice none 0 0, .int .i64 0, .int .i64 0, .slice none 0 0, .int .i64 0, .int .i64 0, .int .i64 0, .slice none 0 0, .bool false], .int .i64 0, .int .i64 0], []⟩ 8 (by kernel_rfl) (by kernel_rfl) (by kernel_rfl) (by kernel_rfl)) ?_
  intro W base args ds gs before hval0 hW hcnd _
  have hval : ∀ (j : Nat) t v, Tryz.f6.params[j]? = some t → args[j]? = some v → Value.okWide Tryz.prog W .any base t v := hval0
  have hW' := hW
  obtain ⟨p, q, hA0, hV, rfl, hfz, hnd⟩ := hW
  have hA : DataW.TrodAll enc Tryz.prog W 0 (fun _ => true) true Tryz.f6.params.toList args.toList ds p := hA0
  rw [Tryz.params6] at hA hval
  obtain ⟨v0, vs0, d0, ds0, p0, q0, hargs, rfl, rfl, h0, r0⟩ := trodAll_cons hA
  obtain ⟨v1, vs1, d1, ds1, p1, q1, rfl, rfl, rfl, h1, r1⟩ := trodAll_cons r0
  obtain ⟨v2, vs2, d2, ds2, p2, q2, rfl, rfl, rfl, h2, r2⟩ := trodAll_cons r1
  obtain ⟨rfl, rfl, rfl⟩ := trodAll_nil r2
  obtain rfl : args = #[v0, v1, v2] := by cases args; simp_all
  obtain ⟨rfl, rfl⟩ := trodVars_none hV
  have lt0 := arg_lt h0
  have k0 := h0
  obtain ⟨cs0, a0, rfl, w0⟩ := arg_agg (c := saiC) Tryz.underlying32 opens_saiC (hval 0 32 v0 rfl rfl) h0
  have lt1 := arg_lt h1
  have k1 := h1
  obtain ⟨a1, rfl, w1⟩ := arg_int Tryz.underlying3 (hval 1 3 v1 rfl rfl) h1
  have lt2 := arg_lt h2
  have k2 := h2
  obtain ⟨a2, rfl, w2⟩ := arg_int Tryz.underlying3 (hval 2 3 v2 rfl rfl) h2
  clear hA0 hval0
  refine (ChangePaid_walk W cs0 a0 w0 a1 w1 a2 w2).mono fun e W' ⟨he, bel⟩ => ?_
  subst he
  exact ⟨_, rfl, _, _, _, [], _, [], hW', trodAll_mk1 (shut_bool Tryz.underlying4 _), (trodAll_cons_mk (Below.trod laidOut (by kernel_rfl) (of_decide_eq_true (by kernel_rfl)) k0 bel lt0) (trodAll_cons_mk (Below.trod laidOut (by kernel_rfl) (of_decide_eq_true (by kernel_rfl)) k1 bel lt1) (trodAll_cons_mk (Below.trod laidOut (by kernel_rfl) (of_decide_eq_true (by kernel_rfl)) k2 bel lt2) trodAll_mk0))), rfl, bel.frame _, fun h => by cases h⟩

theorem ChangePaid_fit1 : (Rows.changePaidRow.wf (OpenSpec.ofChange Rows.changePaidSpec) && Tryz.f6.params.all (Tryz.prog.readableRec ·) && namedTie Tryz.prog Rows.changePaidRow.named Rows.changePaidSpec.vars && (Rows.changePaidRow.stops == []) && (Tryz.prog.stops == []) && (Rows.changePaidRow.knobs == []) && (Tryz.prog.stopKnobs == [])) = true := by kernel_rfl
theorem ChangePaid_fit2 : ((Rows.changePaidRow.inPlace == Tryz.prog.inPlace 6) && (Rows.changePaidRow.unfollowed == Tryz.prog.unfollowed 6) && (Rows.changePaidRow.recurses == Tryz.prog.recurses 6) && (Rows.changePaidRow.named == Tryz.prog.varsNamed 6)) = true := by kernel_rfl
theorem ChangePaid_fit3 : ((Rows.changePaidRow.maps == (Tryz.f6.params.toList ++ Rows.changePaidSpec.plain.varTypes Tryz.prog).any (Tryz.prog.mapsRec ·)) && (Rows.changePaidRow.ifaces == (Tryz.f6.params.toList ++ Rows.changePaidSpec.plain.varTypes Tryz.prog).any (Tryz.prog.ifacesRec ·)) && (Rows.changePaidRow.mapsOut == Tryz.prog.mapsAmong Tryz.f6.resultTypes.toList) && (Rows.changePaidRow.loops == (Tryz.f6.params.toList ++ Rows.changePaidSpec.plain.varTypes Tryz.prog).any (Tryz.prog.loopsFrom ·)) && (Rows.changePaidRow.wideKeys == (Tryz.f6.params.toList ++ Rows.changePaidSpec.plain.varTypes Tryz.prog ++ Tryz.f6.resultTypes.toList).any (Tryz.prog.wideKeysFrom ·)) &&
    Rows.changePaidSpec.vars.all (Tryz.prog.varReadable ·) && Tryz.f6.resultTypes.all (fun t => Tryz.prog.readableRec t && decide (t < Tryz.prog.types.size)) && (Rows.changePaidRow.ifacesOut == Tryz.f6.resultTypes.toList.any (Tryz.prog.ifacesRec ·)) && (Rows.changePaidRow.loopsOut == Tryz.f6.resultTypes.toList.any (Tryz.prog.loopsFrom ·)) && (Rows.changePaidRow.plainKeys == Tryz.prog.plainKeys) && Rows.changePaidRow.shortTexts.isNone) = true := by kernel_rfl
theorem ChangePaid_fit4 : ((Rows.changePaidRow.lifted == Tryz.prog.liftsFinal) && (Tryz.prog.make == some Rows.changePaidRow.make)) = true := by kernel_rfl
theorem ChangePaid_fit5 : ((Rows.changePaidRow.kinds == (if Rows.changePaidRow.domain.isEmpty then [] else Tryz.f6.params.toList.map fun t => match Tryz.prog.underlying t with | some (.int k) => some k | _ => none)) && (Rows.changePaidRow.pinned == Rows.changePaidRow.pinnedBy) && (Rows.changePaidRow.veiled == (Tryz.f6.params.toList ++ Rows.changePaidSpec.plain.varTypes Tryz.prog ++ Tryz.f6.resultTypes.toList).any (Tryz.prog.veiledRec ·)) && Rows.changePaidRow.veiledFits Tryz.prog Tryz.f6.params.toList (Tryz.f6.params.toList ++ Rows.changePaidSpec.plain.varTypes Tryz.prog ++ Tryz.f6.resultTypes.toList)) = true := by kernel_rfl

set_option maxRecDepth 100000 in
/-- THE GIVEN STATEMENT ChangePaid. -/
theorem changePaid_holds : Rows.ChangePaidSaid :=
  OpenClaim.holds_of_wide 6 Tryz.f6 rfl rfl rfl rfl rfl rfl rfl ⟨rfl, rfl, rfl, rfl, rfl⟩ rfl rfl rfl rfl rfl (by kernel_rfl) Tryz.func6
    (joined_of ChangePaid_fit1 fit_laid fit_rows ChangePaid_fit2 ChangePaid_fit3 fit_heard fit_enter ChangePaid_fit4 ChangePaid_fit5)
    (of_decide_eq_true (by kernel_rfl)) (by unfold Func.isWrapper; rw [if_neg (of_decide_eq_false (by kernel_rfl))]; exact ⟨rfl, rfl⟩)
    (fun os started H enc _ => ChangePaid_lifted os started H enc)
#print axioms changePaid_holds
end Go.Proofs.YtoilcdgpeilgaaaGreat
