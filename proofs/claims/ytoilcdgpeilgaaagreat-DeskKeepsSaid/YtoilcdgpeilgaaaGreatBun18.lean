/-
  Words, laws and contracts: StockG, StockM.
-/
import Derived.Test.YtoilcdgpeilgaaaGreatBun17
import Derived.Laws.Rows
set_option linter.unusedSimpArgs false
set_option linter.unusedVariables false
namespace Go.Proofs.YtoilcdgpeilgaaaGreat
open Go.RowKit Go.Shelf
structure OkSai (x : Sai) : Prop where
  bs : OkBs x
  fares : fareE x.fares x.ship.cats.length x.ship.legs = 0
  day : betB x.day 0 9999 = true
  leaves : betB x.leaves 0 9999 = true
  room : roomE x = 0
theorem sai_ok {x : Sai} (h : saiE x = 0) : OkSai x := by
  unfold saiE at h
  by_cases h1 : shipE x.ship ≠ 0
  · rw [if_pos h1] at h; exact absurd h h1
  rw [if_neg h1] at h
  by_cases h2 : fareE x.fares x.ship.cats.length x.ship.legs ≠ 0
  · rw [if_pos h2] at h; exact absurd h h2
  rw [if_neg h2] at h
  by_cases h3 : (betB x.day 0 9999 && betB x.leaves 0 9999) = false
  · rw [if_pos h3] at h; omega
  rw [if_neg h3] at h
  by_cases h4 : bksE x ≠ 0
  · rw [if_pos h4] at h; exact absurd h h4
  rw [if_neg h4] at h
  by_cases h5 : roomE x = 8
  · rw [if_pos h5] at h; omega
  rw [if_neg h5] at h
  obtain ⟨a1, a2⟩ := and_false_of h3
  exact ⟨bks_ok (shp_ok (Decidable.not_not.1 h1)) (Decidable.not_not.1 h4), Decidable.not_not.1 h2, a1, a2, h⟩
theorem ite7 {c : Prop} [Decidable c] {a b : Int} (h : a ≤ 7) (h2 : b ≤ 7) : (if c then a else b) ≤ 7 := by split <;> assumption
theorem firstE_7 {f : Nat → Int} (h : ∀ i, f i ≤ 7) : ∀ n, firstE f n ≤ 7
  | 0 => by show (0 : Int) ≤ 7; decide
  | n + 1 => ite7 (firstE_7 h n) (h n)
theorem firstErr_7 {f : Nat → Int} (h : ∀ i, f i ≤ 7) : ∀ n, firstErr f n ≤ 7
  | 0 => by show (0 : Int) ≤ 7; decide
  | n + 1 => ite7 (h n) (firstErr_7 h n)
theorem nmE_7 {l : List (List UInt8)} {f : Nat → Int} (h : ∀ i, f i ≤ 7) (k : Nat) : nmE l f k ≤ 7 := ite7 (by decide) (ite7 (by decide) (h k))
theorem shipE_7 (x : Shp) : shipE x ≤ 7 := by
  have h1 : ∀ k, firstE (nmE (catNames x.cats) (catE x.cats)) k ≤ 7 := firstE_7 (nmE_7 fun i => firstE_7 (fun j => ite7 (by decide) (ite7 (by decide) (by decide))) _)
  have h2 : ∀ k, firstE (nmE (cabNames x.cabs) (fun k => cabE x.cats.length (x.cabs.getD k default))) k ≤ 7 := firstE_7 (nmE_7 fun i => ite7 (by decide) (by decide))
  exact ite7 (by decide) (ite7 (by decide) (ite7 (by decide) (ite7 (h1 _) (ite7 (by decide) (h2 _)))))
theorem fareE_7 (x : Fares) (c many : Int) : fareE x c many ≤ 7 := by
  have h1 : legsE x.leg c many ≤ 7 := ite7 (by decide) (ite7 (by decide) (by decide))
  have h2 : bandsE x.bands ≤ 7 := ite7 (by decide) (firstErr_7 (fun i => ite7 (by decide) (ite7 (by decide) (by decide))) _)
  exact ite7 (by decide) (ite7 h1 (ite7 (by decide) h2))
theorem checkFolio_7 (l : List Entry) : checkFolio l ≤ 7 := by
  have h1 : ∀ n, firstErr (errAt l) n ≤ 7 := firstErr_7 fun i => by
    unfold errAt
    first | exact ite7 (ite7 (by decide) (ite7 (by decide) (ite7 (by decide) (by decide)))) (ite7 (by decide) (by decide)) | (repeat' split) <;> first | decide | (unfold entryE at *; (repeat' split) <;> first | decide | omega) | omega
  have h2 : ∀ n, firstErr (sumErr l) n ≤ 7 := firstErr_7 fun i => by
    unfold sumErr
    (repeat' split) <;> decide
  exact ite7 (by decide) (ite7 (h1 _) (h2 _))
theorem spanE_7 (s : Span) (n : Int) : spanE s n ≤ 7 := ite7 (by decide) (ite7 (by decide) (by decide))
theorem kindE_7 (x : Shp) (b : Bkg) : kindE x b ≤ 7 := ite7 (ite7 (by decide) (ite7 (by decide) (ite7 (by decide) (ite7 (by decide) (by decide))))) (ite7 (by decide) (ite7 (by decide) (ite7 (by decide) (by decide))))
theorem ofE_7 (x : Shp) (b : Bkg) : ofE x b ≤ 7 := ite7 (by decide) (ite7 (by decide) (ite7 (spanE_7 _ _) (ite7 (kindE_7 _ _) (ite7 (by decide) (ite7 (by decide) (checkFolio_7 _))))))
theorem bksE_7 (x : Sai) : bksE x ≤ 7 := ite7 (by decide) (ite7 (firstE_7 (fun i => ite7 (ofE_7 _ _) (ite7 (by decide) (by decide))) _) (ite7 (by decide) (by decide)))
set_option maxRecDepth 100000 in
set_option maxHeartbeats 16000000 in
theorem saiCheck_any (x : Sai) (p : SaiV) (w : World) (h : SaiR w x p) :
    Calls Tryz.prog 24 #[.agg (saiA x p)] w fun e w' => e = .returned (.int .i64 (saiE x)) ∧ Below w.heap.size w w' := by
  have HBK := Lib.hid (fun W h ho => bookings_any x p W h ho)
  have HRM := Lib.hid (fun W h (hb : OkBs x) => Room_any x p W h hb.ship hb.bk hb.len)
  have HS := Lib.hid h
  obtain ⟨A, n, cap, B, m, cap2, D, nd, cd, E, ne, ce, C, nb, cb⟩ := p
  have hc : Sl catC 2 w All A n cap x.ship.cats := h.cats
  have hd : Sl cabC 4 w All B m cap2 x.ship.cabs := h.cabs
  have hf : FareR w D nd cd x.fares E ne ce := h.fares
  obtain ⟨r, hr⟩ : ∃ r, r = saiE x := ⟨_, rfl⟩
  rw [← hr]
  have hsc := fun W h1 h2 => shipCheck_any x.ship A n cap B m cap2 W h1 h2
  have hfc := fun W h1 => fareCheck_any D nd cd x.fares E ne ce (n : Int) x.ship.legs W h1
  obtain ⟨se, hse⟩ : ∃ q, q = shipE x.ship := ⟨_, rfl⟩
  obtain ⟨fe, hfe⟩ : ∃ q, q = fareE x.fares (n : Int) x.ship.legs := ⟨_, rfl⟩
  obtain ⟨be, hbe⟩ : ∃ q, q = bksE x := ⟨_, rfl⟩
  obtain ⟨re, hre⟩ : ∃ q, q = roomE x := ⟨_, rfl⟩
  obtain ⟨d1, hd1⟩ : ∃ q, q = betB x.day 0 9999 := ⟨_, rfl⟩
  obtain ⟨d2, hd2⟩ : ∃ q, q = betB x.leaves 0 9999 := ⟨_, rfl⟩
  have HR := Lib.hid (show r = if se ≠ 0 then se else if fe ≠ 0 then fe else if (d1 && d2) = false then 3 else if be ≠ 0 then be else if re = 8 then 2 else re by rw [hr, hse, hfe, hbe, hre, hd1, hd2, ← hc.len]; rfl)
  have hw1 := fun W => day_any x.day W
  have hw2 := fun W => day_any x.leaves W
  rw [← hd1] at hw1
  rw [← hd2] at hw2
  rw [← hse] at hsc
  rw [← hfe] at hfc
  rw [← hbe] at HBK
  rw [← hre] at HRM
  have HSC := Lib.hid hsc
  clear hsc
  have HFC := Lib.hid hfc
  clear hfc
  have HW1 := Lib.hid hw1
  clear hw1
  have HW2 := Lib.hid hw2
  clear hw2
  have HS7 := Lib.hid (show se ≤ 7 by rw [hse]; exact shipE_7 _)
  have HF7 := Lib.hid (show fe ≤ 7 by rw [hfe]; exact fareE_7 _ _ _)
  have HB7 := Lib.hid (show be ≤ 7 by rw [hbe]; exact bksE_7 _)
  have HSE := Lib.hid hse
  clear hse
  have HBE := Lib.hid hbe
  clear hbe
  have HC := Lib.hid hc
  have HD := Lib.hid hd
  have HF := Lib.hid hf
  clear h hc hd hf hr hfe hre hd1 hd2
  go_enter Tryz.func24, Tryz.ntmps24
  go_upto_region 0 with (fail)
  go_cut [1, 2] (fun q _ wx => ∃ g, q = .pointer (some ⟨g, 0, none⟩) ∧ Blk wx g (saiA x ⟨A, n, cap, B, m, cap2, D, nd, cd, E, ne, ce, C, nb, cb⟩) 32 ∧ Below w.heap.size w wx)
  case first => as_aux_lemma =>
    go_wp2_with fail
    go_meet
    exact ⟨_, rfl, blk1 _ _, bel1 _ _⟩
  obtain ⟨g, rfl, hG, hbw⟩ := hcut
  have s0 : wc.cell? ⟨g, 0, none⟩ = some (.int .i64 x.ship.legs) := hG.cell rfl
  have s1 : wc.cell? ⟨g, 1, none⟩ = some (.int .i64 x.ship.souls) := hG.cell rfl
  have s2 : wc.cell? ⟨g, 2, none⟩ = some (.slice A n cap) := hG.cell rfl
  have s3 : wc.cell? ⟨g, 3, none⟩ = some (.slice B m cap2) := hG.cell rfl
  have s4 : wc.cell? ⟨g, 4, none⟩ = some (.slice D nd cd) := hG.cell rfl
  have s5 : wc.cell? ⟨g, 5, none⟩ = some (.int .i64 x.fares.alone) := hG.cell rfl
  have s6 : wc.cell? ⟨g, 6, none⟩ = some (.int .i64 x.fares.third) := hG.cell rfl
  have s7 : wc.cell? ⟨g, 7, none⟩ = some (.slice E ne ce) := hG.cell rfl
  have s8 : wc.cell? ⟨g, 8, none⟩ = some (.int .i64 x.fares.down) := hG.cell rfl
  have s9 : wc.cell? ⟨g, 9, none⟩ = some (.int .i64 x.day) := hG.cell rfl
  have s10 : wc.cell? ⟨g, 10, none⟩ = some (.int .i64 x.leaves) := hG.cell rfl
  have s11 : wc.cell? ⟨g, 11, none⟩ = some (.slice C nb cb) := hG.cell rfl
  have s12 : wc.cell? ⟨g, 12, none⟩ = some (.bool x.closed) := hG.cell rfl
  have HCALL := Lib.hid (HSC.out wc (HC.out.bel hbw) (HD.out.bel hbw))
  go_wp2_with fail
  refine HCALL.out.mono ?_
  rintro e w2 ⟨rfl, hb2⟩
  replace hG := hG.bel hb2
  replace hbw := hbw.trans (hb2.mono hbw.size)
  clear hb2 s0 s1 s2 s3 s4 s5 s6 s7 s8 s9 s10 s11 s12 HCALL HSC
  obtain ⟨e1, he1⟩ : ∃ q, q = if se ≠ 0 then se else fe := ⟨_, rfl⟩
  have HE1 := Lib.hid he1
  clear he1
  go_upto_if 8 with (fail)
  obtain ⟨W2, hW2⟩ : ∃ W, W = w2 := ⟨_, rfl⟩
  subst hW2
  go_cut [3] (fun q wx => q = .int .i64 e1 ∧ Below W2.heap.size W2 wx)
  case first => as_aux_lemma =>
    by_cases h0 : se = 0
    · obtain rfl : e1 = fe := by rw [HE1.out, if_neg (by rw [h0]; simp)]
      subst h0
      have s0 : W2.cell? ⟨g, 0, none⟩ = some (.int .i64 x.ship.legs) := hG.cell rfl
      have s1 : W2.cell? ⟨g, 1, none⟩ = some (.int .i64 x.ship.souls) := hG.cell rfl
      have s2 : W2.cell? ⟨g, 2, none⟩ = some (.slice A n cap) := hG.cell rfl
      have s3 : W2.cell? ⟨g, 3, none⟩ = some (.slice B m cap2) := hG.cell rfl
      have s4 : W2.cell? ⟨g, 4, none⟩ = some (.slice D nd cd) := hG.cell rfl
      have s5 : W2.cell? ⟨g, 5, none⟩ = some (.int .i64 x.fares.alone) := hG.cell rfl
      have s6 : W2.cell? ⟨g, 6, none⟩ = some (.int .i64 x.fares.third) := hG.cell rfl
      have s7 : W2.cell? ⟨g, 7, none⟩ = some (.slice E ne ce) := hG.cell rfl
      have s8 : W2.cell? ⟨g, 8, none⟩ = some (.int .i64 x.fares.down) := hG.cell rfl
      have s9 : W2.cell? ⟨g, 9, none⟩ = some (.int .i64 x.day) := hG.cell rfl
      have s10 : W2.cell? ⟨g, 10, none⟩ = some (.int .i64 x.leaves) := hG.cell rfl
      have s11 : W2.cell? ⟨g, 11, none⟩ = some (.slice C nb cb) := hG.cell rfl
      have s12 : W2.cell? ⟨g, 12, none⟩ = some (.bool x.closed) := hG.cell rfl
      have HCALL := Lib.hid (HFC.out W2 (HF.out.below hbw))
      clear hG hbw
      go_wp2_with fail
      refine HCALL.out.mono ?_
      rintro e w3 ⟨rfl, hb3⟩
      go_wp2_with fail
      go_meet
      exact ⟨rfl, hb3⟩
    · obtain rfl : e1 = se := by rw [HE1.out, if_pos h0]
      have h0' : (e1 == 0) = false := by simpa using h0
      clear h0 hG hbw
      go_wp2_with fail
      go_meet
      exact ⟨rfl, Below.refl _ _⟩
  obtain ⟨rfl, hb3⟩ := hcut
  replace hG := hG.bel hb3
  replace hbw := hbw.trans (hb3.mono hbw.size)
  clear hb3 HFC
  obtain ⟨e2, he2⟩ : ∃ q, q = if e1 ≠ 0 then e1 else if (d1 && d2) = false then 3 else 0 := ⟨_, rfl⟩
  have HE2 := Lib.hid he2
  clear he2
  obtain ⟨tv, htv⟩ : ∃ q, q = (decide (e1 = 0) && !(d1 && d2)) := ⟨_, rfl⟩
  have HEV := Lib.hid (show e2 = if tv = true then 3 else e1 by
    rw [HE2.out, htv]
    by_cases h0 : e1 = 0
    · rw [if_neg (by rw [h0]; simp), decide_eq_true h0]
      cases hd : (d1 && d2) <;> simp [h0]
    · rw [if_pos h0, decide_eq_false h0]; simp)
  have HTV := Lib.hid htv
  clear htv
  go_upto_region 4 with (fail)
  obtain ⟨W3, hW3⟩ : ∃ W, W = wc := ⟨_, rfl⟩
  subst hW3
  go_cut [32] (fun q wx => q = .bool tv ∧ W3 = wx)
  case first => as_aux_lemma =>
    by_cases h0 : e1 = 0
    · have HE3 := Lib.hid (show tv = !(d1 && d2) by rw [HTV.out, decide_eq_true h0]; rfl)
      subst h0
      have s9 : W3.cell? ⟨g, 9, none⟩ = some (.int .i64 x.day) := hG.cell rfl
      have s10 : W3.cell? ⟨g, 10, none⟩ = some (.int .i64 x.leaves) := hG.cell rfl
      clear hG hbw
      go_wp2_with fail
      refine (HW1.out _).mono ?_
      rintro e w9 ⟨rfl, rfl⟩
      cases d1
      · obtain rfl : tv = true := HE3.out
        go_wp2_with fail
        go_meet
        exact ⟨rfl, rfl⟩
      go_wp2_with fail
      refine (HW2.out _).mono ?_
      rintro e w9 ⟨rfl, rfl⟩
      cases d2
      · obtain rfl : tv = true := HE3.out
        go_wp2_with fail
        go_meet
        exact ⟨rfl, rfl⟩
      · obtain rfl : tv = false := HE3.out
        go_wp2_with fail
        go_meet
        exact ⟨rfl, rfl⟩
    · obtain rfl : tv = false := by rw [HTV.out, decide_eq_false h0]; rfl
      have h0' : (e1 == 0) = false := by simpa using h0
      clear h0 hG hbw
      go_wp2_with fail
      go_meet
      exact ⟨rfl, rfl⟩
  obtain ⟨rfl, hwc3⟩ := hcut
  subst hwc3
  go_upto_if 32 with (fail)
  go_cut [3] (fun q wx => q = .int .i64 e2 ∧ W3 = wx)
  case first => as_aux_lemma =>
    cases tv
    · obtain rfl : e2 = e1 := HEV.out
      clear hG hbw
      go_wp2_with fail
      go_meet
      exact ⟨rfl, rfl⟩
    · obtain rfl : e2 = 3 := HEV.out
      clear hG hbw
      go_wp2_with fail
      go_meet
      exact ⟨rfl, rfl⟩
  obtain ⟨rfl, hwc3⟩ := hcut
  subst hwc3
  clear HW1 HW2
  have HSE2 := Lib.hid (show e2 = 0 → se = 0 ∧ e1 = 0 ∧ (d1 && d2) = true from fun h => by
    have h2 := HE2.out
    by_cases h0 : e1 = 0
    · rw [if_neg (by rw [h0]; simp)] at h2
      have h1 := HE1.out
      by_cases h3 : se = 0
      · refine ⟨h3, h0, ?_⟩
        cases hd : (d1 && d2) with
        | true => rfl
        | false => rw [if_pos hd] at h2; omega
      · rw [if_pos h3] at h1; omega
    · rw [if_pos h0] at h2; omega)
  obtain ⟨e3, he3⟩ : ∃ q, q = if e2 ≠ 0 then e2 else be := ⟨_, rfl⟩
  have HE3 := Lib.hid he3
  clear he3
  go_upto_if 34 with (fail)
  obtain ⟨W4, hW4⟩ : ∃ W, W = W3 := ⟨_, rfl⟩
  subst hW4
  go_cut [3] (fun q wx => q = .int .i64 e3 ∧ Below W4.heap.size W4 wx)
  case first => as_aux_lemma =>
    by_cases h0 : e2 = 0
    · obtain rfl : e3 = be := by rw [HE3.out, if_neg (by rw [h0]; simp)]
      have s0 : W4.cell? ⟨g, 0, none⟩ = some (.int .i64 x.ship.legs) := hG.cell rfl
      have s1 : W4.cell? ⟨g, 1, none⟩ = some (.int .i64 x.ship.souls) := hG.cell rfl
      have s2 : W4.cell? ⟨g, 2, none⟩ = some (.slice A n cap) := hG.cell rfl
      have s3 : W4.cell? ⟨g, 3, none⟩ = some (.slice B m cap2) := hG.cell rfl
      have s4 : W4.cell? ⟨g, 4, none⟩ = some (.slice D nd cd) := hG.cell rfl
      have s5 : W4.cell? ⟨g, 5, none⟩ = some (.int .i64 x.fares.alone) := hG.cell rfl
      have s6 : W4.cell? ⟨g, 6, none⟩ = some (.int .i64 x.fares.third) := hG.cell rfl
      have s7 : W4.cell? ⟨g, 7, none⟩ = some (.slice E ne ce) := hG.cell rfl
      have s8 : W4.cell? ⟨g, 8, none⟩ = some (.int .i64 x.fares.down) := hG.cell rfl
      have s9 : W4.cell? ⟨g, 9, none⟩ = some (.int .i64 x.day) := hG.cell rfl
      have s10 : W4.cell? ⟨g, 10, none⟩ = some (.int .i64 x.leaves) := hG.cell rfl
      have s11 : W4.cell? ⟨g, 11, none⟩ = some (.slice C nb cb) := hG.cell rfl
      have s12 : W4.cell? ⟨g, 12, none⟩ = some (.bool x.closed) := hG.cell rfl
      have HCALL := Lib.hid (HBK.out W4 (HS.out.bel hbw) (shp_ok (HSE.out.symm.trans (HSE2.out h0).1)))
      subst h0
      clear hG hbw
      go_wp2_with fail
      refine HCALL.out.mono ?_
      rintro e w3 ⟨rfl, hb3⟩
      go_wp2_with fail
      go_meet
      exact ⟨rfl, hb3⟩
    · obtain rfl : e3 = e2 := by rw [HE3.out, if_pos h0]
      have h0' : (e3 == 0) = false := by simpa using h0
      clear h0 hG hbw
      go_wp2_with fail
      go_meet
      exact ⟨rfl, Below.refl _ _⟩
  obtain ⟨rfl, hb3⟩ := hcut
  replace hG := hG.bel hb3
  replace hbw := hbw.trans (hb3.mono hbw.size)
  clear hb3
  obtain ⟨e4, he4⟩ : ∃ q, q = if e3 ≠ 0 then e3 else re := ⟨_, rfl⟩
  have HE4 := Lib.hid he4
  clear he4
  have HE30 := Lib.hid (show e3 = 0 → e2 = 0 ∧ be = 0 from fun h => by
    have h2 := HE3.out
    by_cases h0 : e2 = 0
    · rw [if_neg (by rw [h0]; simp)] at h2
      exact ⟨h0, by omega⟩
    · rw [if_pos h0] at h2; omega)
  go_upto_if 38 with (fail)
  obtain ⟨W5, hW5⟩ : ∃ W, W = wc := ⟨_, rfl⟩
  subst hW5
  go_cut [3] (fun q wx => q = .int .i64 e4 ∧ Below W5.heap.size W5 wx)
  case first => as_aux_lemma =>
    by_cases h0 : e3 = 0
    · obtain rfl : e4 = re := by rw [HE4.out, if_neg (by rw [h0]; simp)]
      have s0 : W5.cell? ⟨g, 0, none⟩ = some (.int .i64 x.ship.legs) := hG.cell rfl
      have s1 : W5.cell? ⟨g, 1, none⟩ = some (.int .i64 x.ship.souls) := hG.cell rfl
      have s2 : W5.cell? ⟨g, 2, none⟩ = some (.slice A n cap) := hG.cell rfl
      have s3 : W5.cell? ⟨g, 3, none⟩ = some (.slice B m cap2) := hG.cell rfl
      have s4 : W5.cell? ⟨g, 4, none⟩ = some (.slice D nd cd) := hG.cell rfl
      have s5 : W5.cell? ⟨g, 5, none⟩ = some (.int .i64 x.fares.alone) := hG.cell rfl
      have s6 : W5.cell? ⟨g, 6, none⟩ = some (.int .i64 x.fares.third) := hG.cell rfl
      have s7 : W5.cell? ⟨g, 7, none⟩ = some (.slice E ne ce) := hG.cell rfl
      have s8 : W5.cell? ⟨g, 8, none⟩ = some (.int .i64 x.fares.down) := hG.cell rfl
      have s9 : W5.cell? ⟨g, 9, none⟩ = some (.int .i64 x.day) := hG.cell rfl
      have s10 : W5.cell? ⟨g, 10, none⟩ = some (.int .i64 x.leaves) := hG.cell rfl
      have s11 : W5.cell? ⟨g, 11, none⟩ = some (.slice C nb cb) := hG.cell rfl
      have s12 : W5.cell? ⟨g, 12, none⟩ = some (.bool x.closed) := hG.cell rfl
      have h1 := HE30.out h0
      have HCALL := Lib.hid (HRM.out W5 (HS.out.bel hbw) (bks_ok (shp_ok (HSE.out.symm.trans (HSE2.out h1.1).1)) (HBE.out.symm.trans h1.2)))
      subst h0
      clear hG hbw h1
      go_wp2_with fail
      refine HCALL.out.mono ?_
      rintro e w3 ⟨rfl, hb3⟩
      go_wp2_with fail
      go_meet
      exact ⟨rfl, hb3⟩
    · obtain rfl : e4 = e3 := by rw [HE4.out, if_pos h0]
      have h0' : (e4 == 0) = false := by simpa using h0
      clear h0 hG hbw
      go_wp2_with fail
      go_meet
      exact ⟨rfl, Below.refl _ _⟩
  obtain ⟨rfl, hb3⟩ := hcut
  replace hbw := hbw.trans (hb3.mono hbw.size)
  have HRE := Lib.hid (show r = if e4 = 8 then 2 else e4 by
    have l1 := HS7.out
    have l2 := HF7.out
    have l3 := HB7.out
    have h4 := HE4.out
    have h3 := HE3.out
    have h2 := HE2.out
    have h1 := HE1.out
    have hr := HR.out
    by_cases a1 : se = 0
    · rw [if_neg (by rw [a1]; simp)] at h1 hr
      by_cases a2 : fe = 0
      · rw [if_neg (by rw [a2]; simp)] at hr
        rw [if_neg (by rw [h1, a2]; simp)] at h2
        by_cases a3 : (d1 && d2) = false
        · rw [if_pos a3] at h2 hr
          rw [if_pos (by rw [h2]; simp)] at h3
          rw [if_pos (by rw [h3, h2]; simp)] at h4
          rw [hr, h4, h3, h2]; rfl
        · rw [if_neg a3] at h2 hr
          rw [if_neg (by rw [h2]; simp)] at h3
          by_cases a4 : be = 0
          · rw [if_neg (by rw [a4]; simp)] at hr
            rw [if_neg (by rw [h3, a4]; simp)] at h4
            rw [hr, h4]
          · rw [if_pos a4] at hr
            rw [if_pos (by rw [h3]; exact a4)] at h4
            rw [hr, h4, h3, if_neg (by omega)]
      · rw [if_pos a2] at hr
        rw [if_pos (by rw [h1]; exact a2)] at h2
        rw [if_pos (by rw [h2, h1]; exact a2)] at h3
        rw [if_pos (by rw [h3, h2, h1]; exact a2)] at h4
        rw [hr, h4, h3, h2, h1, if_neg (by omega)]
    · rw [if_pos a1] at h1 hr
      rw [if_pos (by rw [h1]; exact a1)] at h2
      rw [if_pos (by rw [h2, h1]; exact a1)] at h3
      rw [if_pos (by rw [h3, h2, h1]; exact a1)] at h4
      rw [hr, h4, h3, h2, h1, if_neg (by omega)])
  clear hG hb3
  by_cases h8 : e4 = 8
  · obtain rfl : r = 2 := by rw [HRE.out, if_pos h8]
    subst h8
    go_wp2_with fail
    go_ret
    exact ⟨rfl, hbw⟩
  · obtain rfl : r = e4 := by rw [HRE.out, if_neg h8]
    have h8' : (r == 8) = false := by simpa using h8
    clear h8
    go_wp2_with fail
    go_ret
    exact ⟨rfl, hbw⟩
end Go.Proofs.YtoilcdgpeilgaaaGreat
namespace Go.Proofs.YtoilcdgpeilgaaaGreat
open Go.RowKit Go.Shelf
section
variable {α : Type} {c : Cod α} {size : Nat} {e : TypeId} {w w' : World} {base : Nat} {v : Value} {l : List α} {xs : List Value}
theorem Own.keepB (hf : Flat c) (h : Own c size e w base v l xs) (hk : ∀ k, v.ownBlock = some k → w'.heap[k]? = w.heap[k]?) : Own c size e w' base v l xs := by
  refine ⟨⟨h.row.1, ?_⟩, fun i x hx => ?_⟩
  · rcases h.row.2 with h0 | ⟨g, cap, cur, hv, hb, hgg, r⟩
    · exact .inl h0
    · exact .inr ⟨g, cap, cur, hv, hb, (hk g (by rw [hv]; rfl)).trans hgg, r⟩
  · obtain ⟨cs, hc, r⟩ := h.el i x hx
    exact ⟨cs, hf _ _ _ _ _ _ hc, r⟩
theorem Own.slS (h : Own c size e w base v l xs) (hg : Good c) (hf : Flat c) {S : Nat → Prop} (hS : ∀ k, v.ownBlock = some k → S k) : ∃ A n cap, v = .slice A n cap ∧ Sl c size w S A n cap l := by
  obtain ⟨A, n, cap, hv, hs⟩ := h.sl hg
  refine ⟨A, n, cap, hv, hs.len, hs.le, hs.max, fun i x hx => ?_⟩
  obtain ⟨b, off, cs, hA, _, hc, r⟩ := hs.rd i x hx
  exact ⟨b, off, cs, hA, hS b (by rw [hv, hA]; rfl), hf _ _ _ _ _ _ hc, r⟩
theorem Own.kept {S : Nat → Prop} (h : Own c size e w base v l xs) (hg : Good c) (hk : Kept S w w') (hS : ∀ k, base ≤ k → ¬ S k) : Own c size e w' base v l xs :=
  h.keep hg fun b hb hlt => hk.block b hlt (hS b hb)
end
def InnO {α : Type} (c : Cod α) (size : Nat) (e : TypeId) (w : World) (S : Nat → Prop) (v : Value) (l : List α) : Prop := ∃ xs, Own c size e w 0 v l xs ∧ ∀ k, v.ownBlock = some k → S k
section
variable {α : Type} {c : Cod α} {size : Nat} {e : TypeId} {w w' : World} {v : Value} {l : List α} {S S' : Nat → Prop}
theorem InnO.keep (hf : Flat c) (h : InnO c size e w S v l) (hk : ∀ b, S b → b < w.heap.size → w'.heap[b]? = w.heap[b]? ∧ S' b) : InnO c size e w' S' v l := by
  obtain ⟨xs, h, hS⟩ := h
  exact ⟨xs, h.keepB hf fun k hk' => (hk k (hS k hk') (h.lt k hk').2).1, fun k hk' => (hk k (hS k hk') (h.lt k hk').2).2⟩
theorem InnO.sl (h : InnO c size e w S v l) (hg : Good c) (hf : Flat c) : ∃ A n cap, v = .slice A n cap ∧ Sl c size w S A n cap l := by
  obtain ⟨xs, h, hS⟩ := h
  exact h.slS hg hf hS
end
def catO : Cod Cat := fun w S x cs => ∃ v, cs = [strV x.name, v] ∧ InnO intC 1 3 w S v x.high ∧ x.name.length ≤ maxLen
def rowO : Cod (List Int) := fun w S x cs => ∃ v, cs = [v] ∧ InnO intC 1 3 w S v x
def bkgO : Cod Bkg := fun w S x cs => ∃ v, cs = (bkgA x v).toList ∧ InnO entryC 3 57 w S v x.fol ∧ BkIn x
theorem entryC_flat2 : Flat entryC := fun _ _ _ _ _ _ h => h
theorem catO_catC {w : World} {S : Nat → Prop} {x : Cat} {cs : List Value} (h : catO w S x cs) : catC w S x cs := by
  obtain ⟨v, rfl, h, hl⟩ := h
  obtain ⟨A, n, cap, rfl, hs⟩ := h.sl intC_good intC_flat
  exact ⟨A, n, cap, rfl, hs, hl⟩
theorem rowO_slC {w : World} {S : Nat → Prop} {x : List Int} {cs : List Value} (h : rowO w S x cs) : slC intC 1 w S x cs := by
  obtain ⟨v, rfl, h⟩ := h
  obtain ⟨A, n, cap, rfl, hs⟩ := h.sl intC_good intC_flat
  exact ⟨A, n, cap, rfl, hs⟩
theorem bkgO_bkgC {w : World} {S : Nat → Prop} {x : Bkg} {cs : List Value} (h : bkgO w S x cs) : bkgC w S x cs := by
  obtain ⟨v, rfl, h, hI⟩ := h
  obtain ⟨A, n, cap, rfl, hs⟩ := h.sl entryC_good entryC_flat2
  exact ⟨A, n, cap, rfl, hs, hI⟩
theorem catO_good : Good catO := ⟨fun h hk => by
    obtain ⟨v, rfl, h, hl⟩ := h
    exact ⟨v, rfl, h.keep intC_flat hk, hl⟩, fun h => catC_good.one (catO_catC h)⟩
theorem rowO_good : Good rowO := ⟨fun h hk => by
    obtain ⟨v, rfl, h⟩ := h
    exact ⟨v, rfl, h.keep intC_flat hk⟩, fun h => (slC_good intC_good (by omega)).one (rowO_slC h)⟩
theorem bkgO_good : Good bkgO := ⟨fun h hk => by
    obtain ⟨v, rfl, h, hI⟩ := h
    exact ⟨v, rfl, h.keep entryC_flat2 hk, hI⟩, fun h => bkgC_good.one (bkgO_bkgC h)⟩
instance catOK : CodK catO 2 := ⟨catO_good, by omega⟩
instance rowOK : CodK rowO 1 := ⟨rowO_good, by omega⟩
instance bkgOK : CodK bkgO 11 := ⟨bkgO_good, by omega⟩
theorem cab_elem : ElemOf Tryz.prog 23 76 4 40 := .mk' Tryz.underlying23 (z := .agg #[strV [], .int .i64 0, .int .i64 0, .bool false]) (by kernel_rfl) rfl (by omega)
theorem bnd_elem : ElemOf Tryz.prog 27 186 2 16 := .mk' Tryz.underlying27 (z := .agg #[.int .i64 0, .int .i64 0]) (by kernel_rfl) rfl (by omega)
theorem bok_elem : ElemOf Tryz.prog 30 37 11 104 := .mk' Tryz.underlying30 (z := .agg #[.int .i64 0, .int .i64 0, .int .i64 0, .int .i64 0, .bool false, .int .i64 0, .int .i64 0, .int .i64 0, .int .i64 0, .int .i64 0, .slice none 0 0]) (by kernel_rfl) rfl (by omega)
theorem cat_elem2 : ElemOf Tryz.prog 22 184 2 40 := .mk' Tryz.underlying22 (z := .agg #[strV [], .slice none 0 0]) (by kernel_rfl) rfl (by omega)
theorem row_elem : ElemOf Tryz.prog 26 47 1 24 := .mk' Tryz.underlying26 (z := .slice none 0 0) (by kernel_rfl) rfl (by omega)
set_option maxHeartbeats 1000000 in
theorem Clone_cab (A : Option Addr) (n cap : Nat) (l : List Cab) (w : World) (h : Sl cabC 4 w All A n cap l) (hn : n * 40 ≤ 140737488355328) :
    Calls Tryz.prog 242 #[.slice A n cap] w fun e w' => ∃ v xs, e = .returned v ∧ Own cabC 4 76 w' w.heap.size v l xs ∧ Below w.heap.size w w' := by
  have hnil := fun (W : World) (a : Option Addr) => Lib.run_eql_slice_nil (P := Tryz.prog) W 23 76 a n cap 0 0 Tryz.underlying23
  rcases A with _ | a
  · have hl : l = [] := by
      rcases l with _ | ⟨x, l⟩
      · rfl
      · obtain ⟨b, off, cs, hA, _⟩ := h.rd 0 x rfl
        cases hA
    subst hl
    go_enter Tryz.func242, Tryz.ntmps242
    go_wp2
    go_ret
    exact ⟨_, _, rfl, Own.nil _ _ _ _ _, Below.refl _ _⟩
  · go_enter Tryz.func242, Tryz.ntmps242
    go_wp2_with (at_builtin; refine list_app (t := 23) (e := 76) (bytes := 40) rfl (.tmp 5) (.tmp 6) rfl cab_elem cabC_good rfl (Own.made w cabC 4 76 w.heap.size #[] 0 (Nat.le_refl _) (by simp [maxLen]) rfl) rfl (h.below cabC_good (by omega) ((Below.refl _ _).alloc (Nat.le_refl _) _)) (fun _ _ hc => hc) (by simp; omega) (by omega) (by simp) ?_; intro v' w' xs' hown hg _)
    go_ret
    exact ⟨_, _, rfl, hown, below_app (Below.alloc (Below.refl _ _) (Nat.le_refl _) _) (Own.made w cabC 4 76 w.heap.size #[] 0 (Nat.le_refl _) (by simp [maxLen]) rfl) hg (by simp)⟩
set_option maxHeartbeats 1000000 in
theorem Clone_bnd (A : Option Addr) (n cap : Nat) (l : List Band) (w : World) (h : Sl bandC 2 w All A n cap l) (hn : n * 16 ≤ 140737488355328) :
    Calls Tryz.prog 244 #[.slice A n cap] w fun e w' => ∃ v xs, e = .returned v ∧ Own bandC 2 186 w' w.heap.size v l xs ∧ Below w.heap.size w w' := by
  have hnil := fun (W : World) (a : Option Addr) => Lib.run_eql_slice_nil (P := Tryz.prog) W 27 186 a n cap 0 0 Tryz.underlying27
  rcases A with _ | a
  · have hl : l = [] := by
      rcases l with _ | ⟨x, l⟩
      · rfl
      · obtain ⟨b, off, cs, hA, _⟩ := h.rd 0 x rfl
        cases hA
    subst hl
    go_enter Tryz.func244, Tryz.ntmps244
    go_wp2
    go_ret
    exact ⟨_, _, rfl, Own.nil _ _ _ _ _, Below.refl _ _⟩
  · go_enter Tryz.func244, Tryz.ntmps244
    go_wp2_with (at_builtin; refine list_app (t := 27) (e := 186) (bytes := 16) rfl (.tmp 5) (.tmp 6) rfl bnd_elem bandC_good rfl (Own.made w bandC 2 186 w.heap.size #[] 0 (Nat.le_refl _) (by simp [maxLen]) rfl) rfl (h.below bandC_good (by omega) ((Below.refl _ _).alloc (Nat.le_refl _) _)) (fun _ _ hc => hc) (by simp; omega) (by omega) (by simp) ?_; intro v' w' xs' hown hg _)
    go_ret
    exact ⟨_, _, rfl, hown, below_app (Below.alloc (Below.refl _ _) (Nat.le_refl _) _) (Own.made w bandC 2 186 w.heap.size #[] 0 (Nat.le_refl _) (by simp [maxLen]) rfl) hg (by simp)⟩
theorem Blk.row {w : World} {z : Nat} {cs : Array Value} {t : TypeId} (h : Blk w z cs t) (us : Array Value) : Blk (w.setRow z us) z us t := setRow_heap _ _ _ _ _ _ h
theorem Blk.rowOther {w : World} {b : Nat} {cs : Array Value} {t : TypeId} (h : Blk w b cs t) {z : Nat} (hne : b ≠ z) (us : Array Value) : Blk (w.setRow z us) b cs t := (setRow_other _ _ _ _ hne).trans h
theorem Kept.setRow {S : Nat → Prop} {a w : World} (h : Kept S a w) {z : Nat} (hz : S z ∨ a.heap.size ≤ z) (us : Array Value) : Kept S a (w.setRow z us) :=
  ⟨h.os, h.tape, h.output, by simpa using h.size, fun k hk hS => (setRow_other _ _ _ _ (by rintro rfl; rcases hz with hz | hz; exact hS hz; omega)).trans (h.block k hk hS)⟩
theorem Blk.ld {w : World} {b : Nat} {cs : Array Value} {t ty : TypeId} {d : TypeDesc} (h : Blk w b cs t) (hu : Tryz.prog.underlying ty = some d) (hd : (match d with | .struct _ | .array _ _ => true | _ => false) = true) (hi : (Tryz.prog.info? ty).map (·.size) = some cs.size) :
    (loadVar ty ⟨b, 0, none⟩).run Tryz.prog w = .ok (.agg cs) w := by
  have h' : w.heap[b]? = some (.cells cs t (0, 0)) := h
  cases d <;> first | exact run_loadVar_row w b t ty cs (0, 0) _ h' hu rfl hi | simp at hd
theorem Blk.st {w : World} {b : Nat} {old cells : Array Value} {t ty : TypeId} (h : Blk w b old t) (hi : (Tryz.prog.info? ty).map (·.size) = some cells.size) (ho : old.size = cells.size) (h1 : cells.all (·.oneCell') = true) :
    (storeVar ty ⟨b, 0, none⟩ (.agg cells)).run Tryz.prog w = .ok () (w.setRow b cells) := run_storeVar_row w b t ty old cells h hi ho h1
theorem Blk.ret {fn : Func} {k : Tmp} {ty t : TypeId} (hf : fn.results = #[.cell k ty]) {tmps : Array Value} {w : World} {g : Nat} {cs : Array Value} {d : TypeDesc} (hg : Blk w g cs t) (hp : tmps.getD k undef = .pointer (some ⟨g, 0, none⟩))
    (hu : Tryz.prog.underlying ty = some d) (hd : (match d with | .struct _ | .array _ _ => true | _ => false) = true) (hi : (Tryz.prog.info? ty).map (·.size) = some cs.size) : (results fn tmps).run Tryz.prog w = .ok (.agg cs) w := by
  have h' : w.heap[g]? = some (.cells cs t (0, 0)) := hg
  cases d <;> first | exact results_cell_row hf tmps w g t cs (0, 0) _ hp h' hu rfl hi | simp at hd
theorem bkgA_one (b : Bkg) (A : Option Addr) (n cap : Nat) : (bkgA b (.slice A n cap)).all (·.oneCell') = true := by simp [bkgA, Value.oneCell']
set_option maxRecDepth 100000 in
set_option maxHeartbeats 4000000 in
theorem bookOwn_any (b : Bkg) (A3 : Option Addr) (n3 c3 : Nat) (w : World) (hf : Sl entryC 3 w All A3 n3 c3 b.fol) (hn : n3 ≤ 1000000000) :
    Calls Tryz.prog 203 #[.agg (bkgA b (.slice A3 n3 c3))] w fun e w' => ∃ v xs, e = .returned (.agg (bkgA b v)) ∧ Own entryC 3 57 w' w.heap.size v b.fol xs ∧ Below w.heap.size w w' := by
  obtain ⟨id, kind, state, gst, lev, cab, cat, frm, upto, til, fol⟩ := b
  simp only at hf
  have HCL := Lib.hid (fun W h => Clone_entry A3 n3 c3 fol W h hn)
  have HF := Lib.hid hf
  clear hf
  go_enter Tryz.func203, Tryz.ntmps203
  go_upto_region 0 with (fail)
  go_cut [1, 2] (fun p p2 wx => ∃ h z, p = .pointer (some ⟨h, 0, none⟩) ∧ p2 = .pointer (some ⟨z, 0, none⟩) ∧ w.heap.size ≤ h ∧ w.heap.size ≤ z ∧ h ≠ z ∧ Blk wx h (bkgA ⟨id, kind, state, gst, lev, cab, cat, frm, upto, til, fol⟩ (.slice A3 n3 c3)) 37 ∧ Blk wx z #[.int .i64 0, .int .i64 0, .int .i64 0, .int .i64 0, .bool false, .int .i64 0, .int .i64 0, .int .i64 0, .int .i64 0, .int .i64 0, .slice none 0 0] 37 ∧ Below w.heap.size w wx)
  case first => as_aux_lemma =>
    go_wp2_with fail
    go_meet
    exact ⟨_, _, rfl, rfl, Nat.le_refl _, by omega, by omega, blk2_0 _ _ _, blk2_1 _ _ _, bel2 _ _ _⟩
  obtain ⟨h, z, rfl, rfl, hh, hz, hne, hH, hZ, hbw⟩ := hcut
  have z9 : wc.cell? ⟨h, 10, none⟩ = some (.slice A3 n3 c3) := hH.cell rfl
  have HCALL := Lib.hid (HCL.out wc (HF.out.bel hbw))
  have HHL := Lib.hid hH.lt
  have HZL := Lib.hid hZ.lt
  have hsz := hbw.size
  go_wp2_with fail
  refine HCALL.out.mono ?_
  rintro e w2 ⟨v, xs, rfl, hO, hb2⟩
  obtain ⟨A4, n4, c4, rfl, _⟩ := hO.sl entryC_good
  replace hH := hH.bel hb2
  replace hZ := hZ.bel hb2
  have HB := Lib.hid (hbw.trans (hb2.mono hsz))
  have f10 : w2.frozen? ⟨h, 10, none⟩ = false := hH.free 10
  have k10 : w2.cell? ⟨h, 10, none⟩ = some (.slice A3 n3 c3) := hH.cell rfl
  have HH := Lib.hid hH
  have HZ := Lib.hid hZ
  have HO := Lib.hid hO
  clear hH hZ hO hb2 z9 HCALL hbw
  go_upto_region 2 with (fail)
  have hH3 : Blk (w2.setCell ⟨h, 10, none⟩ (.slice A4 n4 c4)) h (bkgA ⟨id, kind, state, gst, lev, cab, cat, frm, upto, til, fol⟩ (.slice A4 n4 c4)) 37 := HH.out.set (j := 10) _
  have hZ3 := Blk.other HZ.out (p := ⟨h, 10, none⟩) hne (.slice A4 n4 c4)
  have hK3 : Kept (fun k => k = h ∨ k = z) w2 (w2.setCell ⟨h, 10, none⟩ (.slice A4 n4 c4)) := (Kept.refl _ _).setCell (.inl (.inl rfl)) _
  obtain ⟨W3, hW3⟩ : ∃ V, V = w2.setCell ⟨h, 10, none⟩ (.slice A4 n4 c4) := ⟨_, rfl⟩
  rw [← hW3] at hH3 hZ3 hK3 ⊢
  have HZ3 := Lib.hid hZ3
  have HK3 := Lib.hid hK3
  have HH3 := Lib.hid hH3
  clear hW3 hH3 hZ3 hK3 f10 k10
  go_wp2_with (first | (refine wpList_load_row rfl 37 (.tmp 1) rfl h rfl 37 _ (0, 0) _ HH3.out Tryz.underlying37 rfl (by kernel_rfl) ?_) | (refine wpList_store_row rfl 37 (.tmp 2) (.tmp 7) rfl z (bkgA ⟨id, kind, state, gst, lev, cab, cat, frm, upto, til, fol⟩ (.slice A4 n4 c4)) rfl rfl 37 _ HZ3.out (by kernel_rfl) rfl (bkgA_one _ _ _ _) ?_))
  refine bodyPost_ret (v := .agg (bkgA ⟨id, kind, state, gst, lev, cab, cat, frm, upto, til, fol⟩ (.slice A4 n4 c4))) ((HZ3.out.row _).ret (k := 2) (by kernel_rfl) rfl Tryz.underlying37 (by kernel_rfl) (by kernel_rfl)) rfl ?_
  have hK4 := HK3.out.setRow (z := z) (.inl (.inr rfl)) (bkgA ⟨id, kind, state, gst, lev, cab, cat, frm, upto, til, fol⟩ (.slice A4 n4 c4))
  have h1 := HHL.out
  have h2 := HZL.out
  exact ⟨_, xs, rfl, (HO.out.kept entryC_good hK4 (fun k hk => by omega)).mono entryC_good hsz, HB.out.trans (hK4.below HB.out.size (fun k hk => by omega))⟩
end Go.Proofs.YtoilcdgpeilgaaaGreat
