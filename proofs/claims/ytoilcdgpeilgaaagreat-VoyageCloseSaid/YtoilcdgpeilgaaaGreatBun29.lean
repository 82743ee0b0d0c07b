/-
  Words, laws and contracts: StockK.
-/
import Derived.Test.YtoilcdgpeilgaaaGreatBun17
import Derived.Test.YtoilcdgpeilgaaaGreatBun26
set_option linter.unusedSimpArgs false
set_option linter.unusedVariables false
namespace Go.Proofs.YtoilcdgpeilgaaaGreat
open Go.RowKit Go.Shelf
theorem firstE_pre {f : Nat → Int} {k : Nat} (h : firstE f k ≠ 0) : ∀ {n : Nat}, k ≤ n → firstE f n = firstE f k
  | 0, hn => by obtain rfl : k = 0 := by omega
                rfl
  | n + 1, hn => by
    by_cases e : k = n + 1
    · rw [e]
    · have ih := firstE_pre (f := f) h (n := n) (by omega)
      show (if firstE f n ≠ 0 then firstE f n else f n) = _
      rw [ih, if_pos h]
theorem firstE_next {f : Nat → Int} {k : Nat} {b : Int} (h0 : firstE f k = 0) (hb : f k = b) : firstE f (k + 1) = b := by
  unfold firstE
  rw [if_neg (by simpa using h0), hb]
set_option maxRecDepth 100000 in
set_option maxHeartbeats 16000000 in
theorem CheckSailing_any (x : Sai) (p : SaiV) (w : World) (h : SaiR w x p) :
    Calls Tryz.prog 32 #[.agg (saiA x p)] w fun e w' => e = .returned (.int .i64 (saiE x)) ∧ Below w.heap.size w w' := by
  have HRM := Lib.hid (fun W h (hb : OkBs x) => RoomOf_any x p W h hb.ship hb.bk hb.len)
  have HS := Lib.hid h
  obtain ⟨A, n, cap, B, m, cap2, D, nd, cd, E, ne, ce, C, nb, cb⟩ := p
  have hl : Sl bkgC 11 w All C nb cb x.bks := h.bks
  have hc : Sl catC 2 w All A n cap x.ship.cats := h.cats
  have hd : Sl cabC 4 w All B m cap2 x.ship.cabs := h.cabs
  have hf : FareR w D nd cd x.fares E ne ce := h.fares
  have hbd := hl.bd
  have HCB := Lib.hid (fun b A3 n3 c3 W h1 h2 ho h3 => CheckBooking_any x.ship A n cap B m cap2 b A3 n3 c3 W h1 h2 ho h3)
  obtain ⟨r, hr⟩ : ∃ r, r = saiE x := ⟨_, rfl⟩
  rw [← hr]
  have hsc := fun W h1 h2 => CheckShip_any x.ship A n cap B m cap2 W h1 h2
  have hfc := fun W h1 => CheckFares_any D nd cd x.fares E ne ce (n : Int) x.ship.legs W h1
  obtain ⟨se, hse⟩ : ∃ q, q = shipE x.ship := ⟨_, rfl⟩
  obtain ⟨fe, hfe⟩ : ∃ q, q = fareE x.fares (n : Int) x.ship.legs := ⟨_, rfl⟩
  obtain ⟨fl, hfl⟩ : ∃ q, q = firstE (bkE1 x) nb := ⟨_, rfl⟩
  obtain ⟨an, han⟩ : ∃ q, q = x.bks.any (badB x.closed) := ⟨_, rfl⟩
  obtain ⟨re, hre⟩ : ∃ q, q = roomE x := ⟨_, rfl⟩
  obtain ⟨d1, hd1⟩ : ∃ q, q = betB x.day 0 9999 := ⟨_, rfl⟩
  obtain ⟨d2, hd2⟩ : ∃ q, q = betB x.leaves 0 9999 := ⟨_, rfl⟩
  obtain ⟨be, hbe⟩ : ∃ q, q = bksE x := ⟨_, rfl⟩
  have HBE := Lib.hid (show be = if 16 < nb then 2 else if fl ≠ 0 then fl else if an = true then 4 else 0 by rw [hbe, hfl, han, ← hl.len]; rfl)
  have HR := Lib.hid (show r = if se ≠ 0 then se else if fe ≠ 0 then fe else if (d1 && d2) = false then 3 else if be ≠ 0 then be else if re = 8 then 2 else re by rw [hr, hse, hfe, hbe, hre, hd1, hd2, ← hc.len]; rfl)
  have hw1 := fun W => between_any x.day 0 9999 W
  have hw2 := fun W => between_any x.leaves 0 9999 W
  rw [← hd1] at hw1
  rw [← hd2] at hw2
  rw [← hse] at hsc
  rw [← hfe] at hfc
  rw [← hre] at HRM
  have HSC := Lib.hid hsc
  clear hsc
  have HFC := Lib.hid hfc
  clear hfc
  have HW1 := Lib.hid hw1
  clear hw1
  have HW2 := Lib.hid hw2
  clear hw2
  have HSE := Lib.hid hse
  clear hse
  have HBX := Lib.hid hbe
  clear hbe
  have HFL := Lib.hid hfl
  clear hfl
  have HAN := Lib.hid han
  clear han
  have HN := Lib.hid hl.len
  have HC := Lib.hid hc
  have HD := Lib.hid hd
  have HF := Lib.hid hf
  have HL := Lib.hid hl
  clear h hc hd hf hr hfe hre hd1 hd2 hl
  go_enter Tryz.func32, Tryz.ntmps32
  go_upto_region 0 with (fail)
  go_cut [1, 2] (fun q _ wx => ∃ g, q = .pointer (some ⟨g, 0, none⟩) ∧ Blk wx g (saiA x ⟨A, n, cap, B, m, cap2, D, nd, cd, E, ne, ce, C, nb, cb⟩) 32 ∧ Below w.heap.size w wx)
  case first => as_aux_lemma =>
    go_wp2_with fail
    go_meet
    exact ⟨_, rfl, blk1 _ _, bel1 _ _⟩
  obtain ⟨g, rfl, hG, hbw⟩ := hcut
  have s0 : wc.cell? ⟨g, 0, none⟩ = some (.int .i64 x.ship.legs) := hG.cell rfl
  have s1 : wc.cell? ⟨g, 1, none⟩ = some (.int .i64 x.ship.souls) := hG.cell rfl
  have s2 : wc.cell? ⟨g, 2, none⟩ = some (.slice A n cap) := hG.cell rfl
  have s3 : wc.cell? ⟨g, 3, none⟩ = some (.slice B m cap2) := hG.cell rfl
  have s4 : wc.cell? ⟨g, 4, none⟩ = some (.slice D nd cd) := hG.cell rfl
  have s5 : wc.cell? ⟨g, 5, none⟩ = some (.int .i64 x.fares.alone) := hG.cell rfl
  have s6 : wc.cell? ⟨g, 6, none⟩ = some (.int .i64 x.fares.third) := hG.cell rfl
  have s7 : wc.cell? ⟨g, 7, none⟩ = some (.slice E ne ce) := hG.cell rfl
  have s8 : wc.cell? ⟨g, 8, none⟩ = some (.int .i64 x.fares.down) := hG.cell rfl
  have s9 : wc.cell? ⟨g, 9, none⟩ = some (.int .i64 x.day) := hG.cell rfl
  have s10 : wc.cell? ⟨g, 10, none⟩ = some (.int .i64 x.leaves) := hG.cell rfl
  have s11 : wc.cell? ⟨g, 11, none⟩ = some (.slice C nb cb) := hG.cell rfl
  have s12 : wc.cell? ⟨g, 12, none⟩ = some (.bool x.closed) := hG.cell rfl
  have HCALL := Lib.hid (HSC.out wc (HC.out.bel hbw) (HD.out.bel hbw))
  go_wp2_with fail
  refine HCALL.out.mono ?_
  rintro e w2 ⟨rfl, hb2⟩
  replace hG := hG.bel hb2
  replace hbw := hbw.trans (hb2.mono hbw.size)
  clear hb2 s0 s1 s2 s3 s4 s5 s6 s7 s8 s9 s10 s11 s12 HCALL HSC
  obtain ⟨e1, he1⟩ : ∃ q, q = if se ≠ 0 then se else fe := ⟨_, rfl⟩
  have HE1 := Lib.hid he1
  clear he1
  go_upto_if 11 with (fail)
  obtain ⟨W2, hW2⟩ : ∃ W, W = w2 := ⟨_, rfl⟩
  subst hW2
  go_cut [3] (fun q wx => q = .int .i64 e1 ∧ Below W2.heap.size W2 wx)
  case first => as_aux_lemma =>
    by_cases h0 : se = 0
    · obtain rfl : e1 = fe := by rw [HE1.out, if_neg (by rw [h0]; simp)]
      subst h0
      have s0 : W2.cell? ⟨g, 0, none⟩ = some (.int .i64 x.ship.legs) := hG.cell rfl
      have s1 : W2.cell? ⟨g, 1, none⟩ = some (.int .i64 x.ship.souls) := hG.cell rfl
      have s2 : W2.cell? ⟨g, 2, none⟩ = some (.slice A n cap) := hG.cell rfl
      have s3 : W2.cell? ⟨g, 3, none⟩ = some (.slice B m cap2) := hG.cell rfl
      have s4 : W2.cell? ⟨g, 4, none⟩ = some (.slice D nd cd) := hG.cell rfl
      have s5 : W2.cell? ⟨g, 5, none⟩ = some (.int .i64 x.fares.alone) := hG.cell rfl
      have s6 : W2.cell? ⟨g, 6, none⟩ = some (.int .i64 x.fares.third) := hG.cell rfl
      have s7 : W2.cell? ⟨g, 7, none⟩ = some (.slice E ne ce) := hG.cell rfl
      have s8 : W2.cell? ⟨g, 8, none⟩ = some (.int .i64 x.fares.down) := hG.cell rfl
      have s9 : W2.cell? ⟨g, 9, none⟩ = some (.int .i64 x.day) := hG.cell rfl
      have s10 : W2.cell? ⟨g, 10, none⟩ = some (.int .i64 x.leaves) := hG.cell rfl
      have s11 : W2.cell? ⟨g, 11, none⟩ = some (.slice C nb cb) := hG.cell rfl
      have s12 : W2.cell? ⟨g, 12, none⟩ = some (.bool x.closed) := hG.cell rfl
      have HCALL := Lib.hid (HFC.out W2 (HF.out.below hbw))
      clear hG hbw
      go_wp2_with fail
      refine HCALL.out.mono ?_
      rintro e w3 ⟨rfl, hb3⟩
      go_wp2_with fail
      go_meet
      exact ⟨rfl, hb3⟩
    · obtain rfl : e1 = se := by rw [HE1.out, if_pos h0]
      have h0' : (e1 == 0) = false := by simpa using h0
      clear h0 hG hbw
      go_wp2_with fail
      go_meet
      exact ⟨rfl, Below.refl _ _⟩
  obtain ⟨rfl, hb3⟩ := hcut
  replace hG := hG.bel hb3
  replace hbw := hbw.trans (hb3.mono hbw.size)
  clear hb3 HFC
  obtain ⟨e2, he2⟩ : ∃ q, q = if e1 ≠ 0 then e1 else if (d1 && d2) = false then 3 else 0 := ⟨_, rfl⟩
  have HE2 := Lib.hid he2
  clear he2
  obtain ⟨tv, htv⟩ : ∃ q, q = (decide (e1 = 0) && !(d1 && d2)) := ⟨_, rfl⟩
  have HEV := Lib.hid (show e2 = if tv = true then 3 else e1 by
    rw [HE2.out, htv]
    by_cases h0 : e1 = 0
    · rw [if_neg (by rw [h0]; simp), decide_eq_true h0]
      cases hd : (d1 && d2) <;> simp [h0]
    · rw [if_pos h0, decide_eq_false h0]; simp)
  have HTV := Lib.hid htv
  clear htv
  go_upto_region 4 with (fail)
  obtain ⟨W3, hW3⟩ : ∃ W, W = wc := ⟨_, rfl⟩
  subst hW3
  go_cut [35] (fun q wx => q = .bool tv ∧ W3 = wx)
  case first => as_aux_lemma =>
    by_cases h0 : e1 = 0
    · have HE3 := Lib.hid (show tv = !(d1 && d2) by rw [HTV.out, decide_eq_true h0]; rfl)
      subst h0
      have s9 : W3.cell? ⟨g, 9, none⟩ = some (.int .i64 x.day) := hG.cell rfl
      have s10 : W3.cell? ⟨g, 10, none⟩ = some (.int .i64 x.leaves) := hG.cell rfl
      clear hG hbw
      go_wp2_with fail
      refine (HW1.out _).mono ?_
      rintro e w9 ⟨rfl, rfl⟩
      cases d1
      · obtain rfl : tv = true := HE3.out
        go_wp2_with fail
        go_meet
        exact ⟨rfl, rfl⟩
      go_wp2_with fail
      refine (HW2.out _).mono ?_
      rintro e w9 ⟨rfl, rfl⟩
      cases d2
      · obtain rfl : tv = true := HE3.out
        go_wp2_with fail
        go_meet
        exact ⟨rfl, rfl⟩
      · obtain rfl : tv = false := HE3.out
        go_wp2_with fail
        go_meet
        exact ⟨rfl, rfl⟩
    · obtain rfl : tv = false := by rw [HTV.out, decide_eq_false h0]; rfl
      have h0' : (e1 == 0) = false := by simpa using h0
      clear h0 hG hbw
      go_wp2_with fail
      go_meet
      exact ⟨rfl, rfl⟩
  obtain ⟨rfl, hwc3⟩ := hcut
  subst hwc3
  go_upto_if 35 with (fail)
  go_cut [3] (fun q wx => q = .int .i64 e2 ∧ W3 = wx)
  case first => as_aux_lemma =>
    cases tv
    · obtain rfl : e2 = e1 := HEV.out
      clear hG hbw
      go_wp2_with fail
      go_meet
      exact ⟨rfl, rfl⟩
    · obtain rfl : e2 = 3 := HEV.out
      clear hG hbw
      go_wp2_with fail
      go_meet
      exact ⟨rfl, rfl⟩
  obtain ⟨rfl, hwc3⟩ := hcut
  subst hwc3
  clear HW1 HW2
  obtain ⟨e3, he3⟩ : ∃ q, q = if e2 ≠ 0 then e2 else if 16 < nb then 2 else 0 := ⟨_, rfl⟩
  have HE3 := Lib.hid he3
  clear he3
  obtain ⟨tw, htw⟩ : ∃ q, q = (decide (e2 = 0) && decide (16 < nb)) := ⟨_, rfl⟩
  have HEW := Lib.hid (show e3 = if tw = true then 2 else e2 by
    rw [HE3.out, htw]
    by_cases h0 : e2 = 0
    · rw [if_neg (by rw [h0]; simp), decide_eq_true h0]
      by_cases h16 : 16 < nb
      · rw [if_pos h16, decide_eq_true h16]; rfl
      · rw [if_neg h16, decide_eq_false h16]; simp [h0]
    · rw [if_pos h0, decide_eq_false h0]; simp)
  have HTW := Lib.hid htw
  clear htw
  go_upto_region 6 with (fail)
  obtain ⟨W4, hW4⟩ : ∃ W, W = W3 := ⟨_, rfl⟩
  subst hW4
  go_cut [43] (fun q wx => q = .bool tw ∧ W4 = wx)
  case first => as_aux_lemma =>
    by_cases h0 : e2 = 0
    · have HE4 := Lib.hid (show tw = decide (16 < nb) by rw [HTW.out, decide_eq_true h0]; rfl)
      subst h0
      have s11 : W4.cell? ⟨g, 11, none⟩ = some (.slice C nb cb) := hG.cell rfl
      clear hG hbw
      by_cases h16 : 16 < nb
      · obtain rfl : tw = true := by rw [HE4.out, decide_eq_true h16]
        have hd : decide (16 < (nb : Int)) = true := decide_eq_true (by omega)
        clear h16
        go_wp2_with fail
        go_meet
        exact ⟨rfl, rfl⟩
      · obtain rfl : tw = false := by rw [HE4.out, decide_eq_false h16]
        have hd : decide (16 < (nb : Int)) = false := decide_eq_false (by omega)
        clear h16
        go_wp2_with fail
        go_meet
        exact ⟨rfl, rfl⟩
    · obtain rfl : tw = false := by rw [HTW.out, decide_eq_false h0]; rfl
      have h0' : (e2 == 0) = false := by simpa using h0
      clear h0 hG hbw
      go_wp2_with fail
      go_meet
      exact ⟨rfl, rfl⟩
  obtain ⟨rfl, hwc4⟩ := hcut
  subst hwc4
  go_upto_if 43 with (fail)
  go_cut [3] (fun q wx => q = .int .i64 e3 ∧ W4 = wx)
  case first => as_aux_lemma =>
    cases tw
    · obtain rfl : e3 = e2 := HEW.out
      clear hG hbw
      go_wp2_with fail
      go_meet
      exact ⟨rfl, rfl⟩
    · obtain rfl : e3 = 2 := HEW.out
      clear hG hbw
      go_wp2_with fail
      go_meet
      exact ⟨rfl, rfl⟩
  obtain ⟨rfl, hwc4⟩ := hcut
  subst hwc4
  have HZ := Lib.hid (show e3 = 0 → se = 0 ∧ ¬ 16 < nb ∧ r = if be ≠ 0 then be else if re = 8 then 2 else re from fun h => by
    have h3 := HE3.out
    have h2 := HE2.out
    have h1 := HE1.out
    have hr := HR.out
    by_cases a2 : e2 = 0
    rotate_left
    · rw [if_pos a2] at h3; omega
    rw [if_neg (by rw [a2]; simp)] at h3
    by_cases a1 : e1 = 0
    rotate_left
    · rw [if_pos a1] at h2; omega
    rw [if_neg (by rw [a1]; simp)] at h2
    by_cases a0 : se = 0
    rotate_left
    · rw [if_pos a0] at h1; omega
    rw [if_neg (by rw [a0]; simp)] at h1 hr
    rw [if_neg (by rw [← h1, a1]; simp)] at hr
    refine ⟨a0, fun hc => by rw [if_pos hc] at h3; omega, ?_⟩
    by_cases ad : (d1 && d2) = false
    · rw [if_pos ad] at h2; omega
    · rw [if_neg ad] at hr; exact hr)
  have HNZ := Lib.hid (show e3 ≠ 0 → r = e3 from fun h => by
    have h3 := HE3.out
    have h2 := HE2.out
    have h1 := HE1.out
    have hr := HR.out
    by_cases a0 : se = 0
    · rw [if_neg (by rw [a0]; simp)] at h1 hr
      by_cases a1 : fe = 0
      · rw [if_neg (by rw [a1]; simp)] at hr
        rw [if_neg (by rw [h1, a1]; simp)] at h2
        by_cases ad : (d1 && d2) = false
        · rw [if_pos ad] at h2 hr
          rw [if_pos (by rw [h2]; simp)] at h3
          rw [hr, h3, h2]
        · rw [if_neg ad] at h2 hr
          rw [if_neg (by rw [h2]; simp)] at h3
          by_cases a16 : 16 < nb
          · rw [if_pos a16] at h3
            have hb := HBE.out
            rw [if_pos a16] at hb
            rw [if_pos (by rw [hb]; simp)] at hr
            rw [hr, hb, h3]
          · rw [if_neg a16] at h3; exact absurd h3 h
      · rw [if_pos a1] at hr
        rw [if_pos (by rw [h1]; exact a1)] at h2
        rw [if_pos (by rw [h2, h1]; exact a1)] at h3
        rw [hr, h3, h2, h1]
    · rw [if_pos a0] at h1 hr
      rw [if_pos (by rw [h1]; exact a0)] at h2
      rw [if_pos (by rw [h2, h1]; exact a0)] at h3
      rw [hr, h3, h2, h1])
  clear HE1 HE2 HE3 HR
  obtain ⟨W0, hW0⟩ : ∃ W, W = W4 := ⟨_, rfl⟩
  subst hW0
  have HG := Lib.hid hG
  clear hG
  have HBW := Lib.hid hbw
  clear hbw
  obtain ⟨e4, he4⟩ : ∃ q, q = if e3 ≠ 0 then e3 else fl := ⟨_, rfl⟩
  have HE4 := Lib.hid he4
  clear he4
  have HE40 := Lib.hid (show e3 = 0 → e4 = firstE (bkE1 x) nb from fun h => by rw [HE4.out, if_neg (by rw [h]; simp), HFL.out])
  have HE41 := Lib.hid (show e3 ≠ 0 → e4 = e3 from fun h => by rw [HE4.out, if_pos h])
  go_upto_block 0 with (fail)
  go_cut [3, 4] (fun v _ wx => v = .int .i64 e4 ∧ Below W0.heap.size W0 wx)
  case first => as_aux_lemma =>
    go_wp2_with fail
    go_loopg [3, 4] nb (fun gk v i wr => ∃ (k : Nat) (f : Int), k ≤ nb ∧ nb - k ≤ gk ∧ i = .int .i64 k ∧ v = .int .i64 f ∧ Aside (f = if e3 ≠ 0 then e3 else firstE (bkE1 x) k) ∧ Below W0.heap.size W0 wr)
    case atStart => exact ⟨0, e3, Nat.zero_le _, by omega, rfl, rfl, (by show e3 = if e3 ≠ 0 then e3 else 0; by_cases h : e3 = 0 <;> simp [h]), Below.refl _ _⟩
    case round =>
      obtain ⟨k, f, hk, hgk, rfl, rfl, HE, hb⟩ := hrel
      have hbo := HBW.out.trans (hb.mono HBW.out.size)
      have hG := HG.out.bel hb
      by_cases hlt : k < nb
      rotate_left
      · obtain rfl : k = nb := by omega
        obtain rfl : f = e4 := by
          have hE : f = if e3 ≠ 0 then e3 else firstE (bkE1 x) k := HE
          rw [hE, HE4.out, HFL.out]
        have s11 : wr.cell? ⟨g, 11, none⟩ = some (.slice C k cb) := hG.cell rfl
        clear hG
        go_wp2_with fail
        go_meet
        exact ⟨rfl, hb⟩
      by_cases hf0 : f = 0
      rotate_left
      · obtain rfl : f = e4 := by
          have hE : f = if e3 ≠ 0 then e3 else firstE (bkE1 x) k := HE
          by_cases h3 : e3 = 0
          · rw [if_neg (by rw [h3]; simp)] at hE
            rw [HE40.out h3, hE, firstE_pre (by rw [← hE]; exact hf0) hk]
          · rw [if_pos h3] at hE
            rw [hE, HE41.out h3]
        have s11 : wr.cell? ⟨g, 11, none⟩ = some (.slice C nb cb) := hG.cell rfl
        have hf0' : (f == 0) = false := by simpa using hf0
        clear hG hf0
        go_wp2_with fail
        go_meet
        exact ⟨rfl, hb⟩
      have HEF := Lib.hid (show e3 = 0 ∧ firstE (bkE1 x) k = 0 from by
        have hE : f = if e3 ≠ 0 then e3 else firstE (bkE1 x) k := HE
        by_cases h3 : e3 = 0
        · rw [if_neg (by rw [h3]; simp)] at hE
          exact ⟨h3, by rw [← hE]; exact hf0⟩
        · rw [if_pos h3] at hE
          exact absurd (by rw [← hE]; exact hf0) h3)
      subst hf0
      clear HE
      obtain ⟨ab, off, ⟨id, kind, state, gst, lev, cab, cat, frm, upto, til, fol⟩, A3, n3, c3, hA, hx, hF, hI, hcel⟩ := (HL.out.bel hbo).bkg hlt
      subst hA
      simp only at hF
      have y0 : wr.cell? ⟨ab, off + k * 11, none⟩ = some (.int .i64 id) := hcel 0 _ rfl
      have y1 : wr.cell? ⟨ab, off + k * 11 + 1, none⟩ = some (.int .i64 kind) := hcel 1 _ rfl
      have y2 : wr.cell? ⟨ab, off + k * 11 + 2, none⟩ = some (.int .i64 state) := hcel 2 _ rfl
      have y3 : wr.cell? ⟨ab, off + k * 11 + 3, none⟩ = some (.int .i64 gst) := hcel 3 _ rfl
      have y4 : wr.cell? ⟨ab, off + k * 11 + 4, none⟩ = some (.bool lev) := hcel 4 _ rfl
      have y5 : wr.cell? ⟨ab, off + k * 11 + 5, none⟩ = some (.int .i64 cab) := hcel 5 _ rfl
      have y6 : wr.cell? ⟨ab, off + k * 11 + 6, none⟩ = some (.int .i64 cat) := hcel 6 _ rfl
      have y7 : wr.cell? ⟨ab, off + k * 11 + 7, none⟩ = some (.int .i64 frm) := hcel 7 _ rfl
      have y8 : wr.cell? ⟨ab, off + k * 11 + 8, none⟩ = some (.int .i64 upto) := hcel 8 _ rfl
      have y9 : wr.cell? ⟨ab, off + k * 11 + 9, none⟩ = some (.int .i64 til) := hcel 9 _ rfl
      have y10 : wr.cell? ⟨ab, off + k * 11 + 10, none⟩ = some (.slice A3 n3 c3) := hcel 10 _ rfl
      clear hcel
      have s0 : wr.cell? ⟨g, 0, none⟩ = some (.int .i64 x.ship.legs) := hG.cell rfl
      have s1 : wr.cell? ⟨g, 1, none⟩ = some (.int .i64 x.ship.souls) := hG.cell rfl
      have s2 : wr.cell? ⟨g, 2, none⟩ = some (.slice A n cap) := hG.cell rfl
      have s3 : wr.cell? ⟨g, 3, none⟩ = some (.slice B m cap2) := hG.cell rfl
      have s4 : wr.cell? ⟨g, 4, none⟩ = some (.slice D nd cd) := hG.cell rfl
      have s5 : wr.cell? ⟨g, 5, none⟩ = some (.int .i64 x.fares.alone) := hG.cell rfl
      have s6 : wr.cell? ⟨g, 6, none⟩ = some (.int .i64 x.fares.third) := hG.cell rfl
      have s7 : wr.cell? ⟨g, 7, none⟩ = some (.slice E ne ce) := hG.cell rfl
      have s8 : wr.cell? ⟨g, 8, none⟩ = some (.int .i64 x.fares.down) := hG.cell rfl
      have s9 : wr.cell? ⟨g, 9, none⟩ = some (.int .i64 x.day) := hG.cell rfl
      have s10 : wr.cell? ⟨g, 10, none⟩ = some (.int .i64 x.leaves) := hG.cell rfl
      have s11 : wr.cell? ⟨g, 11, none⟩ = some (.slice (some ⟨ab, off, none⟩) nb cb) := hG.cell rfl
      have s12 : wr.cell? ⟨g, 12, none⟩ = some (.bool x.closed) := hG.cell rfl
      have HCEL := Lib.hid (show ∀ X, Below wr.heap.size wr X → (fun w' => w'.cell? ⟨g, 0, none⟩ = some (.int .i64 x.ship.legs) ∧ w'.cell? ⟨g, 1, none⟩ = some (.int .i64 x.ship.souls) ∧ w'.cell? ⟨g, 2, none⟩ = some (.slice A n cap) ∧ w'.cell? ⟨g, 3, none⟩ = some (.slice B m cap2) ∧ w'.cell? ⟨g, 11, none⟩ = some (.slice (some ⟨ab, off, none⟩) nb cb) ∧ w'.cell? ⟨ab, off + k * 11, none⟩ = some (.int .i64 id) ∧ w'.cell? ⟨ab, off + k * 11 + 1, none⟩ = some (.int .i64 kind) ∧ w'.cell? ⟨ab, off + k * 11 + 2, none⟩ = some (.int .i64 state) ∧ w'.cell? ⟨ab, off + k * 11 + 3, none⟩ = some (.int .i64 gst) ∧ w'.cell? ⟨ab, off + k * 11 + 4, none⟩ = some (.bool lev) ∧ w'.cell? ⟨ab, off + k * 11 + 5, none⟩ = some (.int .i64 cab) ∧ w'.cell? ⟨ab, off + k * 11 + 6, none⟩ = some (.int .i64 cat) ∧ w'.cell? ⟨ab, off + k * 11 + 7, none⟩ = some (.int .i64 frm) ∧ w'.cell? ⟨ab, off + k * 11 + 8, none⟩ = some (.int .i64 upto) ∧ w'.cell? ⟨ab, off + k * 11 + 9, none⟩ = some (.int .i64 til) ∧ w'.cell? ⟨ab, off + k * 11 + 10, none⟩ = some (.slice A3 n3 c3)) X from fun X hX => ⟨cellB hX s0, cellB hX s1, cellB hX s2, cellB hX s3, cellB hX s11, cellB hX y0, cellB hX y1, cellB hX y2, cellB hX y3, cellB hX y4, cellB hX y5, cellB hX y6, cellB hX y7, cellB hX y8, cellB hX y9, cellB hX y10⟩)
      clear s0 s1 s2 s3 s4 s5 s6 s7 s8 s9 s10 y0 y1 y2 y3 y4 y5 y6 y7 y8 y9 y10
      obtain ⟨q, hq⟩ : ∃ q, q = ofE x.ship ⟨id, kind, state, gst, lev, cab, cat, frm, upto, til, fol⟩ := ⟨_, rfl⟩
      have hok := shp_ok (HSE.out.symm.trans (HZ.out HEF.out.1).1)
      have HCALL := Lib.hid (fun W (hW : Below wr.heap.size wr W) => HCB.out ⟨id, kind, state, gst, lev, cab, cat, frm, upto, til, fol⟩ A3 n3 c3 W (HC.out.bel (hbo.trans (hW.mono hbo.size))) (HD.out.bel (hbo.trans (hW.mono hbo.size))) hok (hF.bel hW))
      have hat := bkE1_at hx
      rw [← hq] at HCALL hat
      have HAT := Lib.hid hat
      clear hat
      have HX := Lib.hid hx
      clear hx
      have HGG := Lib.hid hG
      clear hG
      have hk0 : (0 : Int) ≤ (k : Int) := Int.natCast_nonneg _
      have hk1 : (k : Int) < (nb : Int) := by omega
      clear hF hI hok
      go_upto_region 11 with (fail)
      go_cut [3] (fun t wx => t = .int .i64 q ∧ Below wr.heap.size wr wx)
      case first => as_aux_lemma =>
        have hbx : Below wr.heap.size wr wr.drew := (Below.refl _ wr).drew
        clear hb hbo s11 hq
        refine wp_region_held_drew (S := (fun w' => w'.cell? ⟨g, 0, none⟩ = some (.int .i64 x.ship.legs) ∧ w'.cell? ⟨g, 1, none⟩ = some (.int .i64 x.ship.souls) ∧ w'.cell? ⟨g, 2, none⟩ = some (.slice A n cap) ∧ w'.cell? ⟨g, 3, none⟩ = some (.slice B m cap2) ∧ w'.cell? ⟨g, 11, none⟩ = some (.slice (some ⟨ab, off, none⟩) nb cb) ∧ w'.cell? ⟨ab, off + k * 11, none⟩ = some (.int .i64 id) ∧ w'.cell? ⟨ab, off + k * 11 + 1, none⟩ = some (.int .i64 kind) ∧ w'.cell? ⟨ab, off + k * 11 + 2, none⟩ = some (.int .i64 state) ∧ w'.cell? ⟨ab, off + k * 11 + 3, none⟩ = some (.int .i64 gst) ∧ w'.cell? ⟨ab, off + k * 11 + 4, none⟩ = some (.bool lev) ∧ w'.cell? ⟨ab, off + k * 11 + 5, none⟩ = some (.int .i64 cab) ∧ w'.cell? ⟨ab, off + k * 11 + 6, none⟩ = some (.int .i64 cat) ∧ w'.cell? ⟨ab, off + k * 11 + 7, none⟩ = some (.int .i64 frm) ∧ w'.cell? ⟨ab, off + k * 11 + 8, none⟩ = some (.int .i64 upto) ∧ w'.cell? ⟨ab, off + k * 11 + 9, none⟩ = some (.int .i64 til) ∧ w'.cell? ⟨ab, off + k * 11 + 10, none⟩ = some (.slice A3 n3 c3))) (by kernel_rfl) (HCEL.out _ hbx) (fun hHeld => ?_)
        refine wpAnyH_take (i := 0) (v := ?v1) (gA rfl) (by kernel_rfl) (by kernel_rfl) (by kernel_rfl) (fun _ _ _ h => h) (Or.inl ⟨rfl, ?y1⟩) (by assumption) ?_
        case y1 => (intro w hSw; (try dsimp only at hSw); go_simp <;> with_reducible rfl)
        simp only [Act.put, List.setIfInBounds_toArray, List.set_cons_zero, List.set_cons_succ]
        refine wpAnyH_take (i := 1) (v := ?v2) (gA rfl) (by kernel_rfl) (by kernel_rfl) (by kernel_rfl) (fun _ _ _ h => h) (Or.inl ⟨rfl, ?y2⟩) (by assumption) ?_
        case y2 => (intro w hSw; (try dsimp only at hSw); go_simp <;> with_reducible rfl)
        simp only [Act.put, List.setIfInBounds_toArray, List.set_cons_zero, List.set_cons_succ]
        refine wpAnyH_take (i := 2) (v := ?v3) (gA rfl) (by kernel_rfl) (by kernel_rfl) (by kernel_rfl) (fun _ _ _ h => h) (Or.inl ⟨rfl, ?y3⟩) (by assumption) ?_
        case y3 => (intro w hSw; (try dsimp only at hSw); go_simp <;> with_reducible rfl)
        simp only [Act.put, List.setIfInBounds_toArray, List.set_cons_zero, List.set_cons_succ]
        refine wpAnyH_take (i := 3) (v := ?v4) (gA rfl) (by kernel_rfl) (by kernel_rfl) (by kernel_rfl) (fun _ _ _ h => h) (Or.inl ⟨rfl, ?y4⟩) (by assumption) ?_
        case y4 => (intro w hSw; (try dsimp only at hSw); go_simp <;> with_reducible rfl)
        simp only [Act.put, List.setIfInBounds_toArray, List.set_cons_zero, List.set_cons_succ]
        refine wpAnyH_take (i := 4) (v := ?v5) (gA rfl) (by kernel_rfl) (by kernel_rfl) (by kernel_rfl) (fun _ _ _ h => h) (Or.inl ⟨rfl, ?y5⟩) (by assumption) ?_
        case y5 => (intro w hSw; (try dsimp only at hSw); go_simp <;> with_reducible rfl)
        simp only [Act.put, List.setIfInBounds_toArray, List.set_cons_zero, List.set_cons_succ]
        refine wpAnyH_take (i := 5) (v := ?v6) (gA rfl) (by kernel_rfl) (by kernel_rfl) (by kernel_rfl) (fun _ _ _ h => h) (Or.inl ⟨rfl, ?y6⟩) (by assumption) ?_
        case y6 => (intro w hSw; (try dsimp only at hSw); go_simp <;> with_reducible rfl)
        simp only [Act.put, List.setIfInBounds_toArray, List.set_cons_zero, List.set_cons_succ]
        refine wpAnyH_take (i := 6) (v := ?v7) (gA rfl) (by kernel_rfl) (by kernel_rfl) (by kernel_rfl) (fun _ _ _ h => h) (Or.inl ⟨rfl, ?y7⟩) (by assumption) ?_
        case y7 => (intro w hSw; (try dsimp only at hSw); go_simp <;> with_reducible rfl)
        simp only [Act.put, List.setIfInBounds_toArray, List.set_cons_zero, List.set_cons_succ]
        refine wpAnyH_ready (rs := [7]) (by kernel_rfl) (by simp) (AllReadyH.cons (gA rfl) (fun K hK => ?_) AllReadyH.nil)
        go_simp
        (go_at_call 108; refine (HCALL.out _ hbx).mono ?_; rintro e w3 ⟨rfl, hb3⟩; replace hbx := hbx.trans (hb3.mono hbx.size); clear hb3)
        go_wp2_with fail
        refine hK.out _ _ ?_ (fun hHeld => ?_)
        · exact HCEL.out _ hbx
        clear hK K
        try simp only [Act.put, List.setIfInBounds_toArray, List.set_cons_zero, List.set_cons_succ]
        refine wpAnyH_take (i := 8) (v := ?v9) (gA rfl) (by kernel_rfl) (by kernel_rfl) (by kernel_rfl) (fun _ _ _ h => h) (Or.inl ⟨rfl, ?y9⟩) (by assumption) ?_
        case y9 => (intro w hSw; (try dsimp only at hSw); go_simp <;> with_reducible rfl)
        simp only [Act.put, List.setIfInBounds_toArray, List.set_cons_zero, List.set_cons_succ]
        refine wpAnyH_done (by kernel_rfl) ?_ _
        go_wp2_with fail
        go_meet
        exact ⟨rfl, hbx⟩
      obtain ⟨rfl, hb1⟩ := hcut
      have hbx := hb.trans (hb1.mono hb.size)
      clear hq s11
      by_cases hq0 : q = 0
      rotate_left
      · have h0' : (q == 0) = false := by simpa using hq0
        have HV := Lib.hid (show q = if e3 ≠ 0 then e3 else firstE (bkE1 x) (k + 1) by
          rw [if_neg (by rw [HEF.out.1]; simp), firstE_next HEF.out.2 (by rw [HAT.out, if_pos hq0])])
        have HB := Lib.hid hbx
        clear hbx
        clear hq0 hb hb1 hbo
        go_wp2_with fail
        go_quiet (fail)
        go_wp2_with fail
        go_roundg (nb - (k + 1))
        case measure => omega
        case rel => exact ⟨k + 1, q, by omega, by omega, by go_num, rfl, HV.out, by first | exact HB.out | exact below_drewN HB.out _ | exact HB.out.drew⟩
      subst hq0
      have HAT2 := Lib.hid (HAT.out.trans (if_neg (by simp)))
      obtain ⟨-, -, -, -, s11, y0, -⟩ := HCEL.out _ hb1
      have HB := Lib.hid hbx
      clear hbx
      clear HAT
      rcases k with _ | j
      · have HV := Lib.hid (show (0 : Int) = if e3 ≠ 0 then e3 else firstE (bkE1 x) (0 + 1) by
          rw [if_neg (by rw [HEF.out.1]; simp), firstE_next HEF.out.2 (by rw [HAT2.out, if_neg (fun h => absurd h.1 (Nat.lt_irrefl 0))])])
        clear HAT2 hb hb1 hbo
        go_wp2_with fail
        go_quiet (fail)
        go_wp2_with fail
        go_roundg (nb - 1)
        case measure => omega
        case rel => exact ⟨1, 0, by omega, by omega, by first | rfl | go_num, rfl, HV.out, by first | exact HB.out | exact below_drewN HB.out _ | exact HB.out.drew⟩
      · obtain ⟨ab', off', y, A4, n4, c4, hA', hy, _, _, hcel'⟩ := ((HL.out.bel hbo).bel hb1).bkg (k := j) (by omega)
        simp only [Option.some.injEq, Addr.mk.injEq, and_true] at hA'
        obtain ⟨rfl, rfl⟩ := hA'
        have u0 : wc.cell? ⟨ab, off + j * 11, none⟩ = some (.int .i64 y.id) := hcel' 0 _ rfl
        have hgy : (x.bks.getD (j + 1 - 1) default).id = y.id := by rw [Nat.add_sub_cancel, List.getD_eq_getElem?_getD, hy]; rfl
        have HAT3 := Lib.hid (HAT2.out)
        rw [hgy] at HAT3
        have hw : IntKind.i64.wrap (j : Int) = j := IntWalk.i64_in _ (by omega)
        have hj0 : (0 : Int) ≤ (j : Int) := Int.natCast_nonneg _
        have hj2 : (j : Int) < (nb : Int) := by omega
        have hj3 : (0 : Int) < (j : Int) + 1 := by omega
        have hj4 : decide ((0 : Int) < ((j + 1 : Nat) : Int)) = true := by simp
        clear hcel' hy hgy HAT2 hbo hb hb1
        by_cases hle : id ≤ y.id
        · have HV := Lib.hid (show (4 : Int) = if e3 ≠ 0 then e3 else firstE (bkE1 x) (j + 1 + 1) by
            rw [if_neg (by rw [HEF.out.1]; simp), firstE_next HEF.out.2 (by rw [HAT3.out, if_pos ⟨Nat.succ_pos _, hle⟩])])
          go_wp2_with fail
          go_quiet (fail)
          go_wp2_with fail
          go_roundg (nb - (j + 1 + 1))
          case measure => omega
          case rel => exact ⟨j + 1 + 1, 4, by omega, by omega, by go_num, rfl, HV.out, by first | exact HB.out | exact below_drewN HB.out _ | exact HB.out.drew⟩
        · have HV := Lib.hid (show (0 : Int) = if e3 ≠ 0 then e3 else firstE (bkE1 x) (j + 1 + 1) by
            rw [if_neg (by rw [HEF.out.1]; simp), firstE_next HEF.out.2 (by rw [HAT3.out, if_neg (fun h => hle h.2)])])
          have hle' : y.id < id := by omega
          clear hle
          go_wp2_with fail
          go_quiet (fail)
          go_wp2_with fail
          go_roundg (nb - (j + 1 + 1))
          case measure => omega
          case rel => exact ⟨j + 1 + 1, 0, by omega, by omega, by go_num, rfl, HV.out, by first | exact HB.out | exact below_drewN HB.out _ | exact HB.out.drew⟩
  obtain ⟨rfl, hb⟩ := hcut
  have hbo := HBW.out.trans (hb.mono HBW.out.size)
  have HRZ := Lib.hid (show e4 = 0 → e3 = 0 ∧ r = if an = true then 4 else if re = 8 then 2 else re from fun h => by
    have h3 : e3 = 0 := by
      by_cases h3 : e3 = 0
      · exact h3
      · rw [HE41.out h3] at h; exact absurd h h3
    obtain ⟨_, h16, hr⟩ := HZ.out h3
    refine ⟨h3, ?_⟩
    have hb := HBE.out
    rw [if_neg h16, if_neg (by rw [HFL.out, ← HE40.out h3, h]; simp)] at hb
    rw [hr, hb]
    cases an <;> simp)
  by_cases h4 : e4 = 0
  rotate_left
  · obtain rfl : r = e4 := by
      by_cases h3 : e3 = 0
      · obtain ⟨_, h16, hr⟩ := HZ.out h3
        have hb := HBE.out
        have hfl : fl = e4 := by rw [HFL.out, ← HE40.out h3]
        rw [if_neg h16, if_pos (by rw [hfl]; exact h4)] at hb
        rw [hr, hb, if_pos (by rw [hfl]; exact h4), hfl]
      · rw [HE41.out h3]; exact HNZ.out h3
    have h4' : (r != 0) = true := by simpa using h4
    clear h4 hb
    go_wp2_with fail
    go_ret
    exact ⟨rfl, hbo⟩
  obtain ⟨h3, hr2⟩ := HRZ.out h4
  have hbe : an = false → OkBs x := fun ha => by
    obtain ⟨hse, h16, _⟩ := HZ.out h3
    refine bks_ok (shp_ok (HSE.out.symm.trans hse)) ?_
    have hb := HBE.out
    rw [if_neg h16, if_neg (by rw [HFL.out, ← HE40.out h3, h4]; simp), if_neg (by rw [ha]; simp)] at hb
    rw [← HBX.out, hb]
  have HR2 := Lib.hid hr2
  clear hr2
  have HBS := Lib.hid hbe
  clear hbe
  subst h4
  clear h3 HRZ HE40 HE41 HE4 HNZ HZ HBE
  obtain ⟨W1, hW1⟩ : ∃ W, W = wc := ⟨_, rfl⟩
  subst hW1
  have HB1 := Lib.hid hb
  clear hb
  have HBO := Lib.hid hbo
  clear hbo
  have HG1 := Lib.hid (HG.out.bel HB1.out)
  clear HG
  go_wp2_with fail
  go_loopg [5] nb (fun gk i wr => ∃ k : Nat, k ≤ nb ∧ nb - k ≤ gk ∧ i = .int .i64 k ∧ Aside ((x.bks.take k).any (badB x.closed) = false) ∧ Below W1.heap.size W1 wr)
  case atStart => exact ⟨0, Nat.zero_le _, by omega, rfl, rfl, Below.refl _ _⟩
  case round =>
    obtain ⟨k, hk, hgk, rfl, HA, hb⟩ := hrel
    have hbo := HBO.out.trans (hb.mono HBO.out.size)
    have hG := HG1.out.bel hb
    by_cases hlt : k < nb
    · have HLB := Lib.hid (HL.out.bel hbo)
      obtain ⟨ab, off, ⟨id, kind, state, gst, lev, cab, cat, frm, upto, til, fol⟩, A3, n3, c3, hA, hx, hF, hI, hcel⟩ := (HLB.out).bkg hlt
      subst hA
      simp only at hF
      have y0 : wr.cell? ⟨ab, off + k * 11, none⟩ = some (.int .i64 id) := hcel 0 _ rfl
      have y1 : wr.cell? ⟨ab, off + k * 11 + 1, none⟩ = some (.int .i64 kind) := hcel 1 _ rfl
      have y2 : wr.cell? ⟨ab, off + k * 11 + 2, none⟩ = some (.int .i64 state) := hcel 2 _ rfl
      have y3 : wr.cell? ⟨ab, off + k * 11 + 3, none⟩ = some (.int .i64 gst) := hcel 3 _ rfl
      have y4 : wr.cell? ⟨ab, off + k * 11 + 4, none⟩ = some (.bool lev) := hcel 4 _ rfl
      have y5 : wr.cell? ⟨ab, off + k * 11 + 5, none⟩ = some (.int .i64 cab) := hcel 5 _ rfl
      have y6 : wr.cell? ⟨ab, off + k * 11 + 6, none⟩ = some (.int .i64 cat) := hcel 6 _ rfl
      have y7 : wr.cell? ⟨ab, off + k * 11 + 7, none⟩ = some (.int .i64 frm) := hcel 7 _ rfl
      have y8 : wr.cell? ⟨ab, off + k * 11 + 8, none⟩ = some (.int .i64 upto) := hcel 8 _ rfl
      have y9 : wr.cell? ⟨ab, off + k * 11 + 9, none⟩ = some (.int .i64 til) := hcel 9 _ rfl
      have y10 : wr.cell? ⟨ab, off + k * 11 + 10, none⟩ = some (.slice A3 n3 c3) := hcel 10 _ rfl
      clear hcel
      have s11 : wr.cell? ⟨g, 11, none⟩ = some (.slice (some ⟨ab, off, none⟩) nb cb) := hG.cell rfl
      have hk0 : (0 : Int) ≤ (k : Int) := Int.natCast_nonneg _
      have hk1 : (k : Int) < (nb : Int) := by omega
      go_upto_region 19 with (fail)
      go_cut [6] (fun p1 wx => ∃ z, p1 = .pointer (some ⟨z, 0, none⟩) ∧ Blk wx z (bkgA ⟨id, kind, state, gst, lev, cab, cat, frm, upto, til, fol⟩ (.slice A3 n3 c3)) 37 ∧ Below wr.heap.size wr wx)
      case first => as_aux_lemma =>
        go_wp2_with fail
        go_meet
        exact ⟨_, rfl, blk1 _ _, bel1 _ _⟩
      obtain ⟨z, rfl, hZ, hbz⟩ := hcut
      replace hG := hG.bel hbz
      replace hb := hb.trans (hbz.mono hb.size)
      replace hbo := hbo.trans (hbz.mono hbo.size)
      clear y0 y1 y2 y3 y4 y5 y6 y7 y8 y9 y10 hF hI hbz s11
      obtain ⟨q, hq⟩ : ∃ q, q = badB x.closed ⟨id, kind, state, gst, lev, cab, cat, frm, upto, til, fol⟩ := ⟨_, rfl⟩
      have hsu := any_take_succ (p := badB x.closed) hx
      rw [← hq] at hsu
      have HM := Lib.hid (List.mem_of_getElem? hx)
      have HQV := Lib.hid (show q = (decide (kind = 2) && (!decide (state = 3) && (decide (cab < 0) == x.closed))) by rw [hq]; rfl)
      have HSU := Lib.hid hsu
      clear hsu
      have HQ := Lib.hid hq
      clear hq
      clear hx
      have z1 : wc.cell? ⟨z, 1, none⟩ = some (.int .i64 kind) := hZ.cell rfl
      have z2 : wc.cell? ⟨z, 2, none⟩ = some (.int .i64 state) := hZ.cell rfl
      have z5 : wc.cell? ⟨z, 5, none⟩ = some (.int .i64 cab) := hZ.cell rfl
      have s12 : wc.cell? ⟨g, 12, none⟩ = some (.bool x.closed) := hG.cell rfl
      obtain ⟨cl, hcl⟩ : ∃ c, c = x.closed := ⟨_, rfl⟩
      have HQW := Lib.hid (HQV.out)
      rw [← hcl] at HQW s12
      obtain ⟨W2, hW2⟩ : ∃ W, W = wc := ⟨_, rfl⟩
      subst hW2
      have HBB := Lib.hid hb
      clear hb
      have HBBO := Lib.hid hbo
      clear hbo
      clear hG hZ hcl HQV
      go_upto_region 20 with (fail)
      go_cut [126] (fun t wx => t = .bool q ∧ wx = W2)
      case first => as_aux_lemma =>
        by_cases hkd : kind = 2
        rotate_left
        · obtain rfl : q = false := by rw [HQW.out, decide_eq_false hkd]; rfl
          have h0' : (kind == 2) = false := by simpa using hkd
          clear hkd
          go_wp2_with fail
          go_meet
          exact ⟨rfl, rfl⟩
        by_cases h3 : state = 3
        · obtain rfl : q = false := by rw [HQW.out, decide_eq_true h3]; simp
          subst h3 hkd
          go_wp2_with fail
          go_meet
          exact ⟨rfl, rfl⟩
        have h3' : (state != 3) = true := by simpa using h3
        have HQY := Lib.hid (show q = (decide (cab < 0) == cl) by rw [HQW.out, decide_eq_true hkd, decide_eq_false h3]; rfl)
        subst hkd
        clear h3
        by_cases hcb : cab < 0
        · have hcb' : ¬ 0 ≤ cab := by omega
          cases cl
          · obtain rfl : q = false := by rw [HQY.out, decide_eq_true hcb]; rfl
            go_wp2_with fail
            go_meet
            exact ⟨rfl, rfl⟩
          · obtain rfl : q = true := by rw [HQY.out, decide_eq_true hcb]; rfl
            go_wp2_with fail
            go_meet
            exact ⟨rfl, rfl⟩
        · have hcb' : 0 ≤ cab := by omega
          cases cl
          · obtain rfl : q = true := by rw [HQY.out, decide_eq_false hcb]; rfl
            go_wp2_with fail
            go_meet
            exact ⟨rfl, rfl⟩
          · obtain rfl : q = false := by rw [HQY.out, decide_eq_false hcb]; rfl
            go_wp2_with fail
            go_meet
            exact ⟨rfl, rfl⟩
      obtain ⟨rfl, rfl⟩ := hcut
      clear z1 z2 z5 s12
      cases q
      · have HV := Lib.hid (show (x.bks.take (k + 1)).any (badB x.closed) = false by rw [HSU.out, HA]; rfl)
        go_wp2_with fail
        go_roundg (nb - (k + 1))
        case measure => omega
        case rel => exact ⟨k + 1, by omega, by omega, by go_num, HV.out, HBB.out⟩
      · have ha : an = true := by rw [HAN.out]; exact List.any_eq_true.2 ⟨_, HM.out, HQ.out.symm⟩
        obtain rfl : r = 4 := by rw [HR2.out, if_pos ha]
        clear ha
        go_wp2_with fail
        go_ret
        exact ⟨rfl, HBBO.out⟩
    · obtain rfl : nb = k := by omega
      have s11 : wr.cell? ⟨g, 11, none⟩ = some (.slice C nb cb) := hG.cell rfl
      have ha : an = false := by
        rw [HAN.out]
        have hA : (x.bks.take nb).any (badB x.closed) = false := HA
        rwa [List.take_of_length_le (Nat.le_of_eq HN.out)] at hA
      have HR3 := Lib.hid (show r = if re = 8 then 2 else re by rw [HR2.out, if_neg (by rw [ha]; simp)])
      have HCALL := Lib.hid (HRM.out wr (HS.out.bel hbo) (HBS.out ha))
      have s0 : wr.cell? ⟨g, 0, none⟩ = some (.int .i64 x.ship.legs) := hG.cell rfl
      have s1 : wr.cell? ⟨g, 1, none⟩ = some (.int .i64 x.ship.souls) := hG.cell rfl
      have s2 : wr.cell? ⟨g, 2, none⟩ = some (.slice A n cap) := hG.cell rfl
      have s3 : wr.cell? ⟨g, 3, none⟩ = some (.slice B m cap2) := hG.cell rfl
      have s4 : wr.cell? ⟨g, 4, none⟩ = some (.slice D nd cd) := hG.cell rfl
      have s5 : wr.cell? ⟨g, 5, none⟩ = some (.int .i64 x.fares.alone) := hG.cell rfl
      have s6 : wr.cell? ⟨g, 6, none⟩ = some (.int .i64 x.fares.third) := hG.cell rfl
      have s7 : wr.cell? ⟨g, 7, none⟩ = some (.slice E ne ce) := hG.cell rfl
      have s8 : wr.cell? ⟨g, 8, none⟩ = some (.int .i64 x.fares.down) := hG.cell rfl
      have s9 : wr.cell? ⟨g, 9, none⟩ = some (.int .i64 x.day) := hG.cell rfl
      have s10 : wr.cell? ⟨g, 10, none⟩ = some (.int .i64 x.leaves) := hG.cell rfl
      have s11 : wr.cell? ⟨g, 11, none⟩ = some (.slice C nb cb) := hG.cell rfl
      have s12 : wr.cell? ⟨g, 12, none⟩ = some (.bool x.closed) := hG.cell rfl
      clear hG ha HA
      go_wp2_with fail
      refine HCALL.out.mono ?_
      rintro e w5 ⟨rfl, hb5⟩
      replace hbo := hbo.trans (hb5.mono hbo.size)
      by_cases h8 : re = 8
      · obtain rfl : r = 2 := by rw [HR3.out, if_pos h8]
        subst h8
        go_wp2_with fail
        go_ret
        exact ⟨rfl, hbo⟩
      · obtain rfl : r = re := by rw [HR3.out, if_neg h8]
        have h8' : (r == 8) = false := by simpa using h8
        clear h8
        go_wp2_with fail
        go_ret
        exact ⟨rfl, hbo⟩
end Go.Proofs.YtoilcdgpeilgaaaGreat
