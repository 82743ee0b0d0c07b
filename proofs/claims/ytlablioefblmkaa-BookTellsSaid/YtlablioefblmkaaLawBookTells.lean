/-
  The law BookTells returns true, whatever it is handed, and changes nothing that was there.
-/
import Derived.Test.YtlablioefblmkaaBun10
/-
  The law BookTells returns true, whatever it is handed, and changes nothing that was there.
-/
namespace Go.Proofs.Ytlablioefblmkaa
open Go.ChangeShapes Go.WideShapes Go.ChangeAt Go.RowKit Go.Shelf

theorem listIs_ok {r : Int} {sl l2 : List Int} (h : r = 0 → l2 = sl) : listIs (okL r sl) r r l2 = true := by
  unfold listIs
  by_cases h0 : r = 0
  · rw [h h0]; simp
  · rw [okL_ne h0, okL_ne h0]; simp
theorem mx_any {sl : List Int} (h : ∀ x ∈ sl, 0 ≤ x) (h0 : sl ≠ []) : sl.any (fun x => decide (60 < x)) = decide (60 < mx sl) := by
  by_cases h1 : 60 < mx sl
  · rw [decide_eq_true h1]
    exact List.any_eq_true.2 ⟨mx sl, mx_mem h h0, decide_eq_true h1⟩
  · rw [decide_eq_false h1]
    exact List.any_eq_false.2 fun x hx => by have := mx_ge hx; simp; omega
set_option maxRecDepth 100000 in
set_option maxHeartbeats 20000000 in
theorem BookTells_walk (W : World) (cs0 : Array Value) (x : Shp) (hx0 : shpC W All x cs0.toList) (cs1 : Array Value) (b : Bkg) (hb0 : bkgC W All b cs1.toList) (C : Option Addr) (nb cb : Nat) (l : List Bkg) (hl : Sl bkgC 11 W All C nb cb l) (hn : nb ≤ 2000000000000) (c : Int) (_ : InI c) :
    Calls Try.prog 3 #[.agg cs0, .agg cs1, .slice C nb cb, .int .i64 c] W fun e w' => e = .returned (.bool true) ∧ Below W.heap.size W w' := by
  obtain ⟨A, n, cap, B, m, cap2, hcs0, hc, hd, _, _⟩ := hx0
  obtain ⟨A3, n3, c3, hcs1, hf, hI⟩ := hb0
  obtain rfl : cs0 = #[.int .i64 x.legs, .int .i64 x.souls, .slice A n cap, .slice B m cap2] := by cases cs0; simp_all
  obtain ⟨id, kind, state, gst, lev, cab, cat, frm, upto, til, fol⟩ := b
  obtain rfl : cs1 = bkgA ⟨id, kind, state, gst, lev, cab, cat, frm, upto, til, fol⟩ (.slice A3 n3 c3) := by cases cs1; simp_all
  simp only at hf
  clear hcs0 hcs1 hI
  have HSP := Lib.hid (fun W h1 h2 h3 => Spans_any x A n cap B m cap2 C nb cb l c W h1 h2 h3 hn)
  have HSO := Lib.hid (fun W h1 h2 h3 => Souls_any x A n cap B m cap2 C nb cb l W h1 h2 h3 hn)
  have HCS := Lib.hid (fun W h1 h2 => CheckShip_any x A n cap B m cap2 W h1 h2)
  have HCA := Lib.hid (fun W h1 h2 h3 => CheckAll_any x A n cap B m cap2 C nb cb l W h1 h2 h3)
  have HCB := Lib.hid (fun W h1 h2 h3 h4 => CheckBooking_any x A n cap B m cap2 ⟨id, kind, state, gst, lev, cab, cat, frm, upto, til, fol⟩ A3 n3 c3 W h1 h2 h3 h4)
  have HSF := Lib.hid (fun W h1 h2 => SpansOf_any C nb cb l c W h1 h2)
  have HSL := Lib.hid (fun N W h1 h2 h3 => SoulsOf_any N C nb cb l W h1 h2 h3 hn)
  have HCK := Lib.hid (fun W h1 h2 h3 => bookCheck_any x A n cap B m cap2 ⟨id, kind, state, gst, lev, cab, cat, frm, upto, til, fol⟩ A3 n3 c3 W h1 h2 h3)
  obtain ⟨se, hse⟩ : ∃ q, q = shipE x := ⟨_, rfl⟩
  obtain ⟨oe, hoe⟩ : ∃ q, q = ofE x ⟨id, kind, state, gst, lev, cab, cat, frm, upto, til, fol⟩ := ⟨_, rfl⟩
  obtain ⟨ae, hae⟩ : ∃ q, q = allE x l := ⟨_, rfl⟩
  obtain ⟨r1, hr1⟩ : ∃ q, q = spnE x l c := ⟨_, rfl⟩
  obtain ⟨r2, hr2⟩ : ∃ q, q = sulE x l := ⟨_, rfl⟩
  obtain ⟨tl, htl⟩ : ∃ q, q = takL l c := ⟨_, rfl⟩
  obtain ⟨tb, htb⟩ : ∃ q, q = takB l c := ⟨_, rfl⟩
  obtain ⟨sl, hsl⟩ : ∃ q, q = soulL l x.legs.toNat := ⟨_, rfl⟩
  obtain ⟨q1, hq1⟩ : ∃ q, q = betB c 0 ((m : Int) - 1) := ⟨_, rfl⟩
  rw [← hr1, ← htl] at HSP
  rw [← hr2, ← hsl] at HSO
  rw [← hse] at HCS
  rw [← hae] at HCA
  rw [← hoe] at HCB
  rw [← htb, ← htl] at HSF
  rw [← hse, ← hoe] at HCK
  have HR1 := Lib.hid (show r1 = if ae ≠ 0 then ae else if q1 = false then 3 else if tb = false then 6 else 0 by rw [hr1, hae, hq1, htb, ← hd.len]; rfl)
  have HR2 := Lib.hid (show r2 = if ae ≠ 0 then ae else if 60 < mx sl then 2 else 0 by rw [hr2, hae, hsl]; rfl)
  obtain ⟨ck, hck⟩ : ∃ q, q = if se ≠ 0 then se else oe := ⟨_, rfl⟩
  rw [← hck] at HCK
  have HC := Lib.hid hc
  have HD := Lib.hid hd
  have HL := Lib.hid hl
  have HF := Lib.hid hf
  have HSE := Lib.hid hse
  clear hse
  have HAE := Lib.hid hae
  clear hae
  have HCKE := Lib.hid hck
  clear hck
  have HSLE := Lib.hid hsl
  clear hsl
  have HQ1 := Lib.hid hq1
  clear hq1
  have hmd := hd.bd
  clear hc hd hl hf hoe hr1 hr2 htl htb
  go_enter Try.func3, Try.ntmps3
  go_upto_region 0 with (fail)
  go_cut [4, 5, 8] (fun p p2 _ wx => ∃ g h, p = .pointer (some ⟨g, 0, none⟩) ∧ p2 = .pointer (some ⟨h, 0, none⟩) ∧ Blk wx g #[.int .i64 x.legs, .int .i64 x.souls, .slice A n cap, .slice B m cap2] 25 ∧ Blk wx h (bkgA ⟨id, kind, state, gst, lev, cab, cat, frm, upto, til, fol⟩ (.slice A3 n3 c3)) 30 ∧ Below W.heap.size W wx)
  case first => as_aux_lemma =>
    go_wp2_with fail
    go_meet
    exact ⟨_, _, rfl, rfl, blk2_0 _ _ _, blk2_1 _ _ _, bel2 _ _ _⟩
  obtain ⟨g, h, rfl, rfl, hG, hH, hb⟩ := hcut
  have HG := Lib.hid (fun X (hX : Below wc.heap.size wc X) => hG.bel hX)
  have HH := Lib.hid (fun X (hX : Below wc.heap.size wc X) => hH.bel hX)
  have HB0 := Lib.hid hb
  obtain ⟨W0, hW0⟩ : ∃ V, V = wc := ⟨_, rfl⟩
  subst hW0
  have HCEL := Lib.hid (show ∀ X, Below W0.heap.size W0 X → (fun w' => w'.cell? ⟨g, 0, none⟩ = some (.int .i64 x.legs) ∧ w'.cell? ⟨g, 1, none⟩ = some (.int .i64 x.souls) ∧ w'.cell? ⟨g, 2, none⟩ = some (.slice A n cap) ∧ w'.cell? ⟨g, 3, none⟩ = some (.slice B m cap2)) X from fun X hX => ⟨(HG.out X hX).cell rfl, (HG.out X hX).cell rfl, (HG.out X hX).cell rfl, (HG.out X hX).cell rfl⟩)
  clear hG hH hb
  have hb : Below W0.heap.size W0 W0 := Below.refl _ _
  obtain ⟨g0, g1, g2, g3⟩ := HCEL.out _ hb
  have HCALL := Lib.hid (HSP.out W0 (HC.out.bel HB0.out) (HD.out.bel HB0.out) (HL.out.bel HB0.out))
  go_wp2_with fail
  refine HCALL.out.mono ?_
  rintro e w1 ⟨v1, xs1, rfl, ho1, hb1⟩
  obtain ⟨A1, n1, c1, rfl, hs1⟩ := ho1.sl spanC_good
  replace hs1 := hs1.all spanC_good (by omega)
  replace hb := hb.trans (hb1.mono hb.size)
  clear ho1 hb1 HCALL g0 g1 g2 g3 HSP
  obtain ⟨g0, g1, g2, g3⟩ := HCEL.out _ hb
  have hbw := HB0.out.trans (hb.mono HB0.out.size)
  have HCALL := Lib.hid (HSO.out w1 (HC.out.bel hbw) (HD.out.bel hbw) (HL.out.bel hbw))
  go_wp2_with fail
  refine HCALL.out.mono ?_
  rintro e w2 ⟨v2, xs2, rfl, ho2, hb1⟩
  obtain ⟨A2, n2, c2, rfl, hs2⟩ := ho2.sl intC_good
  replace hs2 := hs2.all intC_good (by omega)
  replace hs1 := hs1.bel hb1
  replace hb := hb.trans (hb1.mono hb.size)
  clear ho2 hb1 HCALL g0 g1 g2 g3 HSO hbw
  go_upto_region 3 with (fail)
  obtain ⟨w3, hw3⟩ : ∃ V, V = w2 := ⟨_, rfl⟩
  subst hw3
  go_cut [13, 14] (fun p q wx => p = .int .i64 se ∧ q = .int .i64 ae ∧ Below w3.heap.size w3 wx)
  case first => as_aux_lemma =>
    have hbx : Below w3.heap.size w3 w3.drew := (Below.refl _ w3).drew
    have HK := Lib.hid (fun X (hX : Below w3.heap.size w3 X) => HCEL.out X (hb.trans (hX.mono hb.size)))
    have HT := Lib.hid (fun X (hX : Below w3.heap.size w3 X) => HB0.out.trans ((hb.trans (hX.mono hb.size)).mono HB0.out.size))
    clear hs1 hs2 hb
    refine wp_region_held_drew (S := (fun w' => w'.cell? ⟨g, 0, none⟩ = some (.int .i64 x.legs) ∧ w'.cell? ⟨g, 1, none⟩ = some (.int .i64 x.souls) ∧ w'.cell? ⟨g, 2, none⟩ = some (.slice A n cap) ∧ w'.cell? ⟨g, 3, none⟩ = some (.slice B m cap2))) (by kernel_rfl) (HK.out _ hbx) (fun hHeld => ?_)
    refine wpAnyH_take (i := 0) (oi := ?o_1) (v := ?v_1) ?h_1 (by kernel_rfl) (by kernel_rfl) (by kernel_rfl) ?q_1 (Or.inl ⟨?w_1, ?y_1⟩) (by assumption) ?_
    case h_1 => (simp only [List.getElem?_toArray, List.getElem?_cons_zero]; rfl)
    case q_1 => exact fun _ _ _ h => h
    case w_1 => rfl
    case y_1 => (intro w hSw; (try dsimp only at hSw); first | (go_simp; done) | (go_simp; with_reducible rfl))
    simp only [Act.put, List.setIfInBounds_toArray, List.set_cons_zero, List.set_cons_succ]
    refine wpAnyH_take (i := 2) (oi := ?o_2) (v := ?v_2) ?h_2 (by kernel_rfl) (by kernel_rfl) (by kernel_rfl) ?q_2 (Or.inl ⟨?w_2, ?y_2⟩) (by assumption) ?_
    case h_2 => (simp only [List.getElem?_toArray, List.getElem?_cons_succ, List.getElem?_cons_zero]; rfl)
    case q_2 => exact fun _ _ _ h => h
    case w_2 => rfl
    case y_2 => (intro w hSw; (try dsimp only at hSw); first | (go_simp; done) | (go_simp; with_reducible rfl))
    simp only [Act.put, List.setIfInBounds_toArray, List.set_cons_zero, List.set_cons_succ]
    refine wpAnyH_take (i := 3) (oi := ?o_3) (v := ?v_3) ?h_3 (by kernel_rfl) (by kernel_rfl) (by kernel_rfl) ?q_3 (Or.inl ⟨?w_3, ?y_3⟩) (by assumption) ?_
    case h_3 => (simp only [List.getElem?_toArray, List.getElem?_cons_succ, List.getElem?_cons_zero]; rfl)
    case q_3 => exact fun _ _ _ h => h
    case w_3 => rfl
    case y_3 => (intro w hSw; (try dsimp only at hSw); first | (go_simp; done) | (go_simp; with_reducible rfl))
    simp only [Act.put, List.setIfInBounds_toArray, List.set_cons_zero, List.set_cons_succ]
    refine wpAnyH_ready (rs := [1]) (by kernel_rfl) (by simp) ?_
    refine AllReadyH.cons (o := ?o_4) ?h_4 (fun K hK => ?_) AllReadyH.nil
    case h_4 => (simp only [List.getElem?_toArray, List.getElem?_cons_succ, List.getElem?_cons_zero]; rfl)
    go_simp
    (go_at_call 7; refine (HCS.out _ (HC.out.bel (HT.out _ hbx)) (HD.out.bel (HT.out _ hbx))).mono ?_; rintro e w4 ⟨rfl, hb4⟩; replace hbx := hbx.trans (hb4.mono hbx.size); clear hb4)
    go_wp2_with fail
    refine hK.out _ _ ?_ (fun hHeld => ?_)
    · exact HK.out _ hbx
    clear hK K
    try simp only [Act.put, List.setIfInBounds_toArray, List.set_cons_zero, List.set_cons_succ]
    refine wpAnyH_ready (rs := [4]) (by kernel_rfl) (by simp) ?_
    refine AllReadyH.cons (o := ?o_5) ?h_5 (fun K hK => ?_) AllReadyH.nil
    case h_5 => (simp only [List.getElem?_toArray, List.getElem?_cons_succ, List.getElem?_cons_zero]; rfl)
    go_simp
    (go_at_call 8; refine (HCA.out _ (HC.out.bel (HT.out _ hbx)) (HD.out.bel (HT.out _ hbx)) (HL.out.bel (HT.out _ hbx))).mono ?_; rintro e w5 ⟨rfl, hb4⟩; replace hbx := hbx.trans (hb4.mono hbx.size); clear hb4)
    go_wp2_with fail
    refine hK.out _ _ ?_ (fun hHeld => ?_)
    · exact HK.out _ hbx
    clear hK K
    try simp only [Act.put, List.setIfInBounds_toArray, List.set_cons_zero, List.set_cons_succ]
    refine wpAnyH_take (i := 5) (oi := ?o_6) (v := ?v_6) ?h_6 (by kernel_rfl) (by kernel_rfl) (by kernel_rfl) ?q_6 (Or.inl ⟨?w_6, ?y_6⟩) (by assumption) ?_
    case h_6 => (simp only [List.getElem?_toArray, List.getElem?_cons_succ, List.getElem?_cons_zero]; rfl)
    case q_6 => exact fun _ _ _ h => h
    case w_6 => rfl
    case y_6 => (intro w hSw; (try dsimp only at hSw); first | (go_simp; done) | (go_simp; with_reducible rfl))
    simp only [Act.put, List.setIfInBounds_toArray, List.set_cons_zero, List.set_cons_succ]
    refine wpAnyH_take (i := 6) (oi := ?o_7) (v := ?v_7) ?h_7 (by kernel_rfl) (by kernel_rfl) (by kernel_rfl) ?q_7 (Or.inl ⟨?w_7, ?y_7⟩) (by assumption) ?_
    case h_7 => (simp only [List.getElem?_toArray, List.getElem?_cons_succ, List.getElem?_cons_zero]; rfl)
    case q_7 => exact fun _ _ _ h => h
    case w_7 => rfl
    case y_7 => (intro w hSw; (try dsimp only at hSw); first | (go_simp; done) | (go_simp; with_reducible rfl))
    simp only [Act.put, List.setIfInBounds_toArray, List.set_cons_zero, List.set_cons_succ]
    refine wpAnyH_done (by kernel_rfl) ?_ _
    go_wp2_with fail
    go_meet
    exact ⟨rfl, rfl, hbx⟩
  obtain ⟨rfl, rfl, hb1⟩ := hcut
  replace hs1 := hs1.bel hb1
  replace hs2 := hs2.bel hb1
  replace hb := hb.trans (hb1.mono hb.size)
  clear hb1 HCS HCA
  go_upto_if 41 with (fail)
  obtain ⟨w6, hw6⟩ : ∃ V, V = wc := ⟨_, rfl⟩
  subst hw6
  go_cut [13] (fun p wx => p = .int .i64 ck ∧ Below w6.heap.size w6 wx)
  case first => as_aux_lemma =>
    by_cases h0 : se = 0
    · have hck : ck = oe := by rw [HCKE.out, if_neg (by rw [h0]; simp)]
      have HOK := Lib.hid (shp_ok (HSE.out.symm.trans h0))
      obtain ⟨g0, g1, g2, g3⟩ := HCEL.out _ hb
      have hH := HH.out _ hb
      have hbw := HB0.out.trans (hb.mono HB0.out.size)
      have HCALL := Lib.hid (HCB.out w6 (HC.out.bel hbw) (HD.out.bel hbw) HOK.out (HF.out.bel hbw))
      have z0 : w6.cell? ⟨h, 0, none⟩ = some (.int .i64 id) := hH.cell rfl
      have z1 : w6.cell? ⟨h, 1, none⟩ = some (.int .i64 kind) := hH.cell rfl
      have z2 : w6.cell? ⟨h, 2, none⟩ = some (.int .i64 state) := hH.cell rfl
      have z3 : w6.cell? ⟨h, 3, none⟩ = some (.int .i64 gst) := hH.cell rfl
      have z4 : w6.cell? ⟨h, 4, none⟩ = some (.bool lev) := hH.cell rfl
      have z5 : w6.cell? ⟨h, 5, none⟩ = some (.int .i64 cab) := hH.cell rfl
      have z6 : w6.cell? ⟨h, 6, none⟩ = some (.int .i64 cat) := hH.cell rfl
      have z7 : w6.cell? ⟨h, 7, none⟩ = some (.int .i64 frm) := hH.cell rfl
      have z8 : w6.cell? ⟨h, 8, none⟩ = some (.int .i64 upto) := hH.cell rfl
      have z9 : w6.cell? ⟨h, 9, none⟩ = some (.int .i64 til) := hH.cell rfl
      have z10 : w6.cell? ⟨h, 10, none⟩ = some ((.slice A3 n3 c3)) := hH.cell rfl
      rw [← hck] at HCALL
      subst h0
      clear hs1 hs2 hck hH hbw
      go_wp2_with fail
      refine HCALL.out.mono ?_
      rintro e w7 ⟨rfl, hb7⟩
      go_wp2_with fail
      go_meet
      exact ⟨rfl, hb7⟩
    · obtain rfl : ck = se := by rw [HCKE.out, if_pos h0]
      have h0' : (ck == 0) = false := by simpa using h0
      clear h0 hs1 hs2
      go_wp2_with fail
      go_meet
      exact ⟨rfl, Below.refl _ _⟩
  obtain ⟨rfl, hb1⟩ := hcut
  replace hs1 := hs1.bel hb1
  replace hs2 := hs2.bel hb1
  replace hb := hb.trans (hb1.mono hb.size)
  clear hb1 HCB
  obtain ⟨wv, hwv⟩ : ∃ q, q = if ae ≠ 0 then ae else if q1 = false then 3 else 0 := ⟨_, rfl⟩
  have HWV := Lib.hid hwv
  clear hwv
  obtain ⟨tv, htv⟩ : ∃ q, q = (decide (ae = 0) && !q1) := ⟨_, rfl⟩
  have HTV := Lib.hid htv
  clear htv
  go_upto_region 7 with (fail)
  obtain ⟨w8, hw8⟩ : ∃ V, V = w6 := ⟨_, rfl⟩
  go_cut [59] (fun p wx => p = .bool tv ∧ wx = wc)
  case first => as_aux_lemma =>
    obtain ⟨g0, g1, g2, g3⟩ := HCEL.out _ hb
    clear hs1 hs2
    by_cases h0 : ae = 0
    · subst h0
      have HT2 := Lib.hid (show tv = !q1 by rw [HTV.out, decide_eq_true rfl]; rfl)
      by_cases h1 : c < 0
      · obtain rfl : tv = true := by rw [HT2.out, HQ1.out, betB_false (.inl h1)]; rfl
        go_wp2_with fail
        go_meet
        exact ⟨rfl, rfl⟩
      by_cases h2 : (m : Int) ≤ c
      · obtain rfl : tv = true := by rw [HT2.out, HQ1.out, betB_false (.inr (by omega))]; rfl
        go_wp2_with fail
        go_meet
        exact ⟨rfl, rfl⟩
      · obtain rfl : tv = false := by rw [HT2.out, HQ1.out, betB_true (by omega) (by omega)]; rfl
        go_wp2_with fail
        go_meet
        exact ⟨rfl, rfl⟩
    · obtain rfl : tv = false := by rw [HTV.out, decide_eq_false h0]; rfl
      have h0' : (ae == 0) = false := by simpa using h0
      clear h0
      go_wp2_with fail
      go_meet
      exact ⟨rfl, rfl⟩
  obtain ⟨rfl, hwc8⟩ := hcut
  subst hwc8
  clear hw8 w8
  go_upto_if 59 with (fail)
  obtain ⟨w8, hw8⟩ : ∃ V, V = wc := ⟨_, rfl⟩
  subst hw8
  go_cut [15] (fun p wx => p = .int .i64 wv ∧ wx = w8)
  case first => as_aux_lemma =>
    clear hs1 hs2
    cases tv
    · obtain rfl : wv = ae := by
        rw [HWV.out]
        by_cases h : ae = 0
        · rw [if_neg (by rw [h]; simp), h]
          have h2 := HTV.out
          rw [decide_eq_true h] at h2
          cases q1
          · cases h2
          · rfl
        · rw [if_pos h]
      go_wp2_with fail
      go_meet
      exact ⟨rfl, rfl⟩
    · obtain rfl : wv = 3 := by
        have h2 := HTV.out
        rw [HWV.out]
        by_cases h : ae = 0
        · rw [if_neg (by rw [h]; simp)]
          cases q1
          · rfl
          · rw [decide_eq_true h] at h2; cases h2
        · rw [decide_eq_false h] at h2; cases h2
      go_wp2_with fail
      go_meet
      exact ⟨rfl, rfl⟩
  obtain ⟨rfl, rfl⟩ := hcut
  go_upto_if 61 with (fail)
  obtain ⟨w9, hw9⟩ : ∃ V, V = wc := ⟨_, rfl⟩
  subst hw9
  go_cut [15, 17] (fun p ps wx => p = .int .i64 r1 ∧ (∃ A4 n4 c4 l4, ps = .slice A4 n4 c4 ∧ Sl spanC 2 wx All A4 n4 c4 l4 ∧ (r1 = 0 → l4 = tl)) ∧ Below w9.heap.size w9 wx)
  case first => as_aux_lemma =>
    clear hs1 hs2
    by_cases h0 : wv = 0
    · have hae : ae = 0 := by
        by_cases h : ae = 0
        · exact h
        · have := HWV.out; rw [if_pos h] at this; omega
      have hq : ¬ q1 = false := fun h => by
        have := HWV.out
        rw [if_neg (by rw [hae]; simp), if_pos h] at this; omega
      have HR3 := Lib.hid (show r1 = if tb = false then 6 else 0 by rw [HR1.out, if_neg (by rw [hae]; simp), if_neg hq])
      have HOK := Lib.hid (all_okB (HAE.out.symm.trans hae))
      have hbw := HB0.out.trans (hb.mono HB0.out.size)
      have HCALL := Lib.hid (HSF.out w9 (HL.out.bel hbw) (spOk_of HOK.out.1 HOK.out.2))
      subst h0
      clear hq hae hbw
      go_wp2_with fail
      refine HCALL.out.mono ?_
      rintro e w10 ⟨v, xs, rfl, ho, hb4⟩
      obtain ⟨A4, n4, c4, rfl, hs4⟩ := ho.sl spanC_good
      replace hs4 := hs4.all spanC_good (by omega)
      have HS4 := Lib.hid hs4
      clear hs4
      clear ho
      cases tb
      · obtain rfl : r1 = 6 := HR3.out
        go_wp2_with fail
        go_meet
        exact ⟨rfl, ⟨A4, n4, c4, _, rfl, HS4.out, fun h => absurd h (by decide)⟩, hb4⟩
      · obtain rfl : r1 = 0 := HR3.out
        go_wp2_with fail
        go_meet
        exact ⟨rfl, ⟨A4, n4, c4, _, rfl, HS4.out, fun _ => rfl⟩, hb4⟩
    · obtain rfl : r1 = wv := by
        have h1 := HR1.out
        have h2 := HWV.out
        by_cases h : ae = 0
        · rw [if_neg (by rw [h]; simp)] at h1 h2
          by_cases hq : q1 = false
          · rw [if_pos hq] at h1 h2
            rw [h1, h2]
          · rw [if_neg hq] at h2
            exact absurd h2 h0
        · rw [if_pos h] at h1 h2
          rw [h1, h2]
      have h0' : (r1 == 0) = false := by simpa using h0
      have H0 := Lib.hid h0
      clear h0
      go_wp2_with fail
      go_meet
      exact ⟨rfl, ⟨none, 0, 0, [], rfl, Sl.nil _ _ _ _, fun h => absurd h H0.out⟩, Below.refl _ _⟩
  obtain ⟨rfl, ⟨A4, n4, c4, l4, rfl, hs4, hl4⟩, hb1⟩ := hcut
  replace hs1 := hs1.bel hb1
  replace hs2 := hs2.bel hb1
  replace hb := hb.trans (hb1.mono hb.size)
  have HL4 := Lib.hid hl4
  clear hl4
  clear hb1 HSF HR1 HWV
  go_upto_if 72 with (fail)
  obtain ⟨w11, hw11⟩ : ∃ V, V = wc := ⟨_, rfl⟩
  subst hw11
  go_cut [16, 18] (fun p ps wx => p = .int .i64 r2 ∧ (∃ A5 n5 c5 l5, ps = .slice A5 n5 c5 ∧ Sl intC 1 wx All A5 n5 c5 l5 ∧ (r2 = 0 → l5 = sl)) ∧ Below w11.heap.size w11 wx)
  case first => as_aux_lemma =>
    clear hs1 hs2 hs4
    by_cases h0 : ae = 0
    · have HOK := Lib.hid (all_okB (HAE.out.symm.trans h0))
      have HR3 := Lib.hid (show r2 = if 60 < mx sl then 2 else 0 by rw [HR2.out, if_neg (by rw [h0]; simp)])
      have hlg := shp_legs HOK.out.1
      obtain ⟨N, hNl⟩ : ∃ N : Nat, x.legs = N := ⟨x.legs.toNat, by omega⟩
      have hNt : x.legs.toNat = N := by omega
      have hbw := HB0.out.trans (hb.mono HB0.out.size)
      have hcall := HSL.out N w11 (HL.out.bel hbw) (by rw [← hNt]; exact abOk_of HOK.out.1 HOK.out.2) (by omega)
      rw [← hNt] at hcall
      rw [← HSLE.out, hNt, ← hNl] at hcall
      have HSLN := Lib.hid (show sl.length = N by rw [HSLE.out, hNt]; exact soulL_len _ _)
      have HSB := Lib.hid (show ∀ y ∈ sl, 0 ≤ y ∧ y ≤ 4 * nb from fun y hy => by
        rw [HSLE.out] at hy
        obtain ⟨i, hi⟩ := List.getElem?_of_mem hy
        have hlt : i < x.legs.toNat := by have := (List.getElem?_eq_some_iff.1 hi).1; rwa [soulL_len] at this
        rw [soulL_get _ _ _ hlt] at hi
        injection hi with hi
        have := soulK_bd (l := l) (fun b hb => (HOK.out.2 b hb).gst) i
        have := HL.out.len
        omega)
      have HN7 := Lib.hid (show 0 < N ∧ N ≤ 7 from by omega)
      have HANY := Lib.hid (mx_any (sl := sl) (fun y hy => (HSB.out y hy).1) (by intro e; have h9 := HSLN.out; have := HN7.out.1; rw [e] at h9; simp at h9; omega))
      obtain ⟨g0, g1, g2, g3⟩ := HCEL.out _ hb
      have HCALL := Lib.hid hcall
      clear hcall
      subst h0
      clear hlg hNl hNt hbw
      go_wp2_with fail
      refine HCALL.out.mono ?_
      rintro e w12 ⟨G, rfl, hG2, hR, hb4⟩
      have hown := hR.own (base := 0) (by omega) (fun y hy => by have := HSB.out y hy; exact .of (by omega) (by omega)) (by have := HSLN.out; have := HN7.out.2; omega)
      rw [HSLN.out] at hown
      obtain ⟨A5, n5, c5, hv5, hs5⟩ := hown.sl intC_good
      simp only [Value.slice.injEq] at hv5
      obtain ⟨rfl, rfl, rfl⟩ := hv5
      have hs5 := hs5.all intC_good (by omega)
      have hn7 := HN7.out.2
      clear hown hR g0 g1 g2 g3
      go_wp2_with fail
      go_loopg [16, 21] N (fun gk p i wr => ∃ k : Nat, k ≤ N ∧ N - k ≤ gk ∧ i = .int .i64 k ∧ p = .int .i64 (if (sl.take k).any (fun y => decide (60 < y)) = true then 2 else 0) ∧ wr = w12)
      case atStart => exact ⟨0, Nat.zero_le _, by omega, rfl, rfl, rfl⟩
      case round =>
        obtain ⟨k, hk, hgk, rfl, rfl, rfl⟩ := hrel
        obtain ⟨pv, hpv⟩ : ∃ q : Int, q = if (sl.take k).any (fun y => decide (60 < y)) = true then 2 else 0 := ⟨_, rfl⟩
        rw [← hpv]
        have HPV := Lib.hid hpv
        clear hpv
        by_cases hlt : k < N
        · obtain ⟨bb, off, y, c0, hA5, hy, ⟨hc5, _⟩, e0⟩ := hs5.at1 hlt
          simp only [List.cons.injEq, and_true] at hc5
          subst hc5
          simp only [Option.some.injEq, Addr.mk.injEq, and_true] at hA5
          obtain ⟨rfl, rfl⟩ := hA5
          simp only [Nat.zero_add] at e0
          have HS := Lib.hid (any_take_succ (p := fun y : Int => decide (60 < y)) hy)
          clear hy
          by_cases h6 : 60 < y
          · have HN2 := Lib.hid (show (if (sl.take (k + 1)).any (fun y => decide (60 < y)) = true then (2 : Int) else 0) = 2 by rw [HS.out, decide_eq_true h6, Bool.or_true]; rfl)
            go_wp2_with fail
            go_roundg (N - (k + 1))
            case measure => omega
            case rel => exact ⟨k + 1, by omega, by omega, by go_num, by rw [HN2.out], rfl⟩
          · have HN2 := Lib.hid (show (if (sl.take (k + 1)).any (fun y => decide (60 < y)) = true then (2 : Int) else 0) = pv by rw [HS.out, decide_eq_false h6, Bool.or_false, HPV.out])
            go_wp2_with fail
            go_roundg (N - (k + 1))
            case measure => omega
            case rel => exact ⟨k + 1, by omega, by omega, by go_num, by rw [HN2.out], rfl⟩
        · obtain rfl : k = N := by omega
          have hfin : pv = r2 := by
            rw [HPV.out, HR3.out, List.take_of_length_le (by have := HSLN.out; omega), HANY.out]
            by_cases h : 60 < mx sl
            · rw [if_pos (by simpa using h), if_pos h]
            · rw [if_neg (by simpa using h), if_neg h]
          subst hfin
          go_wp2_with fail
          go_meet
          exact ⟨rfl, ⟨_, _, _, _, rfl, hs5, fun _ => rfl⟩, hb4⟩
    · obtain rfl : r2 = ae := by rw [HR2.out, if_pos h0]
      have h0' : (r2 == 0) = false := by simpa using h0
      have H0 := Lib.hid h0
      clear h0
      go_wp2_with fail
      go_meet
      exact ⟨rfl, ⟨none, 0, 0, [], rfl, Sl.nil _ _ _ _, fun h => absurd h H0.out⟩, Below.refl _ _⟩
  obtain ⟨rfl, ⟨A5, n5, c5, l5, rfl, hs5, hl5⟩, hb1⟩ := hcut
  replace hs1 := hs1.bel hb1
  replace hs2 := hs2.bel hb1
  replace hs4 := hs4.bel hb1
  replace hb := hb.trans (hb1.mono hb.size)
  clear hb1 HSL
  go_wp2_with fail
  refine (bookBegun_any _).mono ?_
  rintro e w13 ⟨rfl, hb1⟩
  replace hs1 := hs1.bel hb1
  replace hs2 := hs2.bel hb1
  replace hs4 := hs4.bel hb1
  replace hs5 := hs5.bel hb1
  replace hb := hb.trans (hb1.mono hb.size)
  clear hb1
  obtain ⟨g0, g1, g2, g3⟩ := HCEL.out _ hb
  have hH := HH.out _ hb
  have hbw := HB0.out.trans (hb.mono HB0.out.size)
  have HCALL := Lib.hid (HCK.out w13 (HC.out.bel hbw) (HD.out.bel hbw) (HF.out.bel hbw))
  have z0 : w13.cell? ⟨h, 0, none⟩ = some (.int .i64 id) := hH.cell rfl
  have z1 : w13.cell? ⟨h, 1, none⟩ = some (.int .i64 kind) := hH.cell rfl
  have z2 : w13.cell? ⟨h, 2, none⟩ = some (.int .i64 state) := hH.cell rfl
  have z3 : w13.cell? ⟨h, 3, none⟩ = some (.int .i64 gst) := hH.cell rfl
  have z4 : w13.cell? ⟨h, 4, none⟩ = some (.bool lev) := hH.cell rfl
  have z5 : w13.cell? ⟨h, 5, none⟩ = some (.int .i64 cab) := hH.cell rfl
  have z6 : w13.cell? ⟨h, 6, none⟩ = some (.int .i64 cat) := hH.cell rfl
  have z7 : w13.cell? ⟨h, 7, none⟩ = some (.int .i64 frm) := hH.cell rfl
  have z8 : w13.cell? ⟨h, 8, none⟩ = some (.int .i64 upto) := hH.cell rfl
  have z9 : w13.cell? ⟨h, 9, none⟩ = some (.int .i64 til) := hH.cell rfl
  have z10 : w13.cell? ⟨h, 10, none⟩ = some ((.slice A3 n3 c3)) := hH.cell rfl
  clear hH hbw HCK
  go_wp2_with fail
  refine HCALL.out.mono ?_
  rintro e w14 ⟨rfl, hb1⟩
  have ha := spansAre_any A1 A4 n1 c1 n4 c4 tl l4 r1 w14 (hs1.bel hb1) (hs4.bel hb1) HL4.out
  replace hs2 := hs2.bel hb1
  replace hs5 := hs5.bel hb1
  replace hb := hb.trans (hb1.mono hb.size)
  have HA := Lib.hid ha
  clear ha
  clear hb1 hs1 hs4 z0 z1 z2 z3 z4 z5 z6 z7 z8 z9 z10 g0 g1 g2 g3 HCALL
  go_wp2_with fail
  refine HA.out.mono ?_
  rintro e w15 ⟨rfl, hb1⟩
  have hi := intsAre_any A2 A5 n2 c2 n5 c5 (okL r2 sl) l5 r2 r2 w15 (hs2.bel hb1) (hs5.bel hb1)
  rw [listIs_ok hl5] at hi
  replace hb := hb.trans (hb1.mono hb.size)
  have HI := Lib.hid hi
  clear hi
  clear hb1 hs2 hs5 hl5 HA
  go_wp2_with fail
  refine HI.out.mono ?_
  rintro e w16 ⟨rfl, hb1⟩
  go_wp2_with fail
  go_ret
  exact ⟨rfl, HB0.out.trans ((hb.trans (hb1.mono hb.size)).mono HB0.out.size)⟩
set_option maxRecDepth 100000 in
theorem BookTells_lifted (os : Os) (started : os.Started) (H : Type) (enc : TypeId × Value → H) :
    ReturnsInHanded {} Try.checked os 3 .any (Rows.bookTellsSpec.pre6 enc Try.prog Try.f3 Rows.bookTellsRow.domain false) (Rows.bookTellsSpec.post enc Try.prog Try.f3 false true false false) := by
  refine returnsInHanded_of_change_sized (C := Try.checked) own started (by kernel_rfl) Try.func3
    (ChangeSpec.witness6 (enc := enc) (C := Try.checked) false ⟨#[], #[.agg #[.int .i64 0, .int .i64 0, .slice none 0 0, .slice none 0 0], .agg #[.int .i64 0, .int .i64 0, .int .i64 0, .int .i64 0, .bool false, .int .i64 0, .int .i64 0, .int .i64 0, .int .i64 0, .int .i64 0, .slice none 0 0], .slice none 0 0, .int .i64 0], []⟩ 8 (by kernel_rfl) (by kernel_rfl) (by kernel_rfl) (by kernel_rfl)) ?_
  intro W base args ds gs before hval0 hW hcnd hsz0 _
  have hval : ∀ (j : Nat) t v, Try.f3.params[j]? = some t → args[j]? = some v → Value.okWide Try.prog W .any base t v := hval0
  have hW' := hW
  obtain ⟨p, q, hA0, hV, rfl, hfz, hnd⟩ := hW
  have hA : DataW.TrodAll enc Try.prog W 0 (fun _ => true) true Try.f3.params.toList args.toList ds p := hA0
  rw [Try.params3] at hA hval
  obtain ⟨v0, vs0, d0, ds0, p0, q0, hargs, rfl, rfl, h0, r0⟩ := trodAll_cons hA
  obtain ⟨v1, vs1, d1, ds1, p1, q1, rfl, rfl, rfl, h1, r1⟩ := trodAll_cons r0
  obtain ⟨v2, vs2, d2, ds2, p2, q2, rfl, rfl, rfl, h2, r2⟩ := trodAll_cons r1
  obtain ⟨v3, vs3, d3, ds3, p3, q3, rfl, rfl, rfl, h3, r3⟩ := trodAll_cons r2
  obtain ⟨rfl, rfl, rfl⟩ := trodAll_nil r3
  obtain rfl : args = #[v0, v1, v2, v3] := by cases args; simp_all
  obtain ⟨rfl, rfl⟩ := trodVars_none hV
  have lt0 := arg_lt h0
  have k0 := h0
  obtain ⟨cs0, a0, rfl, w0⟩ := arg_agg (c := shpC) Try.underlying25 opens_shpC (hval 0 25 v0 rfl rfl) h0
  have lt1 := arg_lt h1
  have k1 := h1
  obtain ⟨cs1, a1, rfl, w1⟩ := arg_agg (c := bkgC) Try.underlying30 opens_bkgC (hval 1 30 v1 rfl rfl) h1
  have lt2 := arg_lt h2
  have k2 := h2
  obtain ⟨A2, n2, c2, a2, rfl, w2⟩ := arg_sl (size := 11) Try.underlying31 (by kernel_rfl) (by omega) opens_bkgC (hval 2 31 v2 rfl rfl) h2
  have z2 := arg_sl_len Try.underlying31 k2 (fun z hz => by have := List.all_eq_true.1 hsz0 z (DataW.weights_mem_each (j := 2) (by rw [Try.params3]; rfl) rfl z hz); simpa using this)
  rw [show Try.prog.bytesOf _ = 104 by kernel_rfl] at z2
  have y2 : n2 ≤ 2000000000000 := by simp only [reachBytes] at z2; omega
  have lt3 := arg_lt h3
  have k3 := h3
  obtain ⟨a3, rfl, w3⟩ := arg_int Try.underlying3 (hval 3 3 v3 rfl rfl) h3
  clear hA0 hval0
  refine (BookTells_walk W cs0 a0 w0 cs1 a1 w1 A2 n2 c2 a2 w2 y2 a3 w3).mono fun e W' ⟨he, bel⟩ => ?_
  subst he
  exact ⟨_, rfl, _, _, _, [], _, [], hW', trodAll_mk1 (shut_bool Try.underlying4 _), (trodAll_cons_mk (Below.trod laidOut (by kernel_rfl) (of_decide_eq_true (by kernel_rfl)) k0 bel lt0) (trodAll_cons_mk (Below.trod laidOut (by kernel_rfl) (of_decide_eq_true (by kernel_rfl)) k1 bel lt1) (trodAll_cons_mk (Below.trod laidOut (by kernel_rfl) (of_decide_eq_true (by kernel_rfl)) k2 bel lt2) (trodAll_cons_mk (Below.trod laidOut (by kernel_rfl) (of_decide_eq_true (by kernel_rfl)) k3 bel lt3) trodAll_mk0)))), rfl, bel.frame _, fun h => by cases h⟩

/-- THE GIVEN STATEMENT BookTells. -/
theorem bookTells_holds : Rows.BookTellsSaid :=
  OpenClaim.holds_of_wide 3 Try.f3 rfl rfl rfl rfl rfl rfl rfl ⟨rfl, rfl, rfl, rfl, rfl⟩ rfl rfl rfl rfl rfl (by kernel_rfl) Try.func3 (by kernel_rfl)
    (of_decide_eq_true (by kernel_rfl)) (by unfold Func.isWrapper; rw [if_neg (of_decide_eq_false (by kernel_rfl))]; exact ⟨rfl, rfl⟩)
    (fun os started H enc _ => BookTells_lifted os started H enc)
#print axioms bookTells_holds
end Go.Proofs.Ytlablioefblmkaa
