/-
  The law SpanTells returns true, whatever it is handed, and changes nothing that was there.
-/
import Derived.Test.YtpodgidamoiakaaSpanO
import Derived.Test.YtpodgidamoiakaaSpanLift
import Derived.Deep.RegionHeld3
namespace Go.Proofs.Ytpodgidamoiakaa
open Go.ChangeShapes Go.WideShapes Go.ChangeAt Go.RowKit Go.Shelf

set_option maxRecDepth 100000 in
set_option maxHeartbeats 20000000 in
theorem SpanTells_walk (W : World) (A : Option Addr) (n cap : Nat) (l : List Span) (h : Sl spanC 2 W All A n cap l) (legs : Int) (hi : InI legs) (cs : Array Value) (s : Span) (hs : spanC W All s cs.toList) (cs2 : Array Value) (t : Span) (ht : spanC W All t cs2.toList) :
    Calls Try.prog 6 #[.slice A n cap, .int .i64 legs, .agg cs, .agg cs2] W fun e w' => e = .returned (.bool true) ∧ Below W.heap.size W w' := by
  obtain ⟨hcs, ia, ib⟩ := hs
  obtain ⟨a, b⟩ := s
  obtain rfl : cs = #[.int .i64 a, .int .i64 b] := by cases cs; simp_all
  obtain ⟨hcs2, ic, id⟩ := ht
  obtain ⟨c, d⟩ := t
  obtain rfl : cs2 = #[.int .i64 c, .int .i64 d] := by cases cs2; simp_all
  clear hcs hcs2
  simp only at ia ib ic id
  obtain ⟨um, hum⟩ : ∃ u, u = meetsE ⟨a, b⟩ ⟨c, d⟩ := ⟨_, rfl⟩
  obtain ⟨v, hv⟩ : ∃ u, u = calE l legs := ⟨_, rfl⟩
  obtain ⟨r, hr⟩ : ∃ u, u = readySpE l legs ⟨a, b⟩ := ⟨_, rfl⟩
  obtain ⟨ua, hua⟩ : ∃ u, u = addE l legs ⟨a, b⟩ := ⟨_, rfl⟩
  obtain ⟨ut, hut⟩ : ∃ u, u = takeE l legs ⟨a, b⟩ := ⟨_, rfl⟩
  obtain ⟨es, hes⟩ : ∃ u, u = spanE ⟨a, b⟩ 7 := ⟨_, rfl⟩
  obtain ⟨el, hel⟩ : ∃ u, u = spanE ⟨a, b⟩ legs := ⟨_, rfl⟩
  have HM := Lib.hid (fun W => Meets_any a b c d W ia ib ic id)
  have HF := Lib.hid (fun W h => Free_any A n cap l legs W h hi)
  have HA := Lib.hid (fun W h => spanAdd_ins A n cap l legs a b W h ia ib)
  have HT := Lib.hid (fun W h => spanTake_any A n cap l legs a b W h)
  have HC := Lib.hid (fun W => CheckSpan_any a b 7 W)
  have HC2 := Lib.hid (fun W => CheckSpan_any c d 7 W)
  have HK := Lib.hid (fun W h => CheckCalendar_any A n cap l legs W h)
  have HCL := Lib.hid (fun W => CheckSpan_any a b legs W)
  rw [← hum] at HM
  rw [← hv] at HF HK
  rw [← hua] at HA
  rw [← hut] at HT
  rw [← hes] at HC
  rw [← hel] at HCL
  have HUM := Lib.hid hum
  clear hum
  have HV := Lib.hid hv
  clear hv
  have HR := Lib.hid hr
  clear hr
  have HUA := Lib.hid hua
  clear hua
  have HUT := Lib.hid hut
  clear hut
  have HES := Lib.hid hes
  clear hes
  have HEL := Lib.hid hel
  clear hel
  go_enter Try.func6, Try.ntmps6
  go_upto_region 0 with (fail)
  go_cut [6, 7] (fun p q wx => ∃ g k, p = .pointer (some ⟨g, 0, none⟩) ∧ q = .pointer (some ⟨k, 0, none⟩) ∧ SpanAt wx g a b ∧ SpanAt wx k c d ∧ Below W.heap.size W wx)
  case first => as_aux_lemma =>
    go_wp2_with fail
    go_meet
    exact ⟨_, _, rfl, rfl, blk2_0 _ _ _, blk2_1 _ _ _, bel2 _ _ _⟩
  obtain ⟨g, k, rfl, rfl, hS, hT, hb⟩ := hcut
  obtain ⟨W0, hW0⟩ : ∃ W0, W0 = wc := ⟨_, rfl⟩
  have HH := Lib.hid (h.bel hb)
  have HSA := Lib.hid hS
  have HTA := Lib.hid hT
  have HB0 := Lib.hid hb
  clear hS hT h hb
  subst hW0
  have hb := Below.refl W0.heap.size W0
  have cel : ∀ X, Below W0.heap.size W0 X → X.cell? ⟨g, 0, none⟩ = some (.int .i64 a) ∧ X.cell? ⟨g, 1, none⟩ = some (.int .i64 b) ∧ X.cell? ⟨k, 0, none⟩ = some (.int .i64 c) ∧ X.cell? ⟨k, 1, none⟩ = some (.int .i64 d) := fun X hX =>
    ⟨(HSA.out.below hX).c0, (HSA.out.below hX).c1, (HTA.out.below hX).c0, (HTA.out.below hX).c1⟩
  have CEL := Lib.hid cel
  clear cel
  obtain ⟨d0, d1, d2, d3⟩ := CEL.out _ hb
  go_wp2_with fail
  refine (HM.out _).mono ?_
  rintro e w1 ⟨rfl, hb2⟩
  replace hb := hb.trans (hb2.mono hb.size)
  clear hb2 d0 d1 d2 d3
  go_wp2_with fail
  refine (HF.out _ (HH.out.bel hb)).mono ?_
  rintro e w2 ⟨v1, xs1, rfl, ho1, hb2⟩
  obtain ⟨A1, n1, k1, rfl, hs1⟩ := ho1.sl spanC_good
  replace hs1 := hs1.all spanC_good (by omega)
  replace hb := hb.trans (hb2.mono hb.size)
  clear hb2 ho1
  obtain ⟨d0, d1, d2, d3⟩ := CEL.out _ hb
  go_wp2_with fail
  refine (HA.out _ (HH.out.bel hb)).mono ?_
  rintro e w3 ⟨v2, xs2, rfl, ho2, hb2⟩
  obtain ⟨A2, n2, k2, rfl, hs2⟩ := ho2.sl spanC_good
  replace hs2 := hs2.all spanC_good (by omega)
  replace hb := hb.trans (hb2.mono hb.size)
  replace hs1 := hs1.bel hb2
  clear hb2 ho2 d0 d1 d2 d3
  obtain ⟨d0, d1, d2, d3⟩ := CEL.out _ hb
  go_wp2_with fail
  refine (HT.out _ (HH.out.bel hb)).mono ?_
  rintro e w4 ⟨v3, xs3, rfl, ho3, hb2⟩
  obtain ⟨A3, n3, k3, rfl, hs3⟩ := ho3.sl spanC_good
  replace hs3 := hs3.all spanC_good (by omega)
  replace hb := hb.trans (hb2.mono hb.size)
  replace hs1 := hs1.bel hb2
  replace hs2 := hs2.bel hb2
  clear hb2 ho3 d0 d1 d2 d3
  obtain ⟨d0, d1, d2, d3⟩ := CEL.out _ hb
  go_wp2_with fail
  refine (HC.out _).mono ?_
  rintro e w5 ⟨rfl, hb2⟩
  replace hb := hb.trans (hb2.mono hb.size)
  replace hs1 := hs1.bel hb2
  replace hs2 := hs2.bel hb2
  replace hs3 := hs3.bel hb2
  clear hb2 d0 d1 d2 d3
  obtain ⟨d0, d1, d2, d3⟩ := CEL.out _ hb
  go_upto_if 53 with (fail)
  go_cut [17] (fun t wx => t = .int .i64 um ∧ Below w5.heap.size w5 wx)
  case first => as_aux_lemma =>
    by_cases h0 : es = 0
    · have HN := Lib.hid (show um = spanE ⟨c, d⟩ 7 by rw [HUM.out]; unfold meetsE; rw [if_neg (by rw [← HES.out]; simp [h0])])
      subst h0
      go_wp2_with fail
      refine (HC2.out _).mono ?_
      rintro e w6 ⟨rfl, hb2⟩
      go_wp2_with fail
      go_meet
      exact ⟨by rw [HN.out], hb2⟩
    · have HN := Lib.hid (show um = es by rw [HUM.out]; unfold meetsE; rw [if_pos (by rw [← HES.out]; exact h0), HES.out])
      have h0' : (es == 0) = false := by simpa using h0
      clear h0
      go_wp2_with fail
      go_meet
      exact ⟨by rw [HN.out], Below.refl _ _⟩
  obtain ⟨rfl, hb2⟩ := hcut
  replace hb := hb.trans (hb2.mono hb.size)
  replace hs1 := hs1.bel hb2
  replace hs2 := hs2.bel hb2
  replace hs3 := hs3.bel hb2
  clear hb2 d0 d1 d2 d3
  go_wp2_with fail
  refine (HK.out _ (HH.out.bel hb)).mono ?_
  rintro e w6 ⟨rfl, hb2⟩
  replace hb := hb.trans (hb2.mono hb.size)
  replace hs1 := hs1.bel hb2
  replace hs2 := hs2.bel hb2
  replace hs3 := hs3.bel hb2
  clear hb2
  obtain ⟨d0, d1, d2, d3⟩ := CEL.out _ hb
  go_upto_if 61 with (fail)
  go_cut [19] (fun t wx => t = .int .i64 r ∧ Below w6.heap.size w6 wx)
  case first => as_aux_lemma =>
    by_cases h0 : v = 0
    · have HN := Lib.hid (show r = el by rw [HR.out]; unfold readySpE; rw [if_neg (by rw [← HV.out]; simp [h0])]; exact HEL.out.symm)
      subst h0
      go_wp2_with fail
      refine (HCL.out _).mono ?_
      rintro e w7 ⟨rfl, hb2⟩
      go_wp2_with fail
      go_meet
      exact ⟨by rw [HN.out], hb2⟩
    · have HN := Lib.hid (show r = v by rw [HR.out]; unfold readySpE; rw [if_pos (by rw [← HV.out]; exact h0), HV.out])
      have h0' : (v == 0) = false := by simpa using h0
      clear h0
      go_wp2_with fail
      go_meet
      exact ⟨by rw [HN.out], Below.refl _ _⟩
  obtain ⟨rfl, hb2⟩ := hcut
  replace hb := hb.trans (hb2.mono hb.size)
  replace hs1 := hs1.bel hb2
  replace hs2 := hs2.bel hb2
  replace hs3 := hs3.bel hb2
  clear hb2 d0 d1 d2 d3
  go_upto_if 67 with (fail)
  go_cut [21] (fun t wx => ∃ B m c K, t = .slice B m c ∧ Sl spanC 2 wx All B m c K ∧ Aside (v = 0 → K = gapsL l legs) ∧ Below wc.heap.size wc wx)
  case first => as_aux_lemma =>
    by_cases h0 : v = 0
    · have hok := cal_ok (HV.out.symm.trans h0)
      obtain ⟨N, hN⟩ := Int.eq_ofNat_of_zero_le (show 0 ≤ legs by have := hok.lo; omega)
      subst hN
      have hfr := FreeOf_any A n cap l N _ (HH.out.bel hb) (by have := hok.hi; omega) (fun x hx => by have h1 := cal_mem hok hx; have h2 := hok.hi; unfold OkSp; omega)
      rw [free_same hok] at hfr
      have HFR := Lib.hid hfr
      clear hfr
      clear hok
      subst h0
      go_wp2_with fail
      refine HFR.out.mono ?_
      rintro e w7 ⟨v7, xs7, rfl, ho7, hb2⟩
      obtain ⟨B, m, c7, rfl, hs7⟩ := ho7.sl spanC_good
      replace hs7 := hs7.all spanC_good (by omega)
      have HS7 := Lib.hid hs7
      clear hs7 ho7
      go_wp2_with fail
      go_meet
      exact ⟨_, _, _, _, rfl, HS7.out, fun _ => rfl, hb2⟩
    · have h0' : (v == 0) = false := by simpa using h0
      have HN := Lib.hid h0
      clear h0
      go_wp2_with fail
      go_meet
      exact ⟨_, _, _, [], rfl, Sl.nil _ _ _ _, fun e => absurd e HN.out, Below.refl _ _⟩
  obtain ⟨B1, m1, e1, K1, rfl, hk1, hK1, hb2⟩ := hcut
  replace hb := hb.trans (hb2.mono hb.size)
  replace hs1 := hs1.bel hb2
  replace hs2 := hs2.bel hb2
  replace hs3 := hs3.bel hb2
  clear hb2
  obtain ⟨d0, d1, d2, d3⟩ := CEL.out _ hb
  go_upto_if 72 with (fail)
  go_cut [19, 20, 22, 23] (fun t u o p wx => t = .int .i64 ua ∧ u = .int .i64 ut ∧ ∃ B2 m2 e2 K2 B3 m3 e3 K3, o = .slice B2 m2 e2 ∧ p = .slice B3 m3 e3 ∧ Sl spanC 2 wx All B2 m2 e2 K2 ∧ Sl spanC 2 wx All B3 m3 e3 K3 ∧ Aside (ua = 0 → K2 = insSp ⟨a, b⟩ l) ∧ Aside (ut = 0 → K3 = delSp l ⟨a, b⟩) ∧ Below wc.heap.size wc wx)
  case first => as_aux_lemma =>
    by_cases h0 : r = 0
    · have hr0 := HR.out.symm.trans h0
      obtain ⟨hok, hsp⟩ := readySp_ok hr0
      have hso := span_ok hsp
      have hlo := hok.hi
      have hll := hok.len
      have hAd := fun W h => AddSpan_any A n cap l ⟨a, b⟩ W h (by omega) (fun x hx => by have h1 := cal_mem hok hx; unfold OkSp; omega) (by unfold OkSp; simp only at hso ⊢; omega) ia ib
      have hTk := fun W h => TakeSpan_any A n cap l ⟨a, b⟩ W h (by omega)
      rw [← add_same hr0, ← HUA.out] at hAd
      rw [← (take_same hok hr0).1, ← (take_same hok hr0).2, ← HUT.out] at hTk
      obtain ⟨P2, hP2⟩ : ∃ P, P = okL ua (insSp ⟨a, b⟩ l) := ⟨_, rfl⟩
      obtain ⟨P3, hP3⟩ : ∃ P, P = okL ut (delSp l ⟨a, b⟩) := ⟨_, rfl⟩
      rw [← hP2] at hAd
      rw [← hP3] at hTk
      have HAD := Lib.hid hAd
      clear hAd
      have HTK := Lib.hid hTk
      clear hTk
      have HP2 := Lib.hid hP2
      clear hP2
      have HP3 := Lib.hid hP3
      clear hP3
      clear hok hsp hso hlo hll hr0
      subst h0
      have hbo := Below.refl wc.heap.size wc
      go_wp2_with fail
      refine (HAD.out _ (HH.out.bel hb)).mono ?_
      rintro e w7 ⟨v7, xs7, rfl, ho7, hb2⟩
      obtain ⟨B2, m2, e2, rfl, hs7⟩ := ho7.sl spanC_good
      replace hs7 := hs7.all spanC_good (by omega)
      replace hb := hb.trans (hb2.mono hb.size)
      replace hbo := hbo.trans (hb2.mono hbo.size)
      clear ho7 d0 d1 d2 d3 hb2
      obtain ⟨d0, d1, d2, d3⟩ := CEL.out _ hb
      go_wp2_with fail
      refine (HTK.out _ (HH.out.bel hb)).mono ?_
      rintro e w8 ⟨v8, xs8, rfl, ho8, hb2⟩
      obtain ⟨B3, m3, e3, rfl, hs8⟩ := ho8.sl spanC_good
      replace hs8 := hs8.all spanC_good (by omega)
      have HS8 := Lib.hid hs8
      have HS7 := Lib.hid (hs7.bel hb2)
      have HBO := Lib.hid (hbo.trans (hb2.mono hbo.size))
      clear ho8 hs8 hs7 hb2
      go_wp2_with fail
      go_meet
      exact ⟨rfl, rfl, _, _, _, _, _, _, _, _, rfl, rfl, HS7.out, HS8.out, fun e => by rw [HP2.out, e]; rfl, fun e => by rw [HP3.out, e]; rfl, HBO.out⟩
    · have h0' : (r == 0) = false := by simpa using h0
      have e1 : ua = r := by rw [HUA.out]; unfold addE; rw [if_pos (by rw [← HR.out]; exact h0), HR.out]
      have e2 : ut = r := by rw [HUT.out]; unfold takeE; rw [if_pos (by rw [← HR.out]; exact h0), HR.out]
      have HN := Lib.hid h0
      have E1 := Lib.hid e1
      have E2 := Lib.hid e2
      clear h0 e1 e2
      go_wp2_with fail
      go_meet
      exact ⟨by rw [E1.out], by rw [E2.out], none, 0, 0, [], none, 0, 0, [], rfl, rfl, Sl.nil _ _ _ _, Sl.nil _ _ _ _, fun e => absurd (E1.out.symm.trans e) HN.out, fun e => absurd (E2.out.symm.trans e) HN.out, Below.refl _ _⟩
  obtain ⟨rfl, rfl, B2, m2, e2, K2, B3, m3, e3, K3, rfl, rfl, hk2, hk3, hK2, hK3, hb2⟩ := hcut
  replace hb := hb.trans (hb2.mono hb.size)
  replace hs1 := hs1.bel hb2
  replace hs2 := hs2.bel hb2
  replace hs3 := hs3.bel hb2
  replace hk1 := hk1.bel hb2
  clear hb2 d0 d1 d2 d3
  have HS1 := Lib.hid (fun X (hX : Below wc.heap.size wc X) => spansAre_any _ _ _ _ _ _ _ _ _ X (hs1.bel hX) (hk1.bel hX) hK1)
  have HS2 := Lib.hid (fun X (hX : Below wc.heap.size wc X) => spansAre_any _ _ _ _ _ _ _ _ _ X (hs2.bel hX) (hk2.bel hX) hK2)
  have HS3 := Lib.hid (fun X (hX : Below wc.heap.size wc X) => spansAre_any _ _ _ _ _ _ _ _ _ X (hs3.bel hX) (hk3.bel hX) hK3)
  have CELS := Lib.hid (fun X (hX : Below wc.heap.size wc X) => CEL.out X (hb.trans (hX.mono hb.size)))
  have HBW := Lib.hid (fun X (hX : Below wc.heap.size wc X) => HB0.out.trans ((hb.trans (hX.mono hb.size)).mono HB0.out.size))
  clear hs1 hs2 hs3 hk1 hk2 hk3 hK1 hK2 hK3 CEL HB0 hb HH HSA HTA HM HF HA HT HC HC2 HK HR HUA HUT HES HV
  have hb := (Below.refl wc.heap.size wc).drew
  have HCK := Lib.hid (fun W => spanCheck_any a b legs W)
  rw [show spanE ⟨a, b⟩ legs = el from HEL.out.symm] at HCK
  have HMB := Lib.hid (show um = 0 → ∀ W, Calls Try.prog 32 #[.agg #[.int .i64 a, .int .i64 b], .agg #[.int .i64 c, .int .i64 d]] W fun e w' => e = .returned (.bool (meetB ⟨a, b⟩ ⟨c, d⟩)) ∧ Below W.heap.size W w' from fun h0 W => by
    have hm := HUM.out.symm.trans h0
    unfold meetsE at hm
    by_cases h1 : spanE ⟨a, b⟩ 7 ≠ 0
    · rw [if_pos h1] at hm; exact absurd hm h1
    · rw [if_neg h1] at hm
      have h2 := span_ok (show spanE ⟨a, b⟩ 7 = 0 by omega)
      have h3 := span_ok hm
      exact DoMeet_any ⟨a, b⟩ ⟨c, d⟩ W (by unfold OkSp; simp only at h2 ⊢; omega) (by unfold OkSp; simp only at h3 ⊢; omega))
  obtain ⟨z, hz⟩ : ∃ z, z = meetB ⟨a, b⟩ ⟨c, d⟩ := ⟨_, rfl⟩
  rw [← hz] at HMB ⊢
  clear hz
  obtain ⟨d0, d1, d2, d3⟩ := CELS.out _ hb
  by_cases hu0 : um = 0
  · have hm0 := HMB.out hu0
    have HM0 := Lib.hid hm0
    clear hm0
    clear HMB HUM
    subst hu0
    rw [okB_zero]
    go_upto_region 19 with (fail)
    go_region_held3 (fun w' => w'.cell? ⟨g, 0, none⟩ = some (.int .i64 a) ∧ w'.cell? ⟨g, 1, none⟩ = some (.int .i64 b) ∧ w'.cell? ⟨k, 0, none⟩ = some (.int .i64 c) ∧ w'.cell? ⟨k, 1, none⟩ = some (.int .i64 d)) (first | exact CELS.out _ hb | go_keep) (first | (go_at_call 30; refine (spanBegun_any _).mono ?_; rintro e wq ⟨rfl, hbq⟩; replace hb := hb.trans (hbq.mono hb.size); clear hbq d0 d1 d2 d3; obtain ⟨d0, d1, d2, d3⟩ := CELS.out _ hb) | (go_at_call 31; refine (HCK.out _).mono ?_; rintro e wq ⟨rfl, hbq⟩; replace hb := hb.trans (hbq.mono hb.size); clear hbq d0 d1 d2 d3; obtain ⟨d0, d1, d2, d3⟩ := CELS.out _ hb) | (go_at_call 25; refine (HCL.out _).mono ?_; rintro e wq ⟨rfl, hbq⟩; replace hb := hb.trans (hbq.mono hb.size); clear hbq d0 d1 d2 d3; obtain ⟨d0, d1, d2, d3⟩ := CELS.out _ hb) | (go_at_call 32; refine (HM0.out _).mono ?_; rintro e wq ⟨rfl, hbq⟩; replace hb := hb.trans (hbq.mono hb.size); clear hbq d0 d1 d2 d3; obtain ⟨d0, d1, d2, d3⟩ := CELS.out _ hb) | (go_at_call_of 33 (Value.slice A1 n1 k1); refine (HS1.out _ hb).mono ?_; rintro e wq ⟨rfl, hbq⟩; replace hb := hb.trans (hbq.mono hb.size); clear hbq d0 d1 d2 d3; obtain ⟨d0, d1, d2, d3⟩ := CELS.out _ hb) | (go_at_call_of 33 (Value.slice A2 n2 k2); refine (HS2.out _ hb).mono ?_; rintro e wq ⟨rfl, hbq⟩; replace hb := hb.trans (hbq.mono hb.size); clear hbq d0 d1 d2 d3; obtain ⟨d0, d1, d2, d3⟩ := CELS.out _ hb) | (go_at_call_of 33 (Value.slice A3 n3 k3); refine (HS3.out _ hb).mono ?_; rintro e wq ⟨rfl, hbq⟩; replace hb := hb.trans (hbq.mono hb.size); clear hbq d0 d1 d2 d3; obtain ⟨d0, d1, d2, d3⟩ := CELS.out _ hb))
    all_goals go_wp2_with fail
    all_goals go_ret
    all_goals exact ⟨rfl, HBW.out _ hb⟩
  · have h0' : (um == 0) = false := by simpa using hu0
    rw [okB_ne hu0]
    have HM0 := HCK
    clear HMB HUM hu0
    go_upto_region 19 with (fail)
    first | (go_region_held3 (fun w' => w'.cell? ⟨g, 0, none⟩ = some (.int .i64 a) ∧ w'.cell? ⟨g, 1, none⟩ = some (.int .i64 b) ∧ w'.cell? ⟨k, 0, none⟩ = some (.int .i64 c) ∧ w'.cell? ⟨k, 1, none⟩ = some (.int .i64 d)) (first | exact CELS.out _ hb | go_keep) (first | (go_at_call 30; refine (spanBegun_any _).mono ?_; rintro e wq ⟨rfl, hbq⟩; replace hb := hb.trans (hbq.mono hb.size); clear hbq d0 d1 d2 d3; obtain ⟨d0, d1, d2, d3⟩ := CELS.out _ hb) | (go_at_call 31; refine (HCK.out _).mono ?_; rintro e wq ⟨rfl, hbq⟩; replace hb := hb.trans (hbq.mono hb.size); clear hbq d0 d1 d2 d3; obtain ⟨d0, d1, d2, d3⟩ := CELS.out _ hb) | (go_at_call 25; refine (HCL.out _).mono ?_; rintro e wq ⟨rfl, hbq⟩; replace hb := hb.trans (hbq.mono hb.size); clear hbq d0 d1 d2 d3; obtain ⟨d0, d1, d2, d3⟩ := CELS.out _ hb) | (go_at_call 32; refine (HM0.out _).mono ?_; rintro e wq ⟨rfl, hbq⟩; replace hb := hb.trans (hbq.mono hb.size); clear hbq d0 d1 d2 d3; obtain ⟨d0, d1, d2, d3⟩ := CELS.out _ hb) | (go_at_call_of 33 (Value.slice A1 n1 k1); refine (HS1.out _ hb).mono ?_; rintro e wq ⟨rfl, hbq⟩; replace hb := hb.trans (hbq.mono hb.size); clear hbq d0 d1 d2 d3; obtain ⟨d0, d1, d2, d3⟩ := CELS.out _ hb) | (go_at_call_of 33 (Value.slice A2 n2 k2); refine (HS2.out _ hb).mono ?_; rintro e wq ⟨rfl, hbq⟩; replace hb := hb.trans (hbq.mono hb.size); clear hbq d0 d1 d2 d3; obtain ⟨d0, d1, d2, d3⟩ := CELS.out _ hb) | (go_at_call_of 33 (Value.slice A3 n3 k3); refine (HS3.out _ hb).mono ?_; rintro e wq ⟨rfl, hbq⟩; replace hb := hb.trans (hbq.mono hb.size); clear hbq d0 d1 d2 d3; obtain ⟨d0, d1, d2, d3⟩ := CELS.out _ hb))) | fail
    all_goals go_wp2_with fail
    all_goals go_ret
    all_goals exact ⟨rfl, HBW.out _ hb⟩
set_option maxRecDepth 100000 in
theorem SpanTells_lifted (os : Os) (started : os.Started) (H : Type) (enc : TypeId × Value → H) :
    ReturnsInHanded {} Try.checked os 6 .any (Rows.spanTellsSpec.pre6 enc Try.prog Try.f6 Rows.spanTellsRow.domain false) (Rows.spanTellsSpec.post enc Try.prog Try.f6 false true false false) := by
  refine returnsInHanded_of_change (C := Try.checked) own started (by kernel_rfl) Try.func6
    (ChangeSpec.witness6 (enc := enc) (C := Try.checked) false ⟨#[], #[.slice none 0 0, .int .i64 0, .agg #[.int .i64 0, .int .i64 0], .agg #[.int .i64 0, .int .i64 0]], []⟩ 8 (by kernel_rfl) (by kernel_rfl) (by kernel_rfl) (by kernel_rfl)) ?_
  intro W base args ds gs before hval0 hW hcnd _
  have hval : ∀ (j : Nat) t v, Try.f6.params[j]? = some t → args[j]? = some v → Value.okWide Try.prog W .any base t v := hval0
  have hW' := hW
  obtain ⟨p, q, hA0, hV, rfl, hfz, hnd⟩ := hW
  have hA : DataW.TrodAll enc Try.prog W 0 (fun _ => true) true Try.f6.params.toList args.toList ds p := hA0
  rw [Try.params6] at hA hval
  obtain ⟨v0, vs0, d0, ds0, p0, q0, hargs, rfl, rfl, h0, r0⟩ := trodAll_cons hA
  obtain ⟨v1, vs1, d1, ds1, p1, q1, rfl, rfl, rfl, h1, r1⟩ := trodAll_cons r0
  obtain ⟨v2, vs2, d2, ds2, p2, q2, rfl, rfl, rfl, h2, r2⟩ := trodAll_cons r1
  obtain ⟨v3, vs3, d3, ds3, p3, q3, rfl, rfl, rfl, h3, r3⟩ := trodAll_cons r2
  obtain ⟨rfl, rfl, rfl⟩ := trodAll_nil r3
  obtain rfl : args = #[v0, v1, v2, v3] := by cases args; simp_all
  obtain ⟨rfl, rfl⟩ := trodVars_none hV
  have lt0 := arg_lt h0
  have k0 := h0
  obtain ⟨A0, n0, c0, a0, rfl, w0⟩ := arg_sl (size := 2) Try.underlying43 (by kernel_rfl) (by omega) opens_spanC (hval 0 43 v0 rfl rfl) h0
  have lt1 := arg_lt h1
  have k1 := h1
  obtain ⟨a1, rfl, w1⟩ := arg_int Try.underlying3 (hval 1 3 v1 rfl rfl) h1
  have lt2 := arg_lt h2
  have k2 := h2
  obtain ⟨cs2, a2, rfl, w2⟩ := arg_agg (c := spanC) Try.underlying45 opens_spanC (hval 2 45 v2 rfl rfl) h2
  have lt3 := arg_lt h3
  have k3 := h3
  obtain ⟨cs3, a3, rfl, w3⟩ := arg_agg (c := spanC) Try.underlying45 opens_spanC (hval 3 45 v3 rfl rfl) h3
  clear hA0 hval0
  refine (SpanTells_walk W A0 n0 c0 a0 w0 a1 w1 cs2 a2 w2 cs3 a3 w3).mono fun e W' ⟨he, bel⟩ => ?_
  subst he
  exact ⟨_, rfl, _, _, _, [], _, [], hW', trodAll_mk1 (shut_bool Try.underlying4 _), (trodAll_cons_mk (Below.trod laidOut (by kernel_rfl) (of_decide_eq_true (by kernel_rfl)) k0 bel lt0) (trodAll_cons_mk (Below.trod laidOut (by kernel_rfl) (of_decide_eq_true (by kernel_rfl)) k1 bel lt1) (trodAll_cons_mk (Below.trod laidOut (by kernel_rfl) (of_decide_eq_true (by kernel_rfl)) k2 bel lt2) (trodAll_cons_mk (Below.trod laidOut (by kernel_rfl) (of_decide_eq_true (by kernel_rfl)) k3 bel lt3) trodAll_mk0)))), rfl, bel.frame _, fun h => by cases h⟩

/-- THE GIVEN STATEMENT SpanTells. -/
theorem spanTells_holds : Rows.SpanTellsSaid :=
  OpenClaim.holds_of_wide 6 Try.f6 rfl rfl rfl rfl rfl rfl rfl ⟨rfl, rfl, rfl, rfl, rfl⟩ rfl rfl rfl rfl rfl (by kernel_rfl) Try.func6 (by kernel_rfl)
    (of_decide_eq_true (by kernel_rfl)) (by unfold Func.isWrapper; rw [if_neg (of_decide_eq_false (by kernel_rfl))]; exact ⟨rfl, rfl⟩)
    (fun os started H enc _ => SpanTells_lifted os started H enc)
#print axioms spanTells_holds
end Go.Proofs.Ytpodgidamoiakaa
