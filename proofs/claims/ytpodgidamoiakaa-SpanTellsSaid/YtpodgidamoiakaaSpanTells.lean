/-
  The law SpanTells returns true, whatever it is handed, and changes nothing that was there.
-/
import Derived.Test.YtpodgidamoiakaaSpanO
import Derived.Test.YtpodgidamoiakaaSpanLift
import Derived.Deep.RegionHeld3
namespace Go.Proofs.Ytpodgidamoiakaa
open Go.ChangeShapes Go.WideShapes Go.ChangeAt Go.RowKit Go.Shelf

set_option maxRecDepth 100000 in
set_option maxHeartbeats 20000000 in
theorem SpanTells_walk (W : World) (A : Option Addr) (n cap : Nat) (l : List Span) (h : Sl spanC 2 W All A n cap l) (legs : Int) (hi : InI legs) (cs : Array Value) (s : Span) (hs : spanC W All s cs.toList) (cs2 : Array Value) (t : Span) (ht : spanC W All t cs2.toList) :
    Calls Try.prog 6 #[.slice A n cap, .int .i64 legs, .agg cs, .agg cs2] W fun e w' => e = .returned (.bool true) ∧ Below W.heap.size W w' := by
  obtain ⟨hcs, ia, ib⟩ := hs
  obtain ⟨a, b⟩ := s
  obtain rfl : cs = #[.int .i64 a, .int .i64 b] := by cases cs; simp_all
  obtain ⟨hcs2, ic, id⟩ := ht
  obtain ⟨c, d⟩ := t
  obtain rfl : cs2 = #[.int .i64 c, .int .i64 d] := by cases cs2; simp_all
  clear hcs hcs2
  simp only at ia ib ic id
  obtain ⟨um, hum⟩ : ∃ u, u = meetsE ⟨a, b⟩ ⟨c, d⟩ := ⟨_, rfl⟩
  obtain ⟨v, hv⟩ : ∃ u, u = calE l legs := ⟨_, rfl⟩
  obtain ⟨r, hr⟩ : ∃ u, u = readySpE l legs ⟨a, b⟩ := ⟨_, rfl⟩
  obtain ⟨ua, hua⟩ : ∃ u, u = addE l legs ⟨a, b⟩ := ⟨_, rfl⟩
  obtain ⟨ut, hut⟩ : ∃ u, u = takeE l legs ⟨a, b⟩ := ⟨_, rfl⟩
  obtain ⟨es, hes⟩ : ∃ u, u = spanE ⟨a, b⟩ 7 := ⟨_, rfl⟩
  obtain ⟨el, hel⟩ : ∃ u, u = spanE ⟨a, b⟩ legs := ⟨_, rfl⟩
  have HM := Lib.hid (fun W => Meets_any a b c d W ia ib ic id)
  have HF := Lib.hid (fun W h => Free_any A n cap l legs W h hi)
  have HA := Lib.hid (fun W h => spanAdd_ins A n cap l legs a b W h ia ib)
  have HT := Lib.hid (fun W h => spanTake_any A n cap l legs a b W h)
  have HC := Lib.hid (fun W => CheckSpan_any a b 7 W)
  have HC2 := Lib.hid (fun W => CheckSpan_any c d 7 W)
  have HK := Lib.hid (fun W h => CheckCalendar_any A n cap l legs W h)
  have HCL := Lib.hid (fun W => CheckSpan_any a b legs W)
  rw [← hum] at HM
  rw [← hv] at HF HK
  rw [← hua] at HA
  rw [← hut] at HT
  rw [← hes] at HC
  rw [← hel] at HCL
  have HUM := Lib.hid hum
  clear hum
  have HV := Lib.hid hv
  clear hv
  have HR := Lib.hid hr
  clear hr
  have HUA := Lib.hid hua
  clear hua
  have HUT := Lib.hid hut
  clear hut
  have HES := Lib.hid hes
  clear hes
  have HEL := Lib.hid hel
  clear hel
  go_enter Try.func6, Try.ntmps6
  go_upto_region 0 with (fail)
  go_cut [6, 7] (fun p q wx => ∃ g k, p = .pointer (some ⟨g, 0, none⟩) ∧ q = .pointer (some ⟨k, 0, none⟩) ∧ SpanAt wx g a b ∧ SpanAt wx k c d ∧ Below W.heap.size W wx)
  case first => as_aux_lemma =>
    go_wp2_with fail
    go_meet
    exact ⟨_, _, rfl, rfl, blk2_0 _ _ _, blk2_1 _ _ _, bel2 _ _ _⟩
  obtain ⟨g, k, rfl, rfl, hS, hT, hb⟩ := hcut
  obtain ⟨W0, hW0⟩ : ∃ W0, W0 = wc := ⟨_, rfl⟩
  have HH := Lib.hid (h.bel hb)
  have HSA := Lib.hid hS
  have HTA := Lib.hid hT
  have HB0 := Lib.hid hb
  clear hS hT h hb
  subst hW0
  have hb := Below.refl W0.heap.size W0
  have cel : ∀ X, Below W0.heap.size W0 X → X.cell? ⟨g, 0, none⟩ = some (.int .i64 a) ∧ X.cell? ⟨g, 1, none⟩ = some (.int .i64 b) ∧ X.cell? ⟨k, 0, none⟩ = some (.int .i64 c) ∧ X.cell? ⟨k, 1, none⟩ = some (.int .i64 d) := fun X hX =>
    ⟨(HSA.out.below hX).c0, (HSA.out.below hX).c1, (HTA.out.below hX).c0, (HTA.out.below hX).c1⟩
  have CEL := Lib.hid cel
  clear cel
  obtain ⟨d0, d1, d2, d3⟩ := CEL.out _ hb
  go_wp2_with fail
  refine (HM.out _).mono ?_
  rintro e w1 ⟨rfl, hb2⟩
  replace hb := hb.trans (hb2.mono hb.size)
  clear hb2 d0 d1 d2 d3
  go_wp2_with fail
  refine (HF.out _ (HH.out.bel hb)).mono ?_
  rintro e w2 ⟨v1, xs1, rfl, ho1, hb2⟩
  obtain ⟨A1, n1, k1, rfl, hs1⟩ := ho1.sl spanC_good
  replace hs1 := hs1.all spanC_good (by omega)
  replace hb := hb.trans (hb2.mono hb.size)
  clear hb2 ho1
  obtain ⟨d0, d1, d2, d3⟩ := CEL.out _ hb
  go_wp2_with fail
  refine (HA.out _ (HH.out.bel hb)).mono ?_
  rintro e w3 ⟨v2, xs2, rfl, ho2, hb2⟩
  obtain ⟨A2, n2, k2, rfl, hs2⟩ := ho2.sl spanC_good
  replace hs2 := hs2.all spanC_good (by omega)
  replace hb := hb.trans (hb2.mono hb.size)
  replace hs1 := hs1.bel hb2
  clear hb2 ho2 d0 d1 d2 d3
  obtain ⟨d0, d1, d2, d3⟩ := CEL.out _ hb
  go_wp2_with fail
  refine (HT.out _ (HH.out.bel hb)).mono ?_
  rintro e w4 ⟨v3, xs3, rfl, ho3, hb2⟩
  obtain ⟨A3, n3, k3, rfl, hs3⟩ := ho3.sl spanC_good
  replace hs3 := hs3.all spanC_good (by omega)
  replace hb := hb.trans (hb2.mono hb.size)
  replace hs1 := hs1.bel hb2
  replace hs2 := hs2.bel hb2
  clear hb2 ho3 d0 d1 d2 d3
  obtain ⟨d0, d1, d2, d3⟩ := CEL.out _ hb
  go_wp2_with fail
  refine (HC.out _).mono ?_
  rintro e w5 ⟨rfl, hb2⟩
  replace hb := hb.trans (hb2.mono hb.size)
  replace hs1 := hs1.bel hb2
  replace hs2 := hs2.bel hb2
  replace hs3 := hs3.bel hb2
  clear hb2 d0 d1 d2 d3
  obtain ⟨d0, d1, d2, d3⟩ := CEL.out _ hb
  go_upto_if 53 with (fail)
  go_cut [17] (fun t wx => t = .int .i64 um ∧ Below w5.heap.size w5 wx)
  case first => as_aux_lemma =>
    by_cases h0 : es = 0
    · have HN := Lib.hid (show um = spanE ⟨c, d⟩ 7 by rw [HUM.out]; unfold meetsE; rw [if_neg (by rw [← HES.out]; simp [h0])])
      subst h0
      go_wp2_with fail
      refine (HC2.out _).mono ?_
      rintro e w6 ⟨rfl, hb2⟩
      go_wp2_with fail
      go_meet
      exact ⟨by rw [HN.out], hb2⟩
    · have HN := Lib.hid (show um = es by rw [HUM.out]; unfold meetsE; rw [if_pos (by rw [← HES.out]; exact h0), HES.out])
      have h0' : (es == 0) = false := by simpa using h0
      clear h0
      go_wp2_with fail
      go_meet
      exact ⟨by rw [HN.out], Below.refl _ _⟩
  obtain ⟨rfl, hb2⟩ := hcut
  replace hb := hb.trans (hb2.mono hb.size)
  replace hs1 := hs1.bel hb2
  replace hs2 := hs2.bel hb2
  replace hs3 := hs3.bel hb2
  clear hb2 d0 d1 d2 d3
  go_wp2_with fail
  refine (HK.out _ (HH.out.bel hb)).mono ?_
  rintro e w6 ⟨rfl, hb2⟩
  replace hb := hb.trans (hb2.mono hb.size)
  replace hs1 := hs1.bel hb2
  replace hs2 := hs2.bel hb2
  replace hs3 := hs3.bel hb2
  clear hb2
  obtain ⟨d0, d1, d2, d3⟩ := CEL.out _ hb
  go_upto_if 61 with (fail)
  go_cut [19] (fun t wx => t = .int .i64 r ∧ Below w6.heap.size w6 wx)
  case first => as_aux_lemma =>
    by_cases h0 : v = 0
    · have HN := Lib.hid (show r = el by rw [HR.out]; unfold readySpE; rw [if_neg (by rw [← HV.out]; simp [h0])]; exact HEL.out.symm)
      subst h0
      go_wp2_with fail
      refine (HCL.out _).mono ?_
      rintro e w7 ⟨rfl, hb2⟩
      go_wp2_with fail
      go_meet
      exact ⟨by rw [HN.out], hb2⟩
    · have HN := Lib.hid (show r = v by rw [HR.out]; unfold readySpE; rw [if_pos (by rw [← HV.out]; exact h0), HV.out])
      have h0' : (v == 0) = false := by simpa using h0
      clear h0
      go_wp2_with fail
      go_meet
      exact ⟨by rw [HN.out], Below.refl _ _⟩
  obtain ⟨rfl, hb2⟩ := hcut
  replace hb := hb.trans (hb2.mono hb.size)
  replace hs1 := hs1.bel hb2
  replace hs2 := hs2.bel hb2
  replace hs3 := hs3.bel hb2
  clear hb2 d0 d1 d2 d3
  go_upto_if 67 with (fail)
  go_cut [21] (fun t wx => ∃ B m c K, t = .slice B m c ∧ Sl spanC 2 wx All B m c K ∧ Aside (v = 0 → K = gapsL l legs) ∧ Below wc.heap.size wc wx)
  case first => as_aux_lemma =>
    by_cases h0 : v = 0
    · have hok := cal_ok (HV.out.symm.trans h0)
      obtain ⟨N, hN⟩ := Int.eq_ofNat_of_zero_le (show 0 ≤ legs by have := hok.lo; omega)
      subst hN
      have hfr := FreeOf_any A n cap l N _ (HH.out.bel hb) (by have := hok.hi; omega) (fun x hx => by have h1 := cal_mem hok hx; have h2 := hok.hi; unfold OkSp; omega)
      rw [free_same hok] at hfr
      have HFR := Lib.hid hfr
      clear hfr
      clear hok
      subst h0
      go_wp2_with fail
      refine HFR.out.mono ?_
      rintro e w7 ⟨v7, xs7, rfl, ho7, hb2⟩
      obtain ⟨B, m, c7, rfl, hs7⟩ := ho7.sl spanC_good
      replace hs7 := hs7.all spanC_good (by omega)
      have HS7 := Lib.hid hs7
      clear hs7 ho7
      go_wp2_with fail
      go_meet
      exact ⟨_, _, _, _, rfl, HS7.out, fun _ => rfl, hb2⟩
    · have h0' : (v == 0) = false := by simpa using h0
      have HN := Lib.hid h0
      clear h0
      go_wp2_with fail
      go_meet
      exact ⟨_, _, _, [], rfl, Sl.nil _ _ _ _, fun e => absurd e HN.out, Below.refl _ _⟩
  obtain ⟨B1, m1, e1, K1, rfl, hk1, hK1, hb2⟩ := hcut
  replace hb := hb.trans (hb2.mono hb.size)
  replace hs1 := hs1.bel hb2
  replace hs2 := hs2.bel hb2
  replace hs3 := hs3.bel hb2
  clear hb2
  obtain ⟨d0, d1, d2, d3⟩ := CEL.out _ hb
  go_upto_if 72 with (fail)
  go_cut [19, 20, 22, 23] (fun t u o p wx => t = .int .i64 ua ∧ u = .int .i64 ut ∧ ∃ B2 m2 e2 K2 B3 m3 e3 K3, o = .slice B2 m2 e2 ∧ p = .slice B3 m3 e3 ∧ Sl spanC 2 wx All B2 m2 e2 K2 ∧ Sl spanC 2 wx All B3 m3 e3 K3 ∧ Aside (ua = 0 → K2 = insSp ⟨a, b⟩ l) ∧ Aside (ut = 0 → K3 = delSp l ⟨a, b⟩) ∧ Below wc.heap.size wc wx)
  case first => as_aux_lemma =>
    by_cases h0 : r = 0
    · have hr0 := HR.out.symm.trans h0
      obtain ⟨hok, hsp⟩ := readySp_ok hr0
      have hso := span_ok hsp
      have hlo := hok.hi
      have hll := hok.len
      have hAd := fun W h => AddSpan_any A n cap l ⟨a, b⟩ W h (by omega) (fun x hx => by have h1 := cal_mem hok hx; unfold OkSp; omega) (by unfold OkSp; simp only at hso ⊢; omega) ia ib
      have hTk := fun W h => TakeSpan_any A n cap l ⟨a, b⟩ W h (by omega)
      rw [← add_same hr0, ← HUA.out] at hAd
      rw [← (take_same hok hr0).1, ← (take_same hok hr0).2, ← HUT.out] at hTk
      obtain ⟨P2, hP2⟩ : ∃ P, P = okL ua (insSp ⟨a, b⟩ l) := ⟨_, rfl⟩
      obtain ⟨P3, hP3⟩ : ∃ P, P = okL ut (delSp l ⟨a, b⟩) := ⟨_, rfl⟩
      rw [← hP2] at hAd
      rw [← hP3] at hTk
      have HAD := Lib.hid hAd
      clear hAd
      have HTK := Lib.hid hTk
      clear hTk
      have HP2 := Lib.hid hP2
      clear hP2
      have HP3 := Lib.hid hP3
      clear hP3
      clear hok hsp hso hlo hll hr0
      subst h0
      have hbo := Below.refl wc.heap.size wc
      go_wp2_with fail
      refine (HAD.out _ (HH.out.bel hb)).mono ?_
      rintro e w7 ⟨v7, xs7, rfl, ho7, hb2⟩
      obtain ⟨B2, m2, e2, rfl, hs7⟩ := ho7.sl spanC_good
      replace hs7 := hs7.all spanC_good (by omega)
      replace hb := hb.trans (hb2.mono hb.size)
      replace hbo := hbo.trans (hb2.mono hbo.size)
      clear ho7 d0 d1 d2 d3 hb2
      obtain ⟨d0, d1, d2, d3⟩ := CEL.out _ hb
      go_wp2_with fail
      refine (HTK.out _ (HH.out.bel hb)).mono ?_
      rintro e w8 ⟨v8, xs8, rfl, ho8, hb2⟩
      obtain ⟨B3, m3, e3, rfl, hs8⟩ := ho8.sl spanC_good
      replace hs8 := hs8.all spanC_good (by omega)
      have HS8 := Lib.hid hs8
      have HS7 := Lib.hid (hs7.bel hb2)
      have HBO := Lib.hid (hbo.trans (hb2.mono hbo.size))
      clear ho8 hs8 hs7 hb2
      go_wp2_with fail
      go_meet
      exact ⟨rfl, rfl, _, _, _, _, _, _, _, _, rfl, rfl, HS7.out, HS8.out, fun e => by rw [HP2.out, e]; rfl, fun e => by rw [HP3.out, e]; rfl, HBO.out⟩
    · have h0' : (r == 0) = false := by simpa using h0
      have e1 : ua = r := by rw [HUA.out]; unfold addE; rw [if_pos (by rw [← HR.out]; exact h0), HR.out]
      have e2 : ut = r := by rw [HUT.out]; unfold takeE; rw [if_pos (by rw [← HR.out]; exact h0), HR.out]
      have HN := Lib.hid h0
      have E1 := Lib.hid e1
      have E2 := Lib.hid e2
      clear h0 e1 e2
      go_wp2_with fail
      go_meet
      exact ⟨by rw [E1.out], by rw [E2.out], none, 0, 0, [], none, 0, 0, [], rfl, rfl, Sl.nil _ _ _ _, Sl.nil _ _ _ _, fun e => absurd (E1.out.symm.trans e) HN.out, fun e => absurd (E2.out.symm.trans e) HN.out, Below.refl _ _⟩
  obtain ⟨rfl, rfl, B2, m2, e2, K2, B3, m3, e3, K3, rfl, rfl, hk2, hk3, hK2, hK3, hb2⟩ := hcut
  replace hb := hb.trans (hb2.mono hb.size)
  replace hs1 := hs1.bel hb2
  replace hs2 := hs2.bel hb2
  replace hs3 := hs3.bel hb2
  replace hk1 := hk1.bel hb2
  clear hb2 d0 d1 d2 d3
  have HS1 := Lib.hid (fun X (hX : Below wc.heap.size wc X) => spansAre_any _ _ _ _ _ _ _ _ _ X (hs1.bel hX) (hk1.bel hX) hK1)
  have HS2 := Lib.hid (fun X (hX : Below wc.heap.size wc X) => spansAre_any _ _ _ _ _ _ _ _ _ X (hs2.bel hX) (hk2.bel hX) hK2)
  have HS3 := Lib.hid (fun X (hX : Below wc.heap.size wc X) => spansAre_any _ _ _ _ _ _ _ _ _ X (hs3.bel hX) (hk3.bel hX) hK3)
  have CELS := Lib.hid (fun X (hX : Below wc.heap.size wc X) => CEL.out X (hb.trans (hX.mono hb.size)))
  have HBW := Lib.hid (fun X (hX : Below wc.heap.size wc X) => HB0.out.trans ((hb.trans (hX.mono hb.size)).mono HB0.out.size))
  clear hs1 hs2 hs3 hk1 hk2 hk3 hK1 hK2 hK3 CEL HB0 hb HH HSA HTA HM HF HA HT HC HC2 HK HR HUA HUT HES HV
  have hb := (Below.refl wc.heap.size wc).drew
  have HCK := Lib.hid (fun W => spanCheck_any a b legs W)
  rw [show spanE ⟨a, b⟩ legs = el from HEL.out.symm] at HCK
  have HMB := Lib.hid (show um = 0 → ∀ W, Calls Try.prog 32 #[.agg #[.int .i64 a, .int .i64 b], .agg #[.int .i64 c, .int .i64 d]] W fun e w' => e = .returned (.bool (meetB ⟨a, b⟩ ⟨c, d⟩)) ∧ Below W.heap.size W w' from fun h0 W => by
    have hm := HUM.out.symm.trans h0
    unfold meetsE at hm
    by_cases h1 : spanE ⟨a, b⟩ 7 ≠ 0
    · rw [if_pos h1] at hm; exact absurd hm h1
    · rw [if_neg h1] at hm
      have h2 := span_ok (show spanE ⟨a, b⟩ 7 = 0 by omega)
      have h3 := span_ok hm
      exact DoMeet_any ⟨a, b⟩ ⟨c, d⟩ W (by unfold OkSp; simp only at h2 ⊢; omega) (by unfold OkSp; simp only at h3 ⊢; omega))
  obtain ⟨z, hz⟩ : ∃ z, z = meetB ⟨a, b⟩ ⟨c, d⟩ := ⟨_, rfl⟩
  rw [← hz] at HMB ⊢
  clear hz
  obtain ⟨d0, d1, d2, d3⟩ := CELS.out _ hb
  by_cases hu0 : um = 0
  · have hm0 := HMB.out hu0
    have HM0 := Lib.hid hm0
    clear hm0
    clear HMB HUM
    subst hu0
    rw [okB_zero]
    go_upto_region 19 with (fail)
    go_region_held3 (fun w' => w'.cell? ⟨g, 0, none⟩ = some (.int .i64 a) ∧ w'.cell? ⟨g, 1, none⟩ = some (.int .i64 b) ∧ w'.cell? ⟨k, 0, none⟩ = some (.int .i64 c) ∧ w'.cell? ⟨k, 1, none⟩ = some (.int .i64 d)) (first | exact CELS.out _ hb | go_keep) (first | (go_at_call 30; refine (spanBegun_any _).mono ?_; rintro e wq ⟨rfl, hbq⟩; replace hb := hb.trans (hbq.mono hb.size); clear hbq d0 d1 d2 d3; obtain ⟨d0, d1, d2, d3⟩ := CELS.out _ hb) | (go_at_call 31; refine (HCK.out _).mono ?_; rintro e wq ⟨rfl, hbq⟩; replace hb := hb.trans (hbq.mono hb.size); clear hbq d0 d1 d2 d3; obtain ⟨d0, d1, d2, d3⟩ := CELS.out _ hb) | (go_at_call 25; refine (HCL.out _).mono ?_; rintro e wq ⟨rfl, hbq⟩; replace hb := hb.trans (hbq.mono hb.size); clear hbq d0 d1 d2 d3; obtain ⟨d0, d1, d2, d3⟩ := CELS.out _ hb) | (go_at_call 32; refine (HM0.out _).mono ?_; rintro e wq ⟨rfl, hbq⟩; replace hb := hb.trans (hbq.mono hb.size); clear hbq d0 d1 d2 d3; obtain ⟨d0, d1, d2, d3⟩ := CELS.out _ hb) | (go_at_call_of 33 (Value.slice A1 n1 k1); refine (HS1.out _ hb).mono ?_; rintro e wq ⟨rfl, hbq⟩; replace hb := hb.trans (hbq.mono hb.size); clear hbq d0 d1 d2 d3; obtain ⟨d0, d1, d2, d3⟩ := CELS.out _ hb) | (go_at_call_of 33 (Value.slice A2 n2 k2); refine (HS2.out _ hb).mono ?_; rintro e wq ⟨rfl, hbq⟩; replace hb := hb.trans (hbq.mono hb.size); clear hbq d0 d1 d2 d3; obtain ⟨d0, d1, d2, d3⟩ := CELS.out _ hb) | (go_at_call_of 33 (Value.slice A3 n3 k3); refine (HS3.out _ hb).mono ?_; rintro e wq ⟨rfl, hbq⟩; replace hb := hb.trans (hbq.mono hb.size); clear hbq d0 d1 d2 d3; obtain ⟨d0, d1, d2, d3⟩ := CELS.out _ hb))
    all_goals go_wp2_with fail
    all_goals go_ret
    all_goals exact ⟨rfl, HBW.out _ hb⟩
  · have h0' : (um == 0) = false := by simpa using hu0
    rw [okB_ne hu0]
    have HM0 := HCK
    clear HMB HUM hu0
    go_upto_region 19 with (fail)
    refine wp_region_held_drew (S := fun w' => w'.cell? ⟨g, 0, none⟩ = some (.int .i64 a) ∧ w'.cell? ⟨g, 1, none⟩ = some (.int .i64 b) ∧ w'.cell? ⟨k, 0, none⟩ = some (.int .i64 c) ∧ w'.cell? ⟨k, 1, none⟩ = some (.int .i64 d)) (by kernel_rfl) (CELS.out _ hb) (fun hHeld => ?_)
    refine wpAnyH_ready (rs := [0]) (by kernel_rfl) (by simp) ?_
    refine AllReadyH.cons (o := ?o_1) ?h_1 (fun K hK => ?_) AllReadyH.nil
    case h_1 => (simp only [List.getElem?_toArray, List.getElem?_cons_zero]; rfl)
    go_simp
    (go_at_call 30; refine (spanBegun_any _).mono ?_; rintro e wq ⟨rfl, hbq⟩; replace hb := hb.trans (hbq.mono hb.size); clear hbq d0 d1 d2 d3; obtain ⟨d0, d1, d2, d3⟩ := CELS.out _ hb)
    go_wp2_with fail
    refine hK.out _ _ ?_ (fun hHeld => ?_)
    · exact CELS.out _ hb
    clear hK K
    try simp only [Act.put, List.setIfInBounds_toArray, List.set_cons_zero, List.set_cons_succ]
    refine wpAnyH_take (i := 1) (oi := ?o_2) (v := ?v_2) ?h_2 (by kernel_rfl) (by kernel_rfl) (by kernel_rfl) ?q_2 (Or.inl ⟨?w_2, ?y_2⟩) (by assumption) ?_
    case h_2 => (simp only [List.getElem?_toArray, List.getElem?_cons_succ, List.getElem?_cons_zero]; rfl)
    case q_2 => exact fun _ _ _ h => h
    case w_2 => rfl
    case y_2 => (intro w hSw; (try dsimp only at hSw); first | (go_simp; done) | (go_simp; with_reducible rfl))
    simp only [Act.put, List.setIfInBounds_toArray, List.set_cons_zero, List.set_cons_succ]
    refine wpAnyH_take (i := 2) (oi := ?o_3) (v := ?v_3) ?h_3 (by kernel_rfl) (by kernel_rfl) (by kernel_rfl) ?q_3 (Or.inl ⟨?w_3, ?y_3⟩) (by assumption) ?_
    case h_3 => (simp only [List.getElem?_toArray, List.getElem?_cons_succ, List.getElem?_cons_zero]; rfl)
    case q_3 => exact fun _ _ _ h => h
    case w_3 => rfl
    case y_3 => (intro w hSw; (try dsimp only at hSw); first | (go_simp; done) | (go_simp; with_reducible rfl))
    simp only [Act.put, List.setIfInBounds_toArray, List.set_cons_zero, List.set_cons_succ]
    refine wpAnyH_take (i := 3) (oi := ?o_4) (v := ?v_4) ?h_4 (by kernel_rfl) (by kernel_rfl) (by kernel_rfl) ?q_4 (Or.inl ⟨?w_4, ?y_4⟩) (by assumption) ?_
    case h_4 => (simp only [List.getElem?_toArray, List.getElem?_cons_succ, List.getElem?_cons_zero]; rfl)
    case q_4 => exact fun _ _ _ h => h
    case w_4 => rfl
    case y_4 => (intro w hSw; (try dsimp only at hSw); first | (go_simp; done) | (go_simp; with_reducible rfl))
    simp only [Act.put, List.setIfInBounds_toArray, List.set_cons_zero, List.set_cons_succ]
    refine wpAnyH_take (i := 5) (oi := ?o_5) (v := ?v_5) ?h_5 (by kernel_rfl) (by kernel_rfl) (by kernel_rfl) ?q_5 (Or.inl ⟨?w_5, ?y_5⟩) (by assumption) ?_
    case h_5 => (simp only [List.getElem?_toArray, List.getElem?_cons_succ, List.getElem?_cons_zero]; rfl)
    case q_5 => exact fun _ _ _ h => h
    case w_5 => rfl
    case y_5 => (intro w hSw; (try dsimp only at hSw); first | (go_simp; done) | (go_simp; with_reducible rfl))
    simp only [Act.put, List.setIfInBounds_toArray, List.set_cons_zero, List.set_cons_succ]
    refine wpAnyH_take (i := 6) (oi := ?o_6) (v := ?v_6) ?h_6 (by kernel_rfl) (by kernel_rfl) (by kernel_rfl) ?q_6 (Or.inl ⟨?w_6, ?y_6⟩) (by assumption) ?_
    case h_6 => (simp only [List.getElem?_toArray, List.getElem?_cons_succ, List.getElem?_cons_zero]; rfl)
    case q_6 => exact fun _ _ _ h => h
    case w_6 => rfl
    case y_6 => (intro w hSw; (try dsimp only at hSw); first | (go_simp; done) | (go_simp; with_reducible rfl))
    simp only [Act.put, List.setIfInBounds_toArray, List.set_cons_zero, List.set_cons_succ]
    refine wpAnyH_ready (rs := [4]) (by kernel_rfl) (by simp) ?_
    refine AllReadyH.cons (o := ?o_7) ?h_7 (fun K hK => ?_) AllReadyH.nil
    case h_7 => (simp only [List.getElem?_toArray, List.getElem?_cons_succ, List.getElem?_cons_zero]; rfl)
    go_simp
    (go_at_call 31; refine (HCK.out _).mono ?_; rintro e wq ⟨rfl, hbq⟩; replace hb := hb.trans (hbq.mono hb.size); clear hbq d0 d1 d2 d3; obtain ⟨d0, d1, d2, d3⟩ := CELS.out _ hb)
    go_wp2_with fail
    refine hK.out _ _ ?_ (fun hHeld => ?_)
    · exact CELS.out _ hb
    clear hK K
    try simp only [Act.put, List.setIfInBounds_toArray, List.set_cons_zero, List.set_cons_succ]
    refine wpAnyH_ready (rs := [7]) (by kernel_rfl) (by simp) ?_
    refine AllReadyH.cons (o := ?o_8) ?h_8 (fun K hK => ?_) AllReadyH.nil
    case h_8 => (simp only [List.getElem?_toArray, List.getElem?_cons_succ, List.getElem?_cons_zero]; rfl)
    go_simp
    (go_at_call 25; refine (HCL.out _).mono ?_; rintro e wq ⟨rfl, hbq⟩; replace hb := hb.trans (hbq.mono hb.size); clear hbq d0 d1 d2 d3; obtain ⟨d0, d1, d2, d3⟩ := CELS.out _ hb)
    go_wp2_with fail
    refine hK.out _ _ ?_ (fun hHeld => ?_)
    · exact CELS.out _ hb
    clear hK K
    try simp only [Act.put, List.setIfInBounds_toArray, List.set_cons_zero, List.set_cons_succ]
    refine wpAnyH_take (i := 8) (oi := ?o_9) (v := ?v_9) ?h_9 (by kernel_rfl) (by kernel_rfl) (by kernel_rfl) ?q_9 (Or.inl ⟨?w_9, ?y_9⟩) (by assumption) ?_
    case h_9 => (simp only [List.getElem?_toArray, List.getElem?_cons_succ, List.getElem?_cons_zero]; rfl)
    case q_9 => exact fun _ _ _ h => h
    case w_9 => rfl
    case y_9 => (intro w hSw; (try dsimp only at hSw); first | (go_simp; done) | (go_simp; with_reducible rfl))
    simp only [Act.put, List.setIfInBounds_toArray, List.set_cons_zero, List.set_cons_succ]
    refine wpAnyH_take (i := 9) (oi := ?o_10) (v := ?v_10) ?h_10 (by kernel_rfl) (by kernel_rfl) (by kernel_rfl) ?q_10 (Or.inl ⟨?w_10, ?y_10⟩) (by assumption) ?_
    case h_10 => (simp only [List.getElem?_toArray, List.getElem?_cons_succ, List.getElem?_cons_zero]; rfl)
    case q_10 => exact fun _ _ _ h => h
    case w_10 => rfl
    case y_10 => (intro w hSw; (try dsimp only at hSw); first | (go_simp; done) | (go_simp; with_reducible rfl))
    simp only [Act.put, List.setIfInBounds_toArray, List.set_cons_zero, List.set_cons_succ]
    refine wpAnyH_take (i := 10) (oi := ?o_11) (v := ?v_11) ?h_11 (by kernel_rfl) (by kernel_rfl) (by kernel_rfl) ?q_11 (Or.inl ⟨?w_11, ?y_11⟩) (by assumption) ?_
    case h_11 => (simp only [List.getElem?_toArray, List.getElem?_cons_succ, List.getElem?_cons_zero]; rfl)
    case q_11 => exact fun _ _ _ h => h
    case w_11 => rfl
    case y_11 => (intro w hSw; (try dsimp only at hSw); first | (go_simp; done) | (go_simp; with_reducible rfl))
    simp only [Act.put, List.setIfInBounds_toArray, List.set_cons_zero, List.set_cons_succ]
    refine wpAnyH_take (i := 11) (oi := ?o_12) (v := ?v_12) ?h_12 (by kernel_rfl) (by kernel_rfl) (by kernel_rfl) ?q_12 (Or.inl ⟨?w_12, ?y_12⟩) (by assumption) ?_
    case h_12 => (simp only [List.getElem?_toArray, List.getElem?_cons_succ, List.getElem?_cons_zero]; rfl)
    case q_12 => exact fun _ _ _ h => h
    case w_12 => rfl
    case y_12 => (intro w hSw; (try dsimp only at hSw); first | (go_simp; done) | (go_simp; with_reducible rfl))
    simp only [Act.put, List.setIfInBounds_toArray, List.set_cons_zero, List.set_cons_succ]
    refine wpAnyH_take (i := 12) (oi := ?o_13) (v := ?v_13) ?h_13 (by kernel_rfl) (by kernel_rfl) (by kernel_rfl) ?q_13 (Or.inl ⟨?w_13, ?y_13⟩) (by assumption) ?_
    case h_13 => (simp only [List.getElem?_toArray, List.getElem?_cons_succ, List.getElem?_cons_zero]; rfl)
    case q_13 => exact fun _ _ _ h => h
    case w_13 => rfl
    case y_13 => (intro w hSw; (try dsimp only at hSw); first | (go_simp; done) | (go_simp; with_reducible rfl))
    simp only [Act.put, List.setIfInBounds_toArray, List.set_cons_zero, List.set_cons_succ]
    refine wpAnyH_take (i := 13) (oi := ?o_14) (v := ?v_14) ?h_14 (by kernel_rfl) (by kernel_rfl) (by kernel_rfl) ?q_14 (Or.inl ⟨?w_14, ?y_14⟩) (by assumption) ?_
    case h_14 => (simp only [List.getElem?_toArray, List.getElem?_cons_succ, List.getElem?_cons_zero]; rfl)
    case q_14 => exact fun _ _ _ h => h
    case w_14 => rfl
    case y_14 => (intro w hSw; (try dsimp only at hSw); first | (go_simp; done) | (go_simp; with_reducible rfl))
    simp only [Act.put, List.setIfInBounds_toArray, List.set_cons_zero, List.set_cons_succ]
    refine wpAnyH_take (i := 14) (oi := ?o_15) (v := ?v_15) ?h_15 (by kernel_rfl) (by kernel_rfl) (by kernel_rfl) ?q_15 (Or.inl ⟨?w_15, ?y_15⟩) (by assumption) ?_
    case h_15 => (simp only [List.getElem?_toArray, List.getElem?_cons_succ, List.getElem?_cons_zero]; rfl)
    case q_15 => exact fun _ _ _ h => h
    case w_15 => rfl
    case y_15 => (intro w hSw; (try dsimp only at hSw); first | (go_simp; done) | (go_simp; with_reducible rfl))
    simp only [Act.put, List.setIfInBounds_toArray, List.set_cons_zero, List.set_cons_succ]
    refine wpAnyH_take (i := 15) (oi := ?o_16) (v := ?v_16) ?h_16 (by kernel_rfl) (by kernel_rfl) (by kernel_rfl) ?q_16 (Or.inl ⟨?w_16, ?y_16⟩) (by assumption) ?_
    case h_16 => (simp only [List.getElem?_toArray, List.getElem?_cons_succ, List.getElem?_cons_zero]; rfl)
    case q_16 => exact fun _ _ _ h => h
    case w_16 => rfl
    case y_16 => (intro w hSw; (try dsimp only at hSw); first | (go_simp; done) | (go_simp; with_reducible rfl))
    simp only [Act.put, List.setIfInBounds_toArray, List.set_cons_zero, List.set_cons_succ]
    refine wpAnyH_take (i := 16) (oi := ?o_17) (v := ?v_17) ?h_17 (by kernel_rfl) (by kernel_rfl) (by kernel_rfl) ?q_17 (Or.inl ⟨?w_17, ?y_17⟩) (by assumption) ?_
    case h_17 => (simp only [List.getElem?_toArray, List.getElem?_cons_succ, List.getElem?_cons_zero]; rfl)
    case q_17 => exact fun _ _ _ h => h
    case w_17 => rfl
    case y_17 => (intro w hSw; (try dsimp only at hSw); first | (go_simp; done) | (go_simp; with_reducible rfl))
    simp only [Act.put, List.setIfInBounds_toArray, List.set_cons_zero, List.set_cons_succ]
    refine wpAnyH_take (i := 17) (oi := ?o_18) (v := ?v_18) ?h_18 (by kernel_rfl) (by kernel_rfl) (by kernel_rfl) ?q_18 (Or.inl ⟨?w_18, ?y_18⟩) (by assumption) ?_
    case h_18 => (simp only [List.getElem?_toArray, List.getElem?_cons_succ, List.getElem?_cons_zero]; rfl)
    case q_18 => exact fun _ _ _ h => h
    case w_18 => rfl
    case y_18 => (intro w hSw; (try dsimp only at hSw); first | (go_simp; done) | (go_simp; with_reducible rfl))
    simp only [Act.put, List.setIfInBounds_toArray, List.set_cons_zero, List.set_cons_succ]
    refine wpAnyH_take (i := 18) (oi := ?o_19) (v := ?v_19) ?h_19 (by kernel_rfl) (by kernel_rfl) (by kernel_rfl) ?q_19 (Or.inl ⟨?w_19, ?y_19⟩) (by assumption) ?_
    case h_19 => (simp only [List.getElem?_toArray, List.getElem?_cons_succ, List.getElem?_cons_zero]; rfl)
    case q_19 => exact fun _ _ _ h => h
    case w_19 => rfl
    case y_19 => (intro w hSw; (try dsimp only at hSw); first | (go_simp; done) | (go_simp; with_reducible rfl))
    simp only [Act.put, List.setIfInBounds_toArray, List.set_cons_zero, List.set_cons_succ]
    refine wpAnyH_take (i := 19) (oi := ?o_20) (v := ?v_20) ?h_20 (by kernel_rfl) (by kernel_rfl) (by kernel_rfl) ?q_20 (Or.inl ⟨?w_20, ?y_20⟩) (by assumption) ?_
    case h_20 => (simp only [List.getElem?_toArray, List.getElem?_cons_succ, List.getElem?_cons_zero]; rfl)
    case q_20 => exact fun _ _ _ h => h
    case w_20 => rfl
    case y_20 => (intro w hSw; (try dsimp only at hSw); first | (go_simp; done) | (go_simp; with_reducible rfl))
    simp only [Act.put, List.setIfInBounds_toArray, List.set_cons_zero, List.set_cons_succ]
    refine wpAnyH_take (i := 20) (oi := ?o_21) (v := undef) ?h_21 (by kernel_rfl) (by kernel_rfl) (by kernel_rfl) ?q_21 (Or.inr ⟨?w_21, rfl⟩) (by assumption) ?_
    case h_21 => (simp only [List.getElem?_toArray, List.getElem?_cons_succ, List.getElem?_cons_zero]; rfl)
    case q_21 => exact fun _ _ _ h => h
    case w_21 => rfl
    simp only [Act.put, List.setIfInBounds_toArray, List.set_cons_zero, List.set_cons_succ]
    refine wpAnyH_take (i := 21) (oi := ?o_22) (v := undef) ?h_22 (by kernel_rfl) (by kernel_rfl) (by kernel_rfl) ?q_22 (Or.inr ⟨?w_22, rfl⟩) (by assumption) ?_
    case h_22 => (simp only [List.getElem?_toArray, List.getElem?_cons_succ, List.getElem?_cons_zero]; rfl)
    case q_22 => exact fun _ _ _ h => h
    case w_22 => rfl
    simp only [Act.put, List.setIfInBounds_toArray, List.set_cons_zero, List.set_cons_succ]
    refine wpAnyH_take (i := 22) (oi := ?o_23) (v := undef) ?h_23 (by kernel_rfl) (by kernel_rfl) (by kernel_rfl) ?q_23 (Or.inr ⟨?w_23, rfl⟩) (by assumption) ?_
    case h_23 => (simp only [List.getElem?_toArray, List.getElem?_cons_succ, List.getElem?_cons_zero]; rfl)
    case q_23 => exact fun _ _ _ h => h
    case w_23 => rfl
    simp only [Act.put, List.setIfInBounds_toArray, List.set_cons_zero, List.set_cons_succ]
    refine wpAnyH_take (i := 23) (oi := ?o_24) (v := ?v_24) ?h_24 (by kernel_rfl) (by kernel_rfl) (by kernel_rfl) ?q_24 (Or.inl ⟨?w_24, ?y_24⟩) (by assumption) ?_
    case h_24 => (simp only [List.getElem?_toArray, List.getElem?_cons_succ, List.getElem?_cons_zero]; rfl)
    case q_24 => exact fun _ _ _ h => h
    case w_24 => rfl
    case y_24 => (intro w hSw; (try dsimp only at hSw); first | (go_simp; done) | (go_simp; with_reducible rfl))
    simp only [Act.put, List.setIfInBounds_toArray, List.set_cons_zero, List.set_cons_succ]
    refine wpAnyH_take (i := 24) (oi := ?o_25) (v := ?v_25) ?h_25 (by kernel_rfl) (by kernel_rfl) (by kernel_rfl) ?q_25 (Or.inl ⟨?w_25, ?y_25⟩) (by assumption) ?_
    case h_25 => (simp only [List.getElem?_toArray, List.getElem?_cons_succ, List.getElem?_cons_zero]; rfl)
    case q_25 => exact fun _ _ _ h => h
    case w_25 => rfl
    case y_25 => (intro w hSw; (try dsimp only at hSw); first | (go_simp; done) | (go_simp; with_reducible rfl))
    simp only [Act.put, List.setIfInBounds_toArray, List.set_cons_zero, List.set_cons_succ]
    refine wpAnyH_take (i := 25) (oi := ?o_26) (v := ?v_26) ?h_26 (by kernel_rfl) (by kernel_rfl) (by kernel_rfl) ?q_26 (Or.inl ⟨?w_26, ?y_26⟩) (by assumption) ?_
    case h_26 => (simp only [List.getElem?_toArray, List.getElem?_cons_succ, List.getElem?_cons_zero]; rfl)
    case q_26 => exact fun _ _ _ h => h
    case w_26 => rfl
    case y_26 => (intro w hSw; (try dsimp only at hSw); first | (go_simp; done) | (go_simp; with_reducible rfl))
    simp only [Act.put, List.setIfInBounds_toArray, List.set_cons_zero, List.set_cons_succ]
    refine wpAnyH_take (i := 26) (oi := ?o_27) (v := ?v_27) ?h_27 (by kernel_rfl) (by kernel_rfl) (by kernel_rfl) ?q_27 (Or.inl ⟨?w_27, ?y_27⟩) (by assumption) ?_
    case h_27 => (simp only [List.getElem?_toArray, List.getElem?_cons_succ, List.getElem?_cons_zero]; rfl)
    case q_27 => exact fun _ _ _ h => h
    case w_27 => rfl
    case y_27 => (intro w hSw; (try dsimp only at hSw); first | (go_simp; done) | (go_simp; with_reducible rfl))
    simp only [Act.put, List.setIfInBounds_toArray, List.set_cons_zero, List.set_cons_succ]
    refine wpAnyH_take (i := 27) (oi := ?o_28) (v := ?v_28) ?h_28 (by kernel_rfl) (by kernel_rfl) (by kernel_rfl) ?q_28 (Or.inl ⟨?w_28, ?y_28⟩) (by assumption) ?_
    case h_28 => (simp only [List.getElem?_toArray, List.getElem?_cons_succ, List.getElem?_cons_zero]; rfl)
    case q_28 => exact fun _ _ _ h => h
    case w_28 => rfl
    case y_28 => (intro w hSw; (try dsimp only at hSw); first | (go_simp; done) | (go_simp; with_reducible rfl))
    simp only [Act.put, List.setIfInBounds_toArray, List.set_cons_zero, List.set_cons_succ]
    refine wpAnyH_take (i := 28) (oi := ?o_29) (v := ?v_29) ?h_29 (by kernel_rfl) (by kernel_rfl) (by kernel_rfl) ?q_29 (Or.inl ⟨?w_29, ?y_29⟩) (by assumption) ?_
    case h_29 => (simp only [List.getElem?_toArray, List.getElem?_cons_succ, List.getElem?_cons_zero]; rfl)
    case q_29 => exact fun _ _ _ h => h
    case w_29 => rfl
    case y_29 => (intro w hSw; (try dsimp only at hSw); first | (go_simp; done) | (go_simp; with_reducible rfl))
    simp only [Act.put, List.setIfInBounds_toArray, List.set_cons_zero, List.set_cons_succ]
    refine wpAnyH_take (i := 29) (oi := ?o_30) (v := ?v_30) ?h_30 (by kernel_rfl) (by kernel_rfl) (by kernel_rfl) ?q_30 (Or.inl ⟨?w_30, ?y_30⟩) (by assumption) ?_
    case h_30 => (simp only [List.getElem?_toArray, List.getElem?_cons_succ, List.getElem?_cons_zero]; rfl)
    case q_30 => exact fun _ _ _ h => h
    case w_30 => rfl
    case y_30 => (intro w hSw; (try dsimp only at hSw); first | (go_simp; done) | (go_simp; with_reducible rfl))
    simp only [Act.put, List.setIfInBounds_toArray, List.set_cons_zero, List.set_cons_succ]
    refine wpAnyH_take (i := 30) (oi := ?o_31) (v := ?v_31) ?h_31 (by kernel_rfl) (by kernel_rfl) (by kernel_rfl) ?q_31 (Or.inl ⟨?w_31, ?y_31⟩) (by assumption) ?_
    case h_31 => (simp only [List.getElem?_toArray, List.getElem?_cons_succ, List.getElem?_cons_zero]; rfl)
    case q_31 => exact fun _ _ _ h => h
    case w_31 => rfl
    case y_31 => (intro w hSw; (try dsimp only at hSw); first | (go_simp; done) | (go_simp; with_reducible rfl))
    simp only [Act.put, List.setIfInBounds_toArray, List.set_cons_zero, List.set_cons_succ]
    refine wpAnyH_ready (rs := [31]) (by kernel_rfl) (by simp) ?_
    refine AllReadyH.cons (o := ?o_32) ?h_32 (fun K hK => ?_) AllReadyH.nil
    case h_32 => (simp only [List.getElem?_toArray, List.getElem?_cons_succ, List.getElem?_cons_zero]; rfl)
    go_simp
    (go_at_call_of 33 (Value.slice A1 n1 k1); refine (HS1.out _ hb).mono ?_; rintro e wq ⟨rfl, hbq⟩; replace hb := hb.trans (hbq.mono hb.size); clear hbq d0 d1 d2 d3; obtain ⟨d0, d1, d2, d3⟩ := CELS.out _ hb)
    go_wp2_with fail
    refine hK.out _ _ ?_ (fun hHeld => ?_)
    · exact CELS.out _ hb
    clear hK K
    try simp only [Act.put, List.setIfInBounds_toArray, List.set_cons_zero, List.set_cons_succ]
    refine wpAnyH_take (i := 32) (oi := ?o_33) (v := ?v_33) ?h_33 (by kernel_rfl) (by kernel_rfl) (by kernel_rfl) ?q_33 (Or.inl ⟨?w_33, ?y_33⟩) (by assumption) ?_
    case h_33 => (simp only [List.getElem?_toArray, List.getElem?_cons_succ, List.getElem?_cons_zero]; rfl)
    case q_33 => exact fun _ _ _ h => h
    case w_33 => rfl
    case y_33 => (intro w hSw; (try dsimp only at hSw); first | (go_simp; done) | (go_simp; with_reducible rfl))
    simp only [Act.put, List.setIfInBounds_toArray, List.set_cons_zero, List.set_cons_succ]
    refine wpAnyH_take (i := 33) (oi := ?o_34) (v := ?v_34) ?h_34 (by kernel_rfl) (by kernel_rfl) (by kernel_rfl) ?q_34 (Or.inl ⟨?w_34, ?y_34⟩) (by assumption) ?_
    case h_34 => (simp only [List.getElem?_toArray, List.getElem?_cons_succ, List.getElem?_cons_zero]; rfl)
    case q_34 => exact fun _ _ _ h => h
    case w_34 => rfl
    case y_34 => (intro w hSw; (try dsimp only at hSw); first | (go_simp; done) | (go_simp; with_reducible rfl))
    simp only [Act.put, List.setIfInBounds_toArray, List.set_cons_zero, List.set_cons_succ]
    refine wpAnyH_take (i := 34) (oi := ?o_35) (v := ?v_35) ?h_35 (by kernel_rfl) (by kernel_rfl) (by kernel_rfl) ?q_35 (Or.inl ⟨?w_35, ?y_35⟩) (by assumption) ?_
    case h_35 => (simp only [List.getElem?_toArray, List.getElem?_cons_succ, List.getElem?_cons_zero]; rfl)
    case q_35 => exact fun _ _ _ h => h
    case w_35 => rfl
    case y_35 => (intro w hSw; (try dsimp only at hSw); first | (go_simp; done) | (go_simp; with_reducible rfl))
    simp only [Act.put, List.setIfInBounds_toArray, List.set_cons_zero, List.set_cons_succ]
    refine wpAnyH_take (i := 35) (oi := ?o_36) (v := ?v_36) ?h_36 (by kernel_rfl) (by kernel_rfl) (by kernel_rfl) ?q_36 (Or.inl ⟨?w_36, ?y_36⟩) (by assumption) ?_
    case h_36 => (simp only [List.getElem?_toArray, List.getElem?_cons_succ, List.getElem?_cons_zero]; rfl)
    case q_36 => exact fun _ _ _ h => h
    case w_36 => rfl
    case y_36 => (intro w hSw; (try dsimp only at hSw); first | (go_simp; done) | (go_simp; with_reducible rfl))
    simp only [Act.put, List.setIfInBounds_toArray, List.set_cons_zero, List.set_cons_succ]
    refine wpAnyH_take (i := 36) (oi := ?o_37) (v := ?v_37) ?h_37 (by kernel_rfl) (by kernel_rfl) (by kernel_rfl) ?q_37 (Or.inl ⟨?w_37, ?y_37⟩) (by assumption) ?_
    case h_37 => (simp only [List.getElem?_toArray, List.getElem?_cons_succ, List.getElem?_cons_zero]; rfl)
    case q_37 => exact fun _ _ _ h => h
    case w_37 => rfl
    case y_37 => (intro w hSw; (try dsimp only at hSw); first | (go_simp; done) | (go_simp; with_reducible rfl))
    simp only [Act.put, List.setIfInBounds_toArray, List.set_cons_zero, List.set_cons_succ]
    refine wpAnyH_take (i := 37) (oi := ?o_38) (v := ?v_38) ?h_38 (by kernel_rfl) (by kernel_rfl) (by kernel_rfl) ?q_38 (Or.inl ⟨?w_38, ?y_38⟩) (by assumption) ?_
    case h_38 => (simp only [List.getElem?_toArray, List.getElem?_cons_succ, List.getElem?_cons_zero]; rfl)
    case q_38 => exact fun _ _ _ h => h
    case w_38 => rfl
    case y_38 => (intro w hSw; (try dsimp only at hSw); first | (go_simp; done) | (go_simp; with_reducible rfl))
    simp only [Act.put, List.setIfInBounds_toArray, List.set_cons_zero, List.set_cons_succ]
    refine wpAnyH_ready (rs := [38]) (by kernel_rfl) (by simp) ?_
    refine AllReadyH.cons (o := ?o_39) ?h_39 (fun K hK => ?_) AllReadyH.nil
    case h_39 => (simp only [List.getElem?_toArray, List.getElem?_cons_succ, List.getElem?_cons_zero]; rfl)
    go_simp
    (go_at_call_of 33 (Value.slice A2 n2 k2); refine (HS2.out _ hb).mono ?_; rintro e wq ⟨rfl, hbq⟩; replace hb := hb.trans (hbq.mono hb.size); clear hbq d0 d1 d2 d3; obtain ⟨d0, d1, d2, d3⟩ := CELS.out _ hb)
    go_wp2_with fail
    refine hK.out _ _ ?_ (fun hHeld => ?_)
    · exact CELS.out _ hb
    clear hK K
    try simp only [Act.put, List.setIfInBounds_toArray, List.set_cons_zero, List.set_cons_succ]
    refine wpAnyH_take (i := 39) (oi := ?o_40) (v := ?v_40) ?h_40 (by kernel_rfl) (by kernel_rfl) (by kernel_rfl) ?q_40 (Or.inl ⟨?w_40, ?y_40⟩) (by assumption) ?_
    case h_40 => (simp only [List.getElem?_toArray, List.getElem?_cons_succ, List.getElem?_cons_zero]; rfl)
    case q_40 => exact fun _ _ _ h => h
    case w_40 => rfl
    case y_40 => (intro w hSw; (try dsimp only at hSw); first | (go_simp; done) | (go_simp; with_reducible rfl))
    simp only [Act.put, List.setIfInBounds_toArray, List.set_cons_zero, List.set_cons_succ]
    refine wpAnyH_take (i := 40) (oi := ?o_41) (v := ?v_41) ?h_41 (by kernel_rfl) (by kernel_rfl) (by kernel_rfl) ?q_41 (Or.inl ⟨?w_41, ?y_41⟩) (by assumption) ?_
    case h_41 => (simp only [List.getElem?_toArray, List.getElem?_cons_succ, List.getElem?_cons_zero]; rfl)
    case q_41 => exact fun _ _ _ h => h
    case w_41 => rfl
    case y_41 => (intro w hSw; (try dsimp only at hSw); first | (go_simp; done) | (go_simp; with_reducible rfl))
    simp only [Act.put, List.setIfInBounds_toArray, List.set_cons_zero, List.set_cons_succ]
    refine wpAnyH_take (i := 41) (oi := ?o_42) (v := ?v_42) ?h_42 (by kernel_rfl) (by kernel_rfl) (by kernel_rfl) ?q_42 (Or.inl ⟨?w_42, ?y_42⟩) (by assumption) ?_
    case h_42 => (simp only [List.getElem?_toArray, List.getElem?_cons_succ, List.getElem?_cons_zero]; rfl)
    case q_42 => exact fun _ _ _ h => h
    case w_42 => rfl
    case y_42 => (intro w hSw; (try dsimp only at hSw); first | (go_simp; done) | (go_simp; with_reducible rfl))
    simp only [Act.put, List.setIfInBounds_toArray, List.set_cons_zero, List.set_cons_succ]
    refine wpAnyH_take (i := 42) (oi := ?o_43) (v := ?v_43) ?h_43 (by kernel_rfl) (by kernel_rfl) (by kernel_rfl) ?q_43 (Or.inl ⟨?w_43, ?y_43⟩) (by assumption) ?_
    case h_43 => (simp only [List.getElem?_toArray, List.getElem?_cons_succ, List.getElem?_cons_zero]; rfl)
    case q_43 => exact fun _ _ _ h => h
    case w_43 => rfl
    case y_43 => (intro w hSw; (try dsimp only at hSw); first | (go_simp; done) | (go_simp; with_reducible rfl))
    simp only [Act.put, List.setIfInBounds_toArray, List.set_cons_zero, List.set_cons_succ]
    refine wpAnyH_take (i := 43) (oi := ?o_44) (v := ?v_44) ?h_44 (by kernel_rfl) (by kernel_rfl) (by kernel_rfl) ?q_44 (Or.inl ⟨?w_44, ?y_44⟩) (by assumption) ?_
    case h_44 => (simp only [List.getElem?_toArray, List.getElem?_cons_succ, List.getElem?_cons_zero]; rfl)
    case q_44 => exact fun _ _ _ h => h
    case w_44 => rfl
    case y_44 => (intro w hSw; (try dsimp only at hSw); first | (go_simp; done) | (go_simp; with_reducible rfl))
    simp only [Act.put, List.setIfInBounds_toArray, List.set_cons_zero, List.set_cons_succ]
    refine wpAnyH_take (i := 44) (oi := ?o_45) (v := ?v_45) ?h_45 (by kernel_rfl) (by kernel_rfl) (by kernel_rfl) ?q_45 (Or.inl ⟨?w_45, ?y_45⟩) (by assumption) ?_
    case h_45 => (simp only [List.getElem?_toArray, List.getElem?_cons_succ, List.getElem?_cons_zero]; rfl)
    case q_45 => exact fun _ _ _ h => h
    case w_45 => rfl
    case y_45 => (intro w hSw; (try dsimp only at hSw); first | (go_simp; done) | (go_simp; with_reducible rfl))
    simp only [Act.put, List.setIfInBounds_toArray, List.set_cons_zero, List.set_cons_succ]
    refine wpAnyH_ready (rs := [45]) (by kernel_rfl) (by simp) ?_
    refine AllReadyH.cons (o := ?o_46) ?h_46 (fun K hK => ?_) AllReadyH.nil
    case h_46 => (simp only [List.getElem?_toArray, List.getElem?_cons_succ, List.getElem?_cons_zero]; rfl)
    go_simp
    (go_at_call_of 33 (Value.slice A3 n3 k3); refine (HS3.out _ hb).mono ?_; rintro e wq ⟨rfl, hbq⟩; replace hb := hb.trans (hbq.mono hb.size); clear hbq d0 d1 d2 d3; obtain ⟨d0, d1, d2, d3⟩ := CELS.out _ hb)
    go_wp2_with fail
    refine hK.out _ _ ?_ (fun hHeld => ?_)
    · exact CELS.out _ hb
    clear hK K
    try simp only [Act.put, List.setIfInBounds_toArray, List.set_cons_zero, List.set_cons_succ]
    refine wpAnyH_take (i := 46) (oi := ?o_47) (v := ?v_47) ?h_47 (by kernel_rfl) (by kernel_rfl) (by kernel_rfl) ?q_47 (Or.inl ⟨?w_47, ?y_47⟩) (by assumption) ?_
    case h_47 => (simp only [List.getElem?_toArray, List.getElem?_cons_succ, List.getElem?_cons_zero]; rfl)
    case q_47 => exact fun _ _ _ h => h
    case w_47 => rfl
    case y_47 => (intro w hSw; (try dsimp only at hSw); first | (go_simp; done) | (go_simp; with_reducible rfl))
    simp only [Act.put, List.setIfInBounds_toArray, List.set_cons_zero, List.set_cons_succ]
    refine wpAnyH_take (i := 47) (oi := ?o_48) (v := ?v_48) ?h_48 (by kernel_rfl) (by kernel_rfl) (by kernel_rfl) ?q_48 (Or.inl ⟨?w_48, ?y_48⟩) (by assumption) ?_
    case h_48 => (simp only [List.getElem?_toArray, List.getElem?_cons_succ, List.getElem?_cons_zero]; rfl)
    case q_48 => exact fun _ _ _ h => h
    case w_48 => rfl
    case y_48 => (intro w hSw; (try dsimp only at hSw); first | (go_simp; done) | (go_simp; with_reducible rfl))
    simp only [Act.put, List.setIfInBounds_toArray, List.set_cons_zero, List.set_cons_succ]
    refine wpAnyH_done (by kernel_rfl) ?_ _
    go_wp2_with fail
    go_ret
    exact ⟨rfl, HBW.out _ hb⟩
set_option maxRecDepth 100000 in
theorem SpanTells_lifted (os : Os) (started : os.Started) (H : Type) (enc : TypeId × Value → H) :
    ReturnsInHanded {} Try.checked os 6 .any (Rows.spanTellsSpec.pre6 enc Try.prog Try.f6 Rows.spanTellsRow.domain false) (Rows.spanTellsSpec.post enc Try.prog Try.f6 false true false false) := by
  refine returnsInHanded_of_change (C := Try.checked) own started (by kernel_rfl) Try.func6
    (ChangeSpec.witness6 (enc := enc) (C := Try.checked) false ⟨#[], #[.slice none 0 0, .int .i64 0, .agg #[.int .i64 0, .int .i64 0], .agg #[.int .i64 0, .int .i64 0]], []⟩ 8 (by kernel_rfl) (by kernel_rfl) (by kernel_rfl) (by kernel_rfl)) ?_
  intro W base args ds gs before hval0 hW hcnd _
  have hval : ∀ (j : Nat) t v, Try.f6.params[j]? = some t → args[j]? = some v → Value.okWide Try.prog W .any base t v := hval0
  have hW' := hW
  obtain ⟨p, q, hA0, hV, rfl, hfz, hnd⟩ := hW
  have hA : DataW.TrodAll enc Try.prog W 0 (fun _ => true) true Try.f6.params.toList args.toList ds p := hA0
  rw [Try.params6] at hA hval
  obtain ⟨v0, vs0, d0, ds0, p0, q0, hargs, rfl, rfl, h0, r0⟩ := trodAll_cons hA
  obtain ⟨v1, vs1, d1, ds1, p1, q1, rfl, rfl, rfl, h1, r1⟩ := trodAll_cons r0
  obtain ⟨v2, vs2, d2, ds2, p2, q2, rfl, rfl, rfl, h2, r2⟩ := trodAll_cons r1
  obtain ⟨v3, vs3, d3, ds3, p3, q3, rfl, rfl, rfl, h3, r3⟩ := trodAll_cons r2
  obtain ⟨rfl, rfl, rfl⟩ := trodAll_nil r3
  obtain rfl : args = #[v0, v1, v2, v3] := by cases args; simp_all
  obtain ⟨rfl, rfl⟩ := trodVars_none hV
  have lt0 := arg_lt h0
  have k0 := h0
  obtain ⟨A0, n0, c0, a0, rfl, w0⟩ := arg_sl (size := 2) Try.underlying43 (by kernel_rfl) (by omega) opens_spanC (hval 0 43 v0 rfl rfl) h0
  have lt1 := arg_lt h1
  have k1 := h1
  obtain ⟨a1, rfl, w1⟩ := arg_int Try.underlying3 (hval 1 3 v1 rfl rfl) h1
  have lt2 := arg_lt h2
  have k2 := h2
  obtain ⟨cs2, a2, rfl, w2⟩ := arg_agg (c := spanC) Try.underlying45 opens_spanC (hval 2 45 v2 rfl rfl) h2
  have lt3 := arg_lt h3
  have k3 := h3
  obtain ⟨cs3, a3, rfl, w3⟩ := arg_agg (c := spanC) Try.underlying45 opens_spanC (hval 3 45 v3 rfl rfl) h3
  clear hA0 hval0
  refine (SpanTells_walk W A0 n0 c0 a0 w0 a1 w1 cs2 a2 w2 cs3 a3 w3).mono fun e W' ⟨he, bel⟩ => ?_
  subst he
  exact ⟨_, rfl, _, _, _, [], _, [], hW', trodAll_mk1 (shut_bool Try.underlying4 _), (trodAll_cons_mk (Below.trod laidOut (by kernel_rfl) (of_decide_eq_true (by kernel_rfl)) k0 bel lt0) (trodAll_cons_mk (Below.trod laidOut (by kernel_rfl) (of_decide_eq_true (by kernel_rfl)) k1 bel lt1) (trodAll_cons_mk (Below.trod laidOut (by kernel_rfl) (of_decide_eq_true (by kernel_rfl)) k2 bel lt2) (trodAll_cons_mk (Below.trod laidOut (by kernel_rfl) (of_decide_eq_true (by kernel_rfl)) k3 bel lt3) trodAll_mk0)))), rfl, bel.frame _, fun h => by cases h⟩

/-- THE GIVEN STATEMENT SpanTells. -/
theorem spanTells_holds : Rows.SpanTellsSaid :=
  OpenClaim.holds_of_wide 6 Try.f6 rfl rfl rfl rfl rfl rfl rfl ⟨rfl, rfl, rfl, rfl, rfl⟩ rfl rfl rfl rfl rfl (by kernel_rfl) Try.func6 (by kernel_rfl)
    (of_decide_eq_true (by kernel_rfl)) (by unfold Func.isWrapper; rw [if_neg (of_decide_eq_false (by kernel_rfl))]; exact ⟨rfl, rfl⟩)
    (fun os started H enc _ => SpanTells_lifted os started H enc)
#print axioms spanTells_holds
end Go.Proofs.Ytpodgidamoiakaa
