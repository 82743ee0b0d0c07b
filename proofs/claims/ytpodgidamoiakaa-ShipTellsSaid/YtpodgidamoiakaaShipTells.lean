/-
  The law ShipTells returns true, whatever it is handed, and changes nothing that was there.
-/
import Derived.Test.YtpodgidamoiakaaShipM
import Derived.Test.YtpodgidamoiakaaShipN
import Derived.Test.YtpodgidamoiakaaShipL
import Derived.Test.YtpodgidamoiakaaShipLift
namespace Go.Proofs.Ytpodgidamoiakaa
open Go.ChangeShapes Go.WideShapes Go.ChangeAt Go.RowKit Go.Shelf

theorem serve_cases (x : Shp) (a b : Int) (h : shipE x = 0) : servE x a b = if a < 0 ∨ b < 0 ∨ (x.cats.length : Int) ≤ a ∨ (x.cats.length : Int) ≤ b then 3 else 0 := by
  unfold servE
  rw [if_neg (by rw [h]; simp)]
  by_cases hc : a < 0 ∨ b < 0 ∨ (x.cats.length : Int) ≤ a ∨ (x.cats.length : Int) ≤ b
  · rw [if_pos hc]
    by_cases h1 : a < 0 ∨ (x.cats.length : Int) ≤ a
    · rw [if_pos (.inl (betB_false (by omega)))]
    · rw [if_pos (.inr (betB_false (by omega)))]
  · rw [if_neg hc, if_neg (by rw [betB_true (by omega) (by omega), betB_true (by omega) (by omega)]; simp)]
theorem serve_ne (x : Shp) (a b : Int) (h : shipE x ≠ 0) : servE x a b = shipE x := if_pos h

set_option maxRecDepth 100000 in
set_option maxHeartbeats 20000000 in
theorem ShipTells_walk (W : World) (cs : Array Value) (x : Shp) (hx : shpC W All x cs.toList) (a : Int) (_ : InI a) (b : Int) (_ : InI b) :
    Calls Try.prog 4 #[.agg cs, .int .i64 a, .int .i64 b] W fun e w' => e = .returned (.bool true) ∧ Below W.heap.size W w' := by
  obtain ⟨A, n, cap, B, m, cap2, hcs, hc, hd, _, _⟩ := hx
  obtain rfl : cs = #[.int .i64 x.legs, .int .i64 x.souls, .slice A n cap, .slice B m cap2] := by cases cs; simp_all
  clear hcs
  obtain ⟨r, hr⟩ : ∃ r, r = shipE x := ⟨_, rfl⟩
  obtain ⟨u, hu⟩ : ∃ u, u = servE x a b := ⟨_, rfl⟩
  obtain ⟨z, hz⟩ : ∃ z, z = okB u (srvB (higC x.cats) a.toNat b.toNat) := ⟨_, rfl⟩
  have hS := fun W hc hd => Serves_any x A n cap B m cap2 a b W hc hd
  have hO := fun W hc hd => Order_any x A n cap B m cap2 W hc hd
  have hK := fun W hc hd => shipCheck_any x A n cap B m cap2 W hc hd
  have hR := fun W hc hd => CheckShip_any x A n cap B m cap2 W hc hd
  have HDS := Lib.hid (fun a b W hc ho h1 h2 => DoesServe_any x.legs x.souls A n cap x.cats (.slice B m cap2) a b W hc ho h1 h2)
  have HOO := Lib.hid (fun W hc ho => OrderOf_any x A n cap (.slice B m cap2) W hc ho)
  have HOK := Lib.hid (fun h => shp_ok (x := x) h)
  rw [← hu, ← hz] at hS
  rw [← hr] at hO hK hR HOK
  have HU1 := Lib.hid (show r = 0 → u = if a < 0 ∨ b < 0 ∨ (n : Int) ≤ a ∨ (n : Int) ≤ b then 3 else 0 from fun h => by rw [hu, serve_cases x a b (hr.symm.trans h), hc.len])
  have HU2 := Lib.hid (show r ≠ 0 → u = r from fun h => by rw [hu, hr]; exact serve_ne x a b (fun e => h (hr.trans e)))
  have HL := Lib.hid hc.len
  have HC := Lib.hid hc
  have HD := Lib.hid hd
  have HS := Lib.hid hS
  clear hS
  have HO := Lib.hid hO
  clear hO
  have HK := Lib.hid hK
  clear hK
  have HR := Lib.hid hR
  clear hR
  have HZ := Lib.hid hz
  clear hz
  clear hc hd hr hu
  obtain ⟨legs, souls, cats, cabs⟩ := x
  simp only at *
  go_enter Try.func4, Try.ntmps4
  go_upto_region 0 with (fail)
  go_cut [3, 6] (fun p _ wx => ∃ g, p = .pointer (some ⟨g, 0, none⟩) ∧ ShpAt wx g legs souls A n cap B m cap2 ∧ Below W.heap.size W wx)
  case first => as_aux_lemma =>
    go_wp2_with fail
    go_meet
    exact ⟨_, rfl, blk1 _ _, bel1 _ _⟩
  obtain ⟨g, rfl, hG, hb0⟩ := hcut
  obtain ⟨W1, hW1⟩ : ∃ W1, W1 = wc := ⟨_, rfl⟩
  subst hW1
  have HCX := Lib.hid (fun X (hX : Below W1.heap.size W1 X) => HC.out.bel (hb0.trans (hX.mono hb0.size)))
  have HDX := Lib.hid (fun X (hX : Below W1.heap.size W1 X) => HD.out.bel (hb0.trans (hX.mono hb0.size)))
  have CEL := Lib.hid (fun X (hX : Below W1.heap.size W1 X) => (show ShpAt X g legs souls A n cap B m cap2 from (hX.block g hG.lt).trans hG).all)
  have HBW := Lib.hid (fun X (hX : Below W1.heap.size W1 X) => hb0.trans (hX.mono hb0.size))
  clear hG hb0 HC HD
  have hb := Below.refl W1.heap.size W1
  obtain ⟨d0, d1, d2, d3⟩ := CEL.out _ hb
  go_wp2_with fail
  refine (HS.out _ (HCX.out _ hb) (HDX.out _ hb)).mono ?_
  rintro e w1 ⟨rfl, hb2⟩
  replace hb := hb.trans (hb2.mono hb.size); clear hb2 d0 d1 d2 d3; obtain ⟨d0, d1, d2, d3⟩ := CEL.out _ hb
  go_wp2_with fail
  refine (HO.out _ (HCX.out _ hb) (HDX.out _ hb)).mono ?_
  rintro e w2 ⟨v, xs, rfl, ho, hb2⟩
  obtain ⟨A4, n4, k4, rfl, hs⟩ := ho.sl intC_good
  replace hs := hs.all intC_good (by omega)
  clear ho
  replace hb := hb.trans (hb2.mono hb.size); clear hb2 d0 d1 d2 d3; obtain ⟨d0, d1, d2, d3⟩ := CEL.out _ hb
  go_wp2_with fail
  refine (HR.out _ (HCX.out _ hb) (HDX.out _ hb)).mono ?_
  rintro e w3 ⟨rfl, hb2⟩
  replace hs := hs.bel hb2
  replace hb := hb.trans (hb2.mono hb.size); clear hb2 d0 d1 d2 d3; obtain ⟨d0, d1, d2, d3⟩ := CEL.out _ hb
  by_cases h0 : r = 0
  · have hok := HOK.out h0
    have hu1 := HU1.out h0
    subst h0
    rw [okL_zero] at hs
    have HHS := Lib.hid hs
    have HSO := Lib.hid hok
    clear hok
    have HU := Lib.hid hu1
    clear hu1
    have HBB := Lib.hid hb
    have HN0 := Lib.hid (show 0 < n by rw [← HL.out]; exact HSO.out.cats0)
    obtain ⟨W4, hW4⟩ : ∃ W4, W4 = w3 := ⟨_, rfl⟩
    subst hW4
    clear hs hb HU1 HU2 HOK
    have HU3 := Lib.hid (show u = 0 ∨ u = 3 by rw [HU.out]; split <;> simp)
    go_upto_region 5 with (fail)
    go_cut [52] (fun t wx => t = .bool (u == 3) ∧ W4 = wx)
    case first => as_aux_lemma =>
      by_cases c1 : a < 0
      · obtain rfl : u = 3 := by rw [HU.out, if_pos (.inl c1)]
        go_wp2_with fail
        go_meet
        exact ⟨rfl, rfl⟩
      by_cases c2 : b < 0
      · obtain rfl : u = 3 := by rw [HU.out, if_pos (.inr (.inl c2))]
        go_wp2_with fail
        go_meet
        exact ⟨rfl, rfl⟩
      by_cases c3 : (n : Int) ≤ a
      · obtain rfl : u = 3 := by rw [HU.out, if_pos (.inr (.inr (.inl c3)))]
        go_wp2_with fail
        go_meet
        exact ⟨rfl, rfl⟩
      by_cases c4 : (n : Int) ≤ b
      · obtain rfl : u = 3 := by rw [HU.out, if_pos (.inr (.inr (.inr c4)))]
        go_wp2_with fail
        go_meet
        exact ⟨rfl, rfl⟩
      obtain rfl : u = 0 := by rw [HU.out, if_neg (by omega)]
      go_wp2_with fail
      go_meet
      exact ⟨rfl, rfl⟩
    obtain ⟨rfl, hw⟩ := hcut
    subst hw
    go_upto_if 52 with (fail)
    go_cut [12] (fun t wx => t = .int .i64 u ∧ W4 = wx)
    case first => as_aux_lemma =>
      rcases HU3.out with h3 | h3
      · subst h3
        go_wp2_with fail
        go_meet
        exact ⟨rfl, rfl⟩
      · subst h3
        go_wp2_with fail
        go_meet
        exact ⟨rfl, rfl⟩
    obtain ⟨rfl, hw⟩ := hcut
    subst hw
    have hb := HBB.out
    have hs := HHS.out
    go_wp2_with fail
    refine (HOO.out _ (HCX.out _ hb) HSO.out).mono ?_
    rintro e w5 ⟨v5, xs5, rfl, ho, hb2⟩
    obtain ⟨A5, n5, k5, rfl, ht⟩ := ho.sl intC_good
    replace ht := ht.all intC_good (by omega)
    replace hs := hs.bel hb2
    clear ho HBB HHS
    replace hb := hb.trans (hb2.mono hb.size); clear hb2 d0 d1 d2 d3; obtain ⟨d0, d1, d2, d3⟩ := CEL.out _ hb
    go_wp2_with fail
    refine (shipBegun_any _).mono ?_
    rintro e w6 ⟨rfl, hb2⟩
    replace hs := hs.bel hb2
    replace ht := ht.bel hb2
    replace hb := hb.trans (hb2.mono hb.size); clear hb2 d0 d1 d2 d3; obtain ⟨d0, d1, d2, d3⟩ := CEL.out _ hb
    go_wp2_with fail
    refine (HK.out _ (HCX.out _ hb) (HDX.out _ hb)).mono ?_
    rintro e w7 ⟨rfl, hb2⟩
    replace hs := hs.bel hb2
    replace ht := ht.bel hb2
    replace hb := hb.trans (hb2.mono hb.size); clear hb2 d0 d1 d2 d3; obtain ⟨d0, d1, d2, d3⟩ := CEL.out _ hb
    by_cases hu0 : u = 0
    · have hrng : ¬ (a < 0 ∨ b < 0 ∨ (n : Int) ≤ a ∨ (n : Int) ≤ b) := fun hc => by have := HU.out; rw [if_pos hc] at this; omega
      obtain ⟨a', rfl⟩ := Int.eq_ofNat_of_zero_le (show 0 ≤ a by omega)
      obtain ⟨b', rfl⟩ := Int.eq_ofNat_of_zero_le (show 0 ≤ b by omega)
      have hz2 : z = srvB (higC cats) a' b' := by rw [HZ.out, hu0]; rfl
      have hds := HDS.out a' b' _ (HCX.out _ hb) HSO.out.ok (by omega) (by omega)
      rw [← hz2] at hds
      have HDO := Lib.hid hds
      clear hds
      clear hz2 hrng
      subst hu0
      go_wp2_with fail
      refine HDO.out.mono ?_
      rintro e w8 ⟨rfl, hb2⟩
      have hsi := SameInts_any _ _ _ _ _ _ _ _ w8 (hs.bel hb2) (ht.bel hb2)
      rw [decide_eq_true rfl] at hsi
      have HSI := Lib.hid hsi
      clear hsi
      have HBE := Lib.hid (HBW.out _ (hb.trans (hb2.mono hb.size)))
      clear hs ht hb hb2 d0 d1 d2 d3
      go_wp2_with fail
      refine HSI.out.mono ?_
      rintro e w9 ⟨rfl, q, rfl⟩
      go_wp2_with fail
      go_ret
      exact ⟨rfl, below_drewN HBE.out _⟩
    · have hu' : (u == 0) = false := by simpa using hu0
      obtain rfl : z = false := by rw [HZ.out]; exact okB_ne hu0 _
      have hsi := SameInts_any _ _ _ _ _ _ _ _ w7 hs ht
      rw [decide_eq_true rfl] at hsi
      have HSI := Lib.hid hsi
      clear hsi
      have HBE := Lib.hid (HBW.out _ hb)
      clear hs ht hb hu0 d0 d1 d2 d3
      go_wp2_with fail
      refine HSI.out.mono ?_
      rintro e w9 ⟨rfl, q, rfl⟩
      go_wp2_with fail
      go_ret
      exact ⟨rfl, below_drewN HBE.out _⟩
  · have h0' : (r == 0) = false := by simpa using h0
    obtain rfl : u = r := HU2.out h0
    obtain rfl : z = false := by rw [HZ.out]; exact okB_ne h0 _
    rw [okL_ne h0] at hs
    clear h0
    go_wp2_with fail
    refine (shipBegun_any _).mono ?_
    rintro e w6 ⟨rfl, hb2⟩
    replace hs := hs.bel hb2
    replace hb := hb.trans (hb2.mono hb.size); clear hb2 d0 d1 d2 d3; obtain ⟨d0, d1, d2, d3⟩ := CEL.out _ hb
    go_wp2_with fail
    refine (HK.out _ (HCX.out _ hb) (HDX.out _ hb)).mono ?_
    rintro e w7 ⟨rfl, hb2⟩
    replace hs := hs.bel hb2
    replace hb := hb.trans (hb2.mono hb.size); clear hb2 d0 d1 d2 d3; obtain ⟨d0, d1, d2, d3⟩ := CEL.out _ hb
    have hsi := SameInts_any _ _ _ _ _ _ _ _ w7 hs (Sl.nil w7 All intC 1)
    rw [decide_eq_true rfl] at hsi
    have HSI := Lib.hid hsi
    clear hsi
    have HBE := Lib.hid (HBW.out _ hb)
    clear hs hb d0 d1 d2 d3
    go_wp2_with fail
    refine HSI.out.mono ?_
    rintro e w9 ⟨rfl, q, rfl⟩
    go_wp2_with fail
    go_ret
    exact ⟨rfl, below_drewN HBE.out _⟩
set_option maxRecDepth 100000 in
theorem ShipTells_lifted (os : Os) (started : os.Started) (H : Type) (enc : TypeId × Value → H) :
    ReturnsInHanded {} Try.checked os 4 .any (Rows.shipTellsSpec.pre6 enc Try.prog Try.f4 Rows.shipTellsRow.domain false) (Rows.shipTellsSpec.post enc Try.prog Try.f4 false true false false) := by
  refine returnsInHanded_of_change (C := Try.checked) own started (by kernel_rfl) Try.func4
    (ChangeSpec.witness6 (enc := enc) (C := Try.checked) false ⟨#[], #[.agg #[.int .i64 0, .int .i64 0, .slice none 0 0, .slice none 0 0], .int .i64 0, .int .i64 0], []⟩ 8 (by kernel_rfl) (by kernel_rfl) (by kernel_rfl) (by kernel_rfl)) ?_
  intro W base args ds gs before hval0 hW hcnd _
  have hval : ∀ (j : Nat) t v, Try.f4.params[j]? = some t → args[j]? = some v → Value.okWide Try.prog W .any base t v := hval0
  have hW' := hW
  obtain ⟨p, q, hA0, hV, rfl, hfz, hnd⟩ := hW
  have hA : DataW.TrodAll enc Try.prog W 0 (fun _ => true) true Try.f4.params.toList args.toList ds p := hA0
  rw [Try.params4] at hA hval
  obtain ⟨v0, vs0, d0, ds0, p0, q0, hargs, rfl, rfl, h0, r0⟩ := trodAll_cons hA
  obtain ⟨v1, vs1, d1, ds1, p1, q1, rfl, rfl, rfl, h1, r1⟩ := trodAll_cons r0
  obtain ⟨v2, vs2, d2, ds2, p2, q2, rfl, rfl, rfl, h2, r2⟩ := trodAll_cons r1
  obtain ⟨rfl, rfl, rfl⟩ := trodAll_nil r2
  obtain rfl : args = #[v0, v1, v2] := by cases args; simp_all
  obtain ⟨rfl, rfl⟩ := trodVars_none hV
  have lt0 := arg_lt h0
  have k0 := h0
  obtain ⟨cs0, a0, rfl, w0⟩ := arg_agg (c := shpC) Try.underlying25 opens_shpC (hval 0 25 v0 rfl rfl) h0
  have lt1 := arg_lt h1
  have k1 := h1
  obtain ⟨a1, rfl, w1⟩ := arg_int Try.underlying3 (hval 1 3 v1 rfl rfl) h1
  have lt2 := arg_lt h2
  have k2 := h2
  obtain ⟨a2, rfl, w2⟩ := arg_int Try.underlying3 (hval 2 3 v2 rfl rfl) h2
  clear hA0 hval0
  refine (ShipTells_walk W cs0 a0 w0 a1 w1 a2 w2).mono fun e W' ⟨he, bel⟩ => ?_
  subst he
  exact ⟨_, rfl, _, _, _, [], _, [], hW', trodAll_mk1 (shut_bool Try.underlying4 _), (trodAll_cons_mk (Below.trod laidOut (by kernel_rfl) (of_decide_eq_true (by kernel_rfl)) k0 bel lt0) (trodAll_cons_mk (Below.trod laidOut (by kernel_rfl) (of_decide_eq_true (by kernel_rfl)) k1 bel lt1) (trodAll_cons_mk (Below.trod laidOut (by kernel_rfl) (of_decide_eq_true (by kernel_rfl)) k2 bel lt2) trodAll_mk0))), rfl, bel.frame _, fun h => by cases h⟩

/-- THE GIVEN STATEMENT ShipTells. -/
theorem shipTells_holds : Rows.ShipTellsSaid :=
  OpenClaim.holds_of_wide 4 Try.f4 rfl rfl rfl rfl rfl rfl rfl ⟨rfl, rfl, rfl, rfl, rfl⟩ rfl rfl rfl rfl rfl (by kernel_rfl) Try.func4 (by kernel_rfl)
    (of_decide_eq_true (by kernel_rfl)) (by unfold Func.isWrapper; rw [if_neg (of_decide_eq_false (by kernel_rfl))]; exact ⟨rfl, rfl⟩)
    (fun os started H enc _ => ShipTells_lifted os started H enc)
#print axioms shipTells_holds
end Go.Proofs.Ytpodgidamoiakaa
