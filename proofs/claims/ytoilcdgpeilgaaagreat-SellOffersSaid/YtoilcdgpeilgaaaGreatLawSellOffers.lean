/-
  The law SellOffers returns true, whatever it is handed, and changes nothing that was there.
-/
import Derived.Test.YtoilcdgpeilgaaaGreatBun23
import Derived.Test.YtoilcdgpeilgaaaGreatBun24
import Derived.Test.YtoilcdgpeilgaaaGreatBun28
import Derived.Test.YtoilcdgpeilgaaaGreatBun29
import Derived.BigQuiet
set_option linter.unusedSimpArgs false
set_option linter.unusedVariables false
namespace Go.Proofs.YtoilcdgpeilgaaaGreat
open Go.ChangeShapes Go.WideShapes Go.ChangeAt Go.RowKit Go.Shelf

/-- The law's own booking of cabin c. -/
def twB (b : Bkg) (c : Int) : Bkg := ⟨b.id, 1, 2, b.gst, b.lev, c, 0, b.frm, b.upto, 0, []⟩
theorem twB_in {b : Bkg} {c : Int} (h : BkIn b) (hc : 0 ≤ c ∧ c ≤ 1000) : BkIn (twB b c) :=
  ⟨h.id, .of (by show _ ≤ (1 : Int); decide) (by show (1 : Int) ≤ _; decide), .of (by show _ ≤ (2 : Int); decide) (by show (2 : Int) ≤ _; decide), h.gst, .of (by show _ ≤ c; omega) (by show c ≤ _; omega), .of (by show _ ≤ (0 : Int); decide) (by show (0 : Int) ≤ _; decide), h.frm, h.upto, .of (by show _ ≤ (0 : Int); decide) (by show (0 : Int) ≤ _; decide)⟩
theorem offE_ok {x : Sai} {g : Int} {s : Span} (h : offE x g s = 0) : saiE x = 0 := by
  unfold offE at h
  by_cases q : saiE x = 0
  · exact q
  · rw [if_pos q] at h; exact absurd h q
theorem tw_off {x : Sai} {b : Bkg} {c : Int} (h0 : saiE x = 0) (h1 : 1 ≤ b.id) (h2 : b.id ≤ 999999) (hn : hasId x.bks b.id = false) : sellE x (twB b c) 1 = sellE x (offB x b.gst b.lev ⟨b.frm, b.upto⟩ c) 1 := by
  have ho := sai_ok h0
  have hlaw := freeI_law x.bks 1 (rise_pw.1 (rise_of ho.bs.rise)) (fun b hb => (ids_of ho b hb).1)
  have hf := freeI_bd x.bks
  have hl := ho.bs.len
  exact sell_twin ⟨rfl, rfl, rfl, rfl, rfl, rfl, rfl, rfl, rfl⟩ rfl rfl rfl ⟨h1, h2⟩ ⟨hf.1, by show freeI x.bks ≤ _; omega⟩ hn hlaw.2
set_option maxRecDepth 100000 in
set_option maxHeartbeats 20000000 in
theorem SellOffers_walk (W : World) (cs0 : Array Value) (x : Sai) (hx0 : saiC W All x cs0.toList) (cs1 : Array Value) (b : Bkg) (hb0 : bkgC W All b cs1.toList) :
    Calls Tryz.prog 4 #[.agg cs0, .agg cs1] W fun e w' => e = .returned (.bool true) ∧ Below W.heap.size W w' := by
  obtain ⟨p, rfl, hS, i1, i2, _, _⟩ := sai_in hx0
  obtain ⟨A3, n3, c3, hcs1, hf, hI⟩ := hb0
  obtain rfl : cs1 = bkgA b (.slice A3 n3 c3) := by cases cs1; simp_all
  clear hcs1
  have HNA0 := Lib.hid (fun X (c : Nat) hX (hc : (c : Int) ≤ 1000) => Named_any x p (twB b (c : Int)) none 0 0 X hX (Sl.nil _ _ _ _) (twB_in hI ⟨by omega, hc⟩))
  have HOF0 := Lib.hid (fun X hX => Offers_any x p b.gst b.lev b.frm b.upto X hX hI.gst hI.frm hI.upto)
  have HBA0 := Lib.hid (fun X (hX : SaiR X x p) => BookingAt_any x p b.id X hX.bks)
  have hm : x.ship.cabs.length = p.m := hS.cabs.len
  obtain ⟨oe, hoe⟩ : ∃ r, r = offE x b.gst ⟨b.frm, b.upto⟩ := ⟨_, rfl⟩
  obtain ⟨f, hfn⟩ : ∃ f : Nat → Bool, f = fun c : Nat => decide (sellE x (offB x b.gst b.lev ⟨b.frm, b.upto⟩ (c : Int)) 1 = 0) := ⟨_, rfl⟩
  have hol : offL x b.gst b.lev ⟨b.frm, b.upto⟩ = filN f p.m := by rw [hfn, ← hm]; rfl
  have HM := Lib.hid (show oe = 0 → p.m ≤ 12 from fun q => by rw [← hm]; exact (sai_ok (offE_ok (hoe.symm.trans q))).bs.ship.cabs12)
  have HTW := Lib.hid (show oe = 0 → 1 ≤ b.id → b.id ≤ 999999 → hasId x.bks b.id = false → ∀ j : Nat, (sellE x (twB b (j : Int)) 1 = 0 ↔ f j = true) from fun q h1 h2 h3 j => by rw [hfn, tw_off (offE_ok (hoe.symm.trans q)) h1 h2 h3, decide_eq_true_iff])
  rw [← hoe, hol] at HOF0
  have HS := Lib.hid hS
  clear hoe hfn hol hm hS hf hI hx0 i1 i2
  obtain ⟨A, n, cap, B, m, cap2, D, nd, cd, E, ne, ce, C, nb, cb⟩ := p
  simp only at HM HOF0
  go_enter Tryz.func4, Tryz.ntmps4
  go_upto_region 0 with (fail)
  go_cut [2, 3, 4] (fun p p2 _ wx => ∃ g h, p = .pointer (some ⟨g, 0, none⟩) ∧ p2 = .pointer (some ⟨h, 0, none⟩) ∧ Blk wx g (saiA x ⟨A, n, cap, B, m, cap2, D, nd, cd, E, ne, ce, C, nb, cb⟩) 32 ∧ Blk wx h (bkgA b (.slice A3 n3 c3)) 37 ∧ Below W.heap.size W wx)
  case first => as_aux_lemma =>
    go_wp2_with fail
    go_meet
    exact ⟨_, _, rfl, rfl, blk2_0 _ _ _, blk2_1 _ _ _, bel2 _ _ _⟩
  obtain ⟨g, h, rfl, rfl, hG, hH, hb0⟩ := hcut
  obtain ⟨W0, hW0⟩ : ∃ V, V = wc := ⟨_, rfl⟩
  subst hW0
  have HT := Lib.hid (fun X (hX : Below W0.heap.size W0 X) => hb0.trans (hX.mono hb0.size))
  have HG := Lib.hid (fun X (hX : Below W0.heap.size W0 X) => hG.bel hX)
  have HH := Lib.hid (fun X (hX : Below W0.heap.size W0 X) => hH.bel hX)
  have HSX := Lib.hid (fun X (hX : Below W0.heap.size W0 X) => HS.out.bel (HT.out X hX))
  clear hG hH hb0
  have hb : Below W0.heap.size W0 W0 := Below.refl _ _
  have HC := Lib.hid (HOF0.out _ (HSX.out _ hb))
  obtain ⟨b0, b1, b2, b3, b4, b5, b6, b7, b8, b9, b10⟩ := bkCells (HH.out _ hb)
  go_wp2_with (refine wpList_load_row rfl 32 (.tmp 2) rfl g rfl 32 _ (0, 0) _ (HG.out _ hb) Tryz.underlying32 rfl (by kernel_rfl) ?_)
  refine HC.out.mono ?_
  rintro e v1 ⟨v3, xs3, rfl, hO3, hb1⟩
  obtain ⟨A4, n4, c4, rfl, hs4⟩ := hO3.sl intC_good
  replace hs4 := hs4.all intC_good (by omega)
  have HA4 := Lib.hid (fun X (hX : Below v1.heap.size v1 X) => hs4.bel hX)
  clear hO3 HC b0 b1 b2 b3 b4 b5 b6 b7 b8 b9 b10 hb hs4
  go_wp2_with fail
  refine (sellBegun_any _).mono ?_
  rintro e v2 ⟨rfl, hb2⟩
  have hb : Below W0.heap.size W0 v2 := hb1.trans (hb2.mono hb1.size)
  have HA := Lib.hid (fun X (hX : Below v2.heap.size v2 X) => HA4.out X (hb2.trans (hX.mono hb2.size)))
  clear hb1 hb2 HA4
  by_cases he : oe = 0
  rotate_left
  · have he' : (oe != 0) = true := by simpa using he
    obtain rfl : n4 = 0 := by have := (HA.out _ (Below.refl _ _)).len; rw [okL_ne he] at this; exact this.symm
    clear he
    go_wp2_with fail
    go_ret
    exact ⟨rfl, HT.out _ hb⟩
  subst he
  rw [okL_zero] at HA
  have HMM := Lib.hid (HM.out rfl)
  have HTT := Lib.hid (HTW.out rfl)
  have hn4 : (filN f m).length = n4 := (HA.out _ (Below.refl _ _)).len
  have HN4 := Lib.hid hn4
  have HA4n := Lib.hid (show n4 ≤ 12 by rw [← hn4]; unfold filN; rw [List.length_map]; exact Nat.le_trans (List.length_filter_le _ _) (by rw [List.length_range]; exact HMM.out))
  clear HM HTW hn4
  have HC := Lib.hid (HBA0.out _ (HSX.out _ hb))
  have b0 : v2.cell? ⟨h, 0, none⟩ = some (.int .i64 b.id) := (HH.out _ hb).cell rfl
  go_upto_region 6 with (fail)
  go_wp2_with (refine wpList_load_row rfl 32 (.tmp 2) rfl g rfl 32 _ (0, 0) _ (HG.out _ hb) Tryz.underlying32 rfl (by kernel_rfl) ?_)
  refine HC.out.mono ?_
  rintro e v3 ⟨rfl, hb3⟩
  have HAX := Lib.hid (fun X (hX : Below v3.heap.size v3 X) => HA.out X (hb3.trans (hX.mono hb3.size)))
  have hb' : Below W0.heap.size W0 v3 := hb.trans (hb3.mono hb.size)
  clear HC b0 HA hb hb3
  have hb := hb'
  clear hb'
  have b0 : v3.cell? ⟨h, 0, none⟩ = some (.int .i64 b.id) := (HH.out _ hb).cell rfl
  obtain ⟨at0, hat⟩ : ∃ r, r = atI x.bks b.id := ⟨_, rfl⟩
  rw [← hat]
  by_cases d1 : 0 ≤ at0
  · have d1' : decide (0 ≤ at0) = true := decide_eq_true d1
    go_wp2_with fail
    go_ret
    exact ⟨rfl, HT.out _ hb⟩
  have hno : hasId x.bks b.id = false := by
    have := idxF_any (p := fun c : Bkg => decide (c.id = b.id)) (l := x.bks)
    unfold hasId
    rw [← this]
    exact decide_eq_false (by rw [hat] at d1; exact d1)
  have d1' : decide (0 ≤ at0) = false := decide_eq_false d1
  clear d1 hat
  by_cases d2 : b.id < 1
  · have d2' : decide (b.id < 1) = true := decide_eq_true d2
    clear d2
    go_wp2_with fail
    go_ret
    exact ⟨rfl, HT.out _ hb⟩
  have d2' : decide (b.id < 1) = false := decide_eq_false d2
  by_cases d3 : 999999 < b.id
  · have d3' : decide (999999 < b.id) = true := decide_eq_true d3
    clear d2 d3
    go_wp2_with fail
    go_ret
    exact ⟨rfl, HT.out _ hb⟩
  have d3' : decide (999999 < b.id) = false := decide_eq_false d3
  have HTJ := Lib.hid (HTT.out (by omega) (by omega) hno)
  clear d2 d3 hno HTT
  obtain ⟨V3, hV3⟩ : ∃ V, V = v3 := ⟨_, rfl⟩
  subst hV3
  have HB3 := Lib.hid hb
  go_wp2_with fail
  clear b0 d1' d2' d3'
  go_loopg [7, 8] m (fun gk kk i wr => ∃ j : Nat, j ≤ m ∧ m - j ≤ gk ∧ i = .int .i64 j ∧ kk = .int .i64 ((filN f j).length : Int) ∧ Below V3.heap.size V3 wr)
  case atStart => exact ⟨0, Nat.zero_le _, by omega, rfl, rfl, Below.refl _ _⟩
  case round =>
    clear hb
    obtain ⟨j, hj, hgk, rfl, rfl, hbr⟩ := hrel
    have hb := HB3.out.trans (hbr.mono HB3.out.size)
    have g3 : wr.cell? ⟨g, 3, none⟩ = some (.slice B m cap2) := (HG.out _ hb).cell rfl
    by_cases hlt : j < m
    · obtain ⟨w5, hw5⟩ : ∃ V, V = wr := ⟨_, rfl⟩
      subst hw5
      obtain ⟨b0, b1, b2, b3, b4, b5, b6, b7, b8, b9, b10⟩ := bkCells (HH.out _ hb)
      have hk12 : (j : Int) ≤ 1000 := by have := HMM.out; omega
      have HC0 := Lib.hid (fun X hX => HNA0.out X j hX hk12)
      have hjm : decide ((j : Int) < (m : Int)) = true := decide_eq_true (by omega)
      have HOB : bkgA (twB b (j : Int)) (.slice none 0 0) = #[.int .i64 b.id, .int .i64 1, .int .i64 2, .int .i64 b.gst, .bool b.lev, .int .i64 (j : Int), .int .i64 0, .int .i64 b.frm, .int .i64 b.upto, .int .i64 0, .slice none 0 0] := rfl
      go_upto_region 12 with (fail)
      go_cut [9] (fun p wx => ∃ y, p = .pointer (some ⟨y, 0, none⟩) ∧ w5.heap.size ≤ y ∧ Blk wx y (bkgA (twB b (j : Int)) (.slice none 0 0)) 37 ∧ Below w5.heap.size w5 wx)
      case first =>
        clear HA4n HMM HTJ HN4 HC0 HT HSX HAX HNA0 HBA0 HOF0 HOB hjm
        go_wp2_with fail
        go_meet
        exact ⟨_, rfl, Nat.le_refl _, Blk.new w5 _ _, bel1 w5 _⟩
      obtain ⟨y, rfl, hy, hY, hby⟩ := hcut
      obtain ⟨w6, hw6⟩ : ∃ V, V = wc := ⟨_, rfl⟩
      subst hw6
      have hb6 := hb.trans (hby.mono hb.size)
      have hr6 := hbr.trans (hby.mono hbr.size)
      clear b0 b1 b2 b3 b4 b5 b6 b7 b8 b9 b10 g3 hb hbr hby
      have hb := hb6
      have HY := Lib.hid hY
      clear hY
      obtain ⟨sc, hsc⟩ : ∃ r, r = sellE x (twB b (j : Int)) 1 := ⟨_, rfl⟩
      have hst := HTJ.out j
      rw [← hsc] at hst
      have HC := HC0.out _ (HSX.out _ hb)
      rw [← hsc] at HC
      have HC := Lib.hid HC
      go_upto_region 13 with (fail)
      go_cut [10, 11] (fun _ q wx => q = .int .i64 sc ∧ Below w6.heap.size w6 wx)
      case first =>
        clear hst hsc
        go_wp2_with (first | (refine wpList_load_row rfl 32 (.tmp 2) rfl g rfl 32 _ (0, 0) _ (HG.out _ hb) Tryz.underlying32 rfl (by kernel_rfl) ?_) | (refine wpList_load_row rfl 37 (.tmp 9) rfl y rfl 37 _ (0, 0) _ HY.out Tryz.underlying37 rfl (by kernel_rfl) ?_))
        refine HC.out.mono ?_
        rintro e w8 ⟨⟨y1, p1, rfl, hy1, hO⟩, hb8⟩
        have HB8 := Lib.hid hb8
        clear hb8
        clear hO hy1
        go_wp2_with (refine wpList_store_row rfl 32 (.tmp 10) (.tmp 68) rfl w8.heap.size (saiA y1 p1) rfl rfl 32 _ (Blk.new w8 #[.int .i64 0, .int .i64 0, .slice none 0 0, .slice none 0 0, .slice none 0 0, .int .i64 0, .int .i64 0, .slice none 0 0, .int .i64 0, .int .i64 0, .int .i64 0, .slice none 0 0, .bool false] 32) (by kernel_rfl) rfl (by simp [Value.oneCell']) ?_)
        go_meet
        have hbe : Below w8.heap.size w8 ((w8.alloc (.cells #[.int .i64 0, .int .i64 0, .slice none 0 0, .slice none 0 0, .slice none 0 0, .int .i64 0, .int .i64 0, .slice none 0 0, .int .i64 0, .int .i64 0, .int .i64 0, .slice none 0 0, .bool false] 32)).setRow w8.heap.size (saiA y1 p1)) := below_setRow (bel1 w8 _) (Nat.le_refl _) _
        exact ⟨rfl, HB8.out.trans (hbe.mono HB8.out.size)⟩
      obtain ⟨rfl, hbz⟩ := hcut
      obtain ⟨w7, hw7⟩ : ∃ V, V = wc := ⟨_, rfl⟩
      subst hw7
      have hr7 := hr6.trans (hbz.mono hr6.size)
      have hA7 := HAX.out _ hr7
      have hm12 := HMM.out
      obtain ⟨kj, hkj⟩ : ∃ q, q = (filN f j).length := ⟨_, rfl⟩
      rw [← hkj]
      clear HC HC0 hb hb6 hr6 hbz hsc hk12
      by_cases hs : sc = 0
      · obtain ⟨l1, l2⟩ := fil_next f hlt (hst.1 hs)
        rw [← hkj] at l1 l2
        have hkn : kj < n4 := by rw [← HN4.out]; exact (List.getElem?_eq_some_iff.1 l1).1
        obtain ⟨ba, off, v, c0, rfl, hx, ⟨hc0, -⟩, hcell⟩ := hA7.at1 hkn
        rw [l1] at hx
        injection hx with hx
        injection hc0 with hc0
        subst hc0
        rw [← hx] at hcell
        have hs' : (sc == 0) = true := by rw [hs]; rfl
        have hq1 : decide ((kj : Int) < (n4 : Int)) = true := decide_eq_true (by omega)
        have hq2 : decide ((kj : Int) < 0) = false := decide_eq_false (by omega)
        have hw : wrap64 ((kj : Int) + 1) = (kj : Int) + 1 := by unfold wrap64; have := HA4n.out; omega
        have L2 := Lib.hid l2
        clear hst hs l1 l2 hx hkj
        go_wp2_with fail
        go_roundg (m - (j + 1))
        case measure => omega
        case rel => exact ⟨j + 1, by omega, by omega, by go_num, by rw [L2.out]; go_num, by first | exact hr7 | exact below_drewN hr7 _⟩
      · have hf : f j = false := by cases q : f j; rfl; exact absurd (hst.2 q) hs
        obtain ⟨l1, l2⟩ := fil_skip f hlt hf
        rw [← hkj] at l1 l2
        have hs' : (sc == 0) = false := by simpa using hs
        have L2 := Lib.hid l2
        by_cases hkn : kj < n4
        · obtain ⟨ba, off, v, c0, rfl, hx, ⟨hc0, -⟩, hcell⟩ := hA7.at1 hkn
          have hv := l1 v hx
          injection hc0 with hc0
          subst hc0
          have hv' : (v == (j : Int)) = false := by simpa using hv
          have hq1 : decide ((kj : Int) < (n4 : Int)) = true := decide_eq_true (by omega)
          have hq2 : decide ((kj : Int) < 0) = false := decide_eq_false (by omega)
          clear hst hs l1 l2 hx hv hf hkj
          go_wp2_with fail
          go_roundg (m - (j + 1))
          case measure => omega
          case rel => exact ⟨j + 1, by omega, by omega, by go_num, by rw [L2.out], by first | exact hr7 | exact below_drewN hr7 _⟩
        · have hq1 : decide ((kj : Int) < (n4 : Int)) = false := decide_eq_false (by omega)
          have hq3 : decide (kj < n4) = false := decide_eq_false hkn
          clear hst hs l1 l2 hf hkj
          go_wp2_with fail
          go_roundg (m - (j + 1))
          case measure => omega
          case rel => exact ⟨j + 1, by omega, by omega, by go_num, by rw [L2.out], by first | exact hr7 | exact below_drewN hr7 _⟩
    · obtain rfl : j = m := by omega
      have HN := Lib.hid (show (((filN f j).length : Nat) : Int) = (n4 : Int) by rw [HN4.out])
      rw [HN.out]
      go_wp2_with fail
      go_ret
      exact ⟨rfl, HT.out _ hb⟩
set_option maxRecDepth 100000 in
theorem SellOffers_lifted (os : Os) (started : os.Started) (H : Type) (enc : TypeId × Value → H) :
    ReturnsInHanded {} Tryz.checked os 4 .any (Rows.sellOffersSpec.pre6 enc Tryz.prog Tryz.f4 Rows.sellOffersRow.domain false) (Rows.sellOffersSpec.post enc Tryz.prog Tryz.f4 false true false false) := by
  refine returnsInHanded_of_change (C := Tryz.checked) own started (by kernel_rfl) Tryz.func4
    (ChangeSpec.witness6 (enc := enc) (C := Tryz.checked) false ⟨#[], #[.agg #[.int .i64 0, .int .i64 0, .slice none 0 0, .slice none 0 0, .slice none 0 0, .int .i64 0, .int .i64 0, .slice none 0 0, .int .i64 0, .int .i64 0, .int .i64 0, .slice none 0 0, .bool false], .agg #[.int .i64 0, .int .i64 0, .int .i64 0, .int .i64 0, .bool false, .int .i64 0, .int .i64 0, .int .i64 0, .int .i64 0, .int .i64 0, .slice none 0 0]], []⟩ 8 (by kernel_rfl) (by kernel_rfl) (by kernel_rfl) (by kernel_rfl)) ?_
  intro W base args ds gs before hval0 hW hcnd _
  have hval : ∀ (j : Nat) t v, Tryz.f4.params[j]? = some t → args[j]? = some v → Value.okWide Tryz.prog W .any base t v := hval0
  have hW' := hW
  obtain ⟨p, q, hA0, hV, rfl, hfz, hnd⟩ := hW
  have hA : DataW.TrodAll enc Tryz.prog W 0 (fun _ => true) true Tryz.f4.params.toList args.toList ds p := hA0
  rw [Tryz.params4] at hA hval
  obtain ⟨v0, vs0, d0, ds0, p0, q0, hargs, rfl, rfl, h0, r0⟩ := trodAll_cons hA
  obtain ⟨v1, vs1, d1, ds1, p1, q1, rfl, rfl, rfl, h1, r1⟩ := trodAll_cons r0
  obtain ⟨rfl, rfl, rfl⟩ := trodAll_nil r1
  obtain rfl : args = #[v0, v1] := by cases args; simp_all
  obtain ⟨rfl, rfl⟩ := trodVars_none hV
  have lt0 := arg_lt h0
  have k0 := h0
  obtain ⟨cs0, a0, rfl, w0⟩ := arg_agg (c := saiC) Tryz.underlying32 opens_saiC (hval 0 32 v0 rfl rfl) h0
  have lt1 := arg_lt h1
  have k1 := h1
  obtain ⟨cs1, a1, rfl, w1⟩ := arg_agg (c := bkgC) Tryz.underlying37 opens_bkgC (hval 1 37 v1 rfl rfl) h1
  clear hA0 hval0
  refine (SellOffers_walk W cs0 a0 w0 cs1 a1 w1).mono fun e W' ⟨he, bel⟩ => ?_
  subst he
  exact ⟨_, rfl, _, _, _, [], _, [], hW', trodAll_mk1 (shut_bool Tryz.underlying4 _), (trodAll_cons_mk (Below.trod laidOut (by kernel_rfl) (of_decide_eq_true (by kernel_rfl)) k0 bel lt0) (trodAll_cons_mk (Below.trod laidOut (by kernel_rfl) (of_decide_eq_true (by kernel_rfl)) k1 bel lt1) trodAll_mk0)), rfl, bel.frame _, fun h => by cases h⟩

theorem SellOffers_fit1 : (Rows.sellOffersRow.wf (OpenSpec.ofChange Rows.sellOffersSpec) && Tryz.f4.params.all (Tryz.prog.readableRec ·) && namedTie Tryz.prog Rows.sellOffersRow.named Rows.sellOffersSpec.vars && (Rows.sellOffersRow.stops == []) && (Tryz.prog.stops == []) && (Rows.sellOffersRow.knobs == []) && (Tryz.prog.stopKnobs == [])) = true := by kernel_rfl
theorem SellOffers_fit2 : ((Rows.sellOffersRow.inPlace == Tryz.prog.inPlace 4) && (Rows.sellOffersRow.unfollowed == Tryz.prog.unfollowed 4) && (Rows.sellOffersRow.recurses == Tryz.prog.recurses 4) && (Rows.sellOffersRow.named == Tryz.prog.varsNamed 4)) = true := by kernel_rfl
theorem SellOffers_fit3 : ((Rows.sellOffersRow.maps == (Tryz.f4.params.toList ++ Rows.sellOffersSpec.plain.varTypes Tryz.prog).any (Tryz.prog.mapsRec ·)) && (Rows.sellOffersRow.ifaces == (Tryz.f4.params.toList ++ Rows.sellOffersSpec.plain.varTypes Tryz.prog).any (Tryz.prog.ifacesRec ·)) && (Rows.sellOffersRow.mapsOut == Tryz.prog.mapsAmong Tryz.f4.resultTypes.toList) && (Rows.sellOffersRow.loops == (Tryz.f4.params.toList ++ Rows.sellOffersSpec.plain.varTypes Tryz.prog).any (Tryz.prog.loopsFrom ·)) && (Rows.sellOffersRow.wideKeys == (Tryz.f4.params.toList ++ Rows.sellOffersSpec.plain.varTypes Tryz.prog ++ Tryz.f4.resultTypes.toList).any (Tryz.prog.wideKeysFrom ·)) &&
    Rows.sellOffersSpec.vars.all (Tryz.prog.varReadable ·) && Tryz.f4.resultTypes.all (fun t => Tryz.prog.readableRec t && decide (t < Tryz.prog.types.size)) && (Rows.sellOffersRow.ifacesOut == Tryz.f4.resultTypes.toList.any (Tryz.prog.ifacesRec ·)) && (Rows.sellOffersRow.loopsOut == Tryz.f4.resultTypes.toList.any (Tryz.prog.loopsFrom ·)) && (Rows.sellOffersRow.plainKeys == Tryz.prog.plainKeys) && Rows.sellOffersRow.shortTexts.isNone) = true := by kernel_rfl
theorem SellOffers_fit4 : ((Rows.sellOffersRow.lifted == Tryz.prog.liftsFinal) && (Tryz.prog.make == some Rows.sellOffersRow.make)) = true := by kernel_rfl
theorem SellOffers_fit5 : ((Rows.sellOffersRow.kinds == (if Rows.sellOffersRow.domain.isEmpty then [] else Tryz.f4.params.toList.map fun t => match Tryz.prog.underlying t with | some (.int k) => some k | _ => none)) && (Rows.sellOffersRow.pinned == Rows.sellOffersRow.pinnedBy) && (Rows.sellOffersRow.veiled == (Tryz.f4.params.toList ++ Rows.sellOffersSpec.plain.varTypes Tryz.prog ++ Tryz.f4.resultTypes.toList).any (Tryz.prog.veiledRec ·)) && Rows.sellOffersRow.veiledFits Tryz.prog Tryz.f4.params.toList (Tryz.f4.params.toList ++ Rows.sellOffersSpec.plain.varTypes Tryz.prog ++ Tryz.f4.resultTypes.toList)) = true := by kernel_rfl

set_option maxRecDepth 100000 in
/-- THE GIVEN STATEMENT SellOffers. -/
theorem sellOffers_holds : Rows.SellOffersSaid :=
  OpenClaim.holds_of_wide 4 Tryz.f4 rfl rfl rfl rfl rfl rfl rfl ⟨rfl, rfl, rfl, rfl, rfl⟩ rfl rfl rfl rfl rfl (by kernel_rfl) Tryz.func4
    (joined_of SellOffers_fit1 fit_laid fit_rows SellOffers_fit2 SellOffers_fit3 fit_heard fit_enter SellOffers_fit4 SellOffers_fit5)
    (of_decide_eq_true (by kernel_rfl)) (by unfold Func.isWrapper; rw [if_neg (of_decide_eq_false (by kernel_rfl))]; exact ⟨rfl, rfl⟩)
    (fun os started H enc _ => SellOffers_lifted os started H enc)
#print axioms sellOffers_holds
end Go.Proofs.YtoilcdgpeilgaaaGreat
