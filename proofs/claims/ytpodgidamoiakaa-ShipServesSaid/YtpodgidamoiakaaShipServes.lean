/-
  The law ShipServes returns true, whatever it is handed, and changes nothing that was there.
-/
import Derived.Test.YtpodgidamoiakaaShipM
import Derived.Test.YtpodgidamoiakaaShipJ
import Derived.Test.YtpodgidamoiakaaShipLift
import Derived.Deep.CutBlock
namespace Go.Proofs.Ytpodgidamoiakaa
open Go.ChangeShapes Go.WideShapes Go.ChangeAt Go.RowKit Go.Shelf

theorem cell_mv0 {W X : World} {p j : Nat} {v : Value} (hX : Below W.heap.size W X) (hc : W.cell? ⟨p, j, none⟩ = some v) : X.cell? ⟨p, j, none⟩ = some v := (World.cell?_of_block (a := ⟨p, j, none⟩) (hX.block _ (cell_lt hc))).trans hc
theorem serve_in (x : Shp) (h : shipE x = 0) (a b : Nat) (ha : a < x.cats.length) (hb : b < x.cats.length) : servE x a b = 0 := by
  unfold servE
  rw [if_neg (by rw [h]; simp), if_neg (by rw [betB_true (by omega) (by omega), betB_true (by omega) (by omega)]; simp)]
theorem srv_two {C : List (List Int)} (ha : ∀ k, ¬ Srv C k k) {a b : Nat} : (srvB C a b && (srvB C b a != decide (a = b))) = false := by
  unfold srvB
  by_cases h : a = b
  · subst h; simp
  · by_cases h1 : Srv C a b
    · have h2 : ¬ Srv C b a := fun h2 => ha a (h1.trans h2)
      have h3 : ¬ b = a := fun e => h e.symm
      simp [h, h2, h3]
    · simp [h, h1]
theorem srv_three {C : List (List Int)} {a b c : Nat} (h : srvB C a b = true) (h2 : srvB C b c = true) : srvB C a c = true := by
  unfold srvB at *
  rw [Bool.or_eq_true, decide_eq_true_iff, decide_eq_true_iff] at *
  rcases h with rfl | h
  · exact h2
  · rcases h2 with rfl | h2
    · exact .inr h
    · exact .inr (h.trans h2)
theorem and_ne {t d : Bool} (h : (true && (t != d)) = false) : t = d := by cases t <;> cases d <;> simp_all
/-- What is known of the table in the midst of its filling. -/
def fillOk (C : List (List Int)) (n a b : Nat) (f : Nat → Bool) : Prop := ∀ a' b', b' < n → (a' < a ∨ (a' = a ∧ b' < b)) → f (a' * 5 + b') = srvB C a' b'
theorem fill_step {C : List (List Int)} {n a b : Nat} {f : Nat → Bool} (h : fillOk C n a b f) (hn : n ≤ 5) (hb : b < n) : fillOk C n a (b + 1) (fun i => if i = a * 5 + b then srvB C a b else f i) := fun a' b' hb' hc => by
  by_cases he : a' = a ∧ b' = b
  · obtain ⟨rfl, rfl⟩ := he; simp
  · show (if a' * 5 + b' = a * 5 + b then _ else _) = _
    rw [if_neg (by omega)]
    exact h a' b' hb' (by omega)

set_option maxRecDepth 100000 in
set_option maxHeartbeats 20000000 in
theorem ShipServes_walk (W : World) (cs : Array Value) (x : Shp) (hx : shpC W All x cs.toList) :
    Calls Try.prog 5 #[.agg cs] W fun e w' => e = .returned (.bool true) ∧ Below W.heap.size W w' := by
  obtain ⟨A, n, cap, B, m, cap2, hcs, hc, hd, _, _⟩ := hx
  obtain rfl : cs = #[.int .i64 x.legs, .int .i64 x.souls, .slice A n cap, .slice B m cap2] := by cases cs; simp_all
  clear hcs
  have HO := Lib.hid (fun W hc hd => Order_any x A n cap B m cap2 W hc hd)
  have HS := Lib.hid (fun a b W hc hd => Serves_any x A n cap B m cap2 a b W hc hd)
  have HSI := Lib.hid (fun h a b ha hb => serve_in x h a b ha hb)
  have HOK := Lib.hid (fun h => shp_ok (x := x) h)
  have HL := Lib.hid hc.len
  obtain ⟨r, hr⟩ : ∃ r, r = shipE x := ⟨_, rfl⟩
  rw [← hr] at HO HOK HSI
  have HC := Lib.hid hc
  have HD := Lib.hid hd
  clear hc hd hr
  obtain ⟨legs, souls, cats, cabs⟩ := x
  simp only at *
  go_enter Try.func5, Try.ntmps5
  go_upto_region 0 with (fail)
  go_cut [1, 2] (fun p _ wx => ∃ g, p = .pointer (some ⟨g, 0, none⟩) ∧ ShpAt wx g legs souls A n cap B m cap2 ∧ Below W.heap.size W wx)
  case first => as_aux_lemma =>
    go_wp2_with fail
    go_meet
    exact ⟨_, rfl, blk1 _ _, bel1 _ _⟩
  obtain ⟨g, rfl, hG, hb1⟩ := hcut
  obtain ⟨g0, g1, g2, g3⟩ := hG.all
  go_wp2_with fail
  refine (HO.out _ (HC.out.bel hb1) (HD.out.bel hb1)).mono ?_
  rintro e w2 ⟨v, xs, rfl, ho, hb2⟩
  obtain ⟨A4, n4, k4, rfl, hs⟩ := ho.sl intC_good
  replace hs := hs.all intC_good (by omega)
  have hG := hG.bel hb2
  have hb3 := hb1.trans (hb2.mono hb1.size)
  clear ho hb1 hb2 g0 g1 g2 g3
  go_wp2_with fail
  refine (shipBegun_any _).mono ?_
  rintro e w3 ⟨rfl, hb4⟩
  replace hs := hs.bel hb4
  have hG := hG.bel hb4
  have hb5 := hb3.trans (hb4.mono hb3.size)
  clear hb3 hb4
  by_cases h0 : r = 0
  · have hok := HOK.out h0
    have hsi := HSI.out h0
    subst h0
    rw [okL_zero] at hs
    obtain rfl : n4 = n := by rw [← hs.len, ordF_len]
    have hl5 : n4 ≤ 5 := by rw [← HL.out]; exact hok.cats5
    have hl0 : 0 < n4 := by rw [← HL.out]; exact hok.cats0
    have HCN := Lib.hid (show (higC cats).length = n4 by rw [higC_len]; exact HL.out)
    have HSV := Lib.hid (show ∀ (a b : Nat) (W' : World), a < n4 → b < n4 → Sl catC 2 W' All A n4 cap cats → Sl cabC 4 W' All B m cap2 cabs → Calls Try.prog 14 #[.agg #[.int .i64 legs, .int .i64 souls, .slice A n4 cap, .slice B m cap2], .int .i64 (a : Int), .int .i64 (b : Int)] W' fun e w' => e = .returned (.tuple #[.bool (srvB (higC cats) a b), .int .i64 0]) ∧ Below W'.heap.size W' w' from fun a b W' ha hb h1 h2 => by
      have := HS.out (a : Int) (b : Int) W' h1 h2
      rw [hsi a b (by rw [HL.out]; exact ha) (by rw [HL.out]; exact hb), okB_zero, Int.toNat_natCast, Int.toNat_natCast] at this
      exact this)
    have HSO := Lib.hid hok
    clear hok
    have HSL := Lib.hid hs
    have HGG := Lib.hid hG
    have HB5 := Lib.hid hb5
    obtain ⟨W1, hW1⟩ : ∃ W1, W1 = w3 := ⟨_, rfl⟩
    subst hW1
    obtain ⟨g0, g1, g2, g3⟩ := HGG.out.all
    clear hs hG hb5 hsi HS HSI HO HOK
    go_upto_region 9 with (fail)
    go_cut [6] (fun p wx => ∃ z, p = .pointer (some ⟨z, 0, none⟩) ∧ W1.heap.size ≤ z ∧ Blk wx z (rowV 25 (fun _ => false)) 41 ∧ Below W1.heap.size W1 wx)
    case first => as_aux_lemma =>
      go_wp2_with fail
      go_meet
      exact ⟨_, rfl, Nat.le_refl _, blk1 _ _, bel1 _ _⟩
    obtain ⟨z, rfl, hzb, hZ, hbz⟩ := hcut
    have HZ := Lib.hid hZ
    have HBZ := Lib.hid hbz
    clear hZ hbz
    go_upto_block 0 with (fail)
    go_cut [7, 8, 9, 10] (fun _ _ _ _ wx => ∃ f, Blk wx z (rowV 25 f) 41 ∧ Aside (fillOk (higC cats) n4 n4 0 f) ∧ Below W1.heap.size W1 wx)
    case first => as_aux_lemma =>
      go_wp2_with fail
      go_loopg [7, 8, 9, 10] n4 (fun gk i _ _ _ wr => ∃ (a : Nat) (f : Nat → Bool), a ≤ n4 ∧ n4 - a ≤ gk ∧ i = .int .i64 a ∧ Blk wr z (rowV 25 f) 41 ∧ Aside (fillOk (higC cats) n4 a 0 f) ∧ Below W1.heap.size W1 wr)
      case atStart => exact ⟨0, _, Nat.zero_le _, by omega, rfl, HZ.out, (show Aside _ from fun a' b' _ h => by omega), HBZ.out⟩
      case round =>
        obtain ⟨a, f, ha, hga, rfl, hZ, HF, hb⟩ := hrel
        have HZ2 := Lib.hid hZ
        have HB2 := Lib.hid hb
        clear hZ hb
        by_cases han : a < n4
        · go_wp2_with fail
          go_loopg [8, 9, 10] n4 (fun gk i _ _ wr => ∃ (b : Nat) (f : Nat → Bool), b ≤ n4 ∧ n4 - b ≤ gk ∧ i = .int .i64 b ∧ Blk wr z (rowV 25 f) 41 ∧ Aside (fillOk (higC cats) n4 a b f) ∧ Below W1.heap.size W1 wr)
          case atStart => exact ⟨0, f, Nat.zero_le _, by omega, rfl, HZ2.out, HF, HB2.out⟩
          case round =>
            obtain ⟨b, f, hb, hgb, rfl, hZ, HF, hbe⟩ := hrel
            by_cases hbn : b < n4
            · have x0 := cell_mv0 hbe g0
              have x1 := cell_mv0 hbe g1
              have x2 := cell_mv0 hbe g2
              have x3 := cell_mv0 hbe g3
              have hcall := HSV.out a b wr han hbn (HC.out.bel (HB5.out.trans (hbe.mono HB5.out.size))) (HD.out.bel (HB5.out.trans (hbe.mono HB5.out.size)))
              have HZ3 := Lib.hid hZ
              have HB3 := Lib.hid hbe
              have HF2 := Lib.hid (fill_step HF hl5 hbn)
              obtain ⟨s, hs⟩ : ∃ s, s = srvB (higC cats) a b := ⟨_, rfl⟩
              rw [← hs] at hcall HF2
              have HCALL := Lib.hid hcall
              clear hcall
              clear hZ hbe hs
              go_wp2_with fail
              refine HCALL.out.mono ?_
              rintro e w5 ⟨rfl, hb5⟩
              have hZ5 := HZ3.out.bel hb5
              have z0 : w5.cell? ⟨z, a * 5 + b, none⟩ = some (.bool (f (a * 5 + b))) := hZ5.cell (rowV_at (by omega))
              have zf := hZ5.free (a * 5 + b)
              have HZ5 := Lib.hid (show Blk (w5.setCell ⟨z, a * 5 + b, none⟩ (.bool s)) z (rowV 25 (fun i => if i = a * 5 + b then s else f i)) 41 from by
                have := hZ5.set (j := a * 5 + b) (.bool s)
                rwa [rowV_set] at this)
              have HB4 := Lib.hid ((HB3.out.trans (hb5.mono HB3.out.size)).setCell (p := ⟨z, a * 5 + b, none⟩) hzb (.bool s))
              have a5 : (a : Int) < 5 := by omega
              have b5 : (b : Int) < 5 := by omega
              clear hZ5 hb5 x0 x1 x2 x3
              go_wp2_with fail
              go_roundg (n4 - (b + 1))
              case measure => omega
              case rel => exact ⟨b + 1, _, by omega, by omega, by go_num, HZ5.out, HF2.out, HB4.out⟩
            · obtain rfl : b = n4 := by omega
              have HF2 := Lib.hid (show fillOk (higC cats) b (a + 1) 0 f from fun a' b' hb' h => HF a' b' hb' (by omega))
              have HZ3 := Lib.hid hZ
              have HB3 := Lib.hid hbe
              clear hZ hbe
              go_wp2_with fail
              go_roundg (b - (a + 1))
              case measure => omega
              case rel => exact ⟨a + 1, f, by omega, by omega, by go_num, HZ3.out, HF2.out, HB3.out⟩
        · obtain rfl : a = n4 := by omega
          go_wp2_with fail
          go_meet
          exact ⟨f, HZ2.out, HF, HB2.out⟩
    obtain ⟨f, hZ, HF, hb⟩ := hcut
    have hcel : ∀ (X : World) (a b : Nat), Below wc.heap.size wc X → a < n4 → b < n4 → X.cell? ⟨z, a * 5 + b, none⟩ = some (.bool (srvB (higC cats) a b)) := fun X a b hX ha hbb => by
      have := (hZ.bel hX).cell (rowV_at (f := f) (n := 25) (j := a * 5 + b) (by omega))
      rwa [HF a b hbb (.inl ha)] at this
    have HSL2 := Lib.hid (HSL.out.bel hb)
    have HB6 := Lib.hid (HB5.out.trans (hb.mono HB5.out.size))
    have HCEL := Lib.hid hcel
    clear hcel
    obtain ⟨W2, hW2⟩ : ∃ W2, W2 = wc := ⟨_, rfl⟩
    subst hW2
    clear hZ hb HZ HBZ g0 g1 g2 g3
    have HNS := Lib.hid HSO.out.rnd
    go_upto_block 4 with (fail)
    go_cut [11, 12, 13] (fun _ _ _ wx => Below W2.heap.size W2 wx)
    case first => as_aux_lemma =>
      go_wp2_with fail
      go_loopg [11, 12, 13] n4 (fun gk i _ _ wr => ∃ a : Nat, a ≤ n4 ∧ n4 - a ≤ gk ∧ i = .int .i64 a ∧ Below W2.heap.size W2 wr)
      case atStart => exact ⟨0, Nat.zero_le _, by omega, rfl, Below.refl _ _⟩
      case round =>
        obtain ⟨a, ha, hga, rfl, hbA⟩ := hrel
        have HBA := Lib.hid hbA
        clear hbA
        by_cases han : a < n4
        · go_wp2_with fail
          go_loopg [12, 13] n4 (fun gk i _ wr => ∃ b : Nat, b ≤ n4 ∧ n4 - b ≤ gk ∧ i = .int .i64 b ∧ Below W2.heap.size W2 wr)
          case atStart => exact ⟨0, Nat.zero_le _, by omega, rfl, HBA.out⟩
          case round =>
            obtain ⟨b, hb, hgb, rfl, hbB⟩ := hrel
            have HBB := Lib.hid hbB
            clear hbB
            by_cases hbn : b < n4
            · have a5 : (a : Int) < 5 := by omega
              have b5 : (b : Int) < 5 := by omega
              have z0 := HCEL.out _ a b HBB.out han hbn
              have z1 := HCEL.out _ b a HBB.out hbn han
              have h2 := srv_two HNS.out (a := a) (b := b)
              have h3 := fun c => srv_three (C := higC cats) (a := a) (b := b) (c := c)
              obtain ⟨s, hs⟩ : ∃ s, s = srvB (higC cats) a b := ⟨_, rfl⟩
              obtain ⟨t, ht⟩ : ∃ t, t = srvB (higC cats) b a := ⟨_, rfl⟩
              rw [← hs] at z0 h2 h3
              rw [← ht] at z1 h2
              have hde : ((a : Int) == (b : Int)) = decide (a = b) := by rw [Bool.eq_iff_iff, beq_iff_eq, decide_eq_true_iff]; omega
              have HS0 := Lib.hid hs
              clear hs ht
              cases s
              · clear h2 h3 z1
                go_wp2_with fail
                clear z0
                go_loopg [13] n4 (fun gk i wr => ∃ c : Nat, c ≤ n4 ∧ n4 - c ≤ gk ∧ i = .int .i64 c ∧ Below W2.heap.size W2 wr)
                case atStart => exact ⟨0, Nat.zero_le _, by omega, rfl, HBB.out⟩
                case round =>
                  obtain ⟨c, hc, hgc, rfl, hbC⟩ := hrel
                  have HBC := Lib.hid hbC
                  clear hbC
                  by_cases hcn : c < n4
                  · have z0 := HCEL.out _ a b HBC.out han hbn
                    rw [← HS0.out] at z0
                    go_wp2_with fail
                    go_roundg (n4 - (c + 1))
                    case measure => omega
                    case rel => exact ⟨c + 1, by omega, by omega, by go_num, HBC.out⟩
                  · obtain rfl : c = n4 := by omega
                    go_wp2_with fail
                    go_roundg (c - (b + 1))
                    case measure => omega
                    case rel => exact ⟨b + 1, by omega, by omega, by go_num, HBC.out⟩
              · obtain rfl := and_ne h2
                have H3 := Lib.hid h3
                clear h3
                clear h2
                go_wp2_with fail
                clear z0 z1
                go_loopg [13] n4 (fun gk i wr => ∃ c : Nat, c ≤ n4 ∧ n4 - c ≤ gk ∧ i = .int .i64 c ∧ Below W2.heap.size W2 wr)
                case atStart => exact ⟨0, Nat.zero_le _, by omega, rfl, HBB.out⟩
                case round =>
                  obtain ⟨c, hc, hgc, rfl, hbC⟩ := hrel
                  have HBC := Lib.hid hbC
                  clear hbC
                  by_cases hcn : c < n4
                  · have c5 : (c : Int) < 5 := by omega
                    have z0 := HCEL.out _ a b HBC.out han hbn
                    rw [← HS0.out] at z0
                    have z1 := HCEL.out _ b c HBC.out hbn hcn
                    have z2 := HCEL.out _ a c HBC.out han hcn
                    have h4 := H3.out c trivial
                    obtain ⟨u, hu⟩ : ∃ u, u = srvB (higC cats) b c := ⟨_, rfl⟩
                    rw [← hu] at z1 h4
                    clear hu
                    cases u
                    · clear h4 z2
                      go_wp2_with fail
                      go_roundg (n4 - (c + 1))
                      case measure => omega
                      case rel => exact ⟨c + 1, by omega, by omega, by go_num, HBC.out⟩
                    · rw [h4 rfl] at z2
                      clear h4
                      go_wp2_with fail
                      go_roundg (n4 - (c + 1))
                      case measure => omega
                      case rel => exact ⟨c + 1, by omega, by omega, by go_num, HBC.out⟩
                  · obtain rfl : c = n4 := by omega
                    go_wp2_with fail
                    go_roundg (c - (b + 1))
                    case measure => omega
                    case rel => exact ⟨b + 1, by omega, by omega, by go_num, HBC.out⟩
            · obtain rfl : b = n4 := by omega
              go_wp2_with fail
              go_roundg (b - (a + 1))
              case measure => omega
              case rel => exact ⟨a + 1, by omega, by omega, by go_num, HBB.out⟩
        · obtain rfl : a = n4 := by omega
          go_wp2_with fail
          go_meet
          exact HBA.out
    have HB7 := Lib.hid hcut
    clear hcut
    have HAP := Lib.hid (show ∀ i k, i < k → k < n4 → ∃ a b : Nat, a < n4 ∧ b < n4 ∧ (ordF (higC cats) n4)[i]? = some (a : Int) ∧ (ordF (higC cats) n4)[k]? = some (b : Int) ∧ srvB (higC cats) b a = false from fun i k hik hk => by
      obtain ⟨a, b, h1, h2, h3, h4, h5, h6⟩ := ord_apart HSO.out.ok.inC HSO.out.rnd hik (by rw [HCN.out]; exact hk)
      rw [HCN.out] at h1 h2 h3 h4
      refine ⟨a, b, h1, h2, h3, h4, ?_⟩
      unfold srvB
      rw [decide_eq_false (fun e => h5 e.symm), decide_eq_false h6]; rfl)
    go_wp2_with fail
    go_loopg [14, 15] n4 (fun gk i _ wr => ∃ a : Nat, a ≤ n4 ∧ n4 - a ≤ gk ∧ i = .int .i64 a ∧ Below W2.heap.size W2 wr)
    case atStart => exact ⟨0, Nat.zero_le _, by omega, rfl, HB7.out⟩
    case round =>
      obtain ⟨i, hi, hgi, rfl, hbA⟩ := hrel
      have HBA := Lib.hid hbA
      clear hbA
      by_cases hin : i < n4
      · go_wp2_with fail
        go_loopg [15] n4 (fun gk j wr => ∃ k : Nat, i + 1 ≤ k ∧ k ≤ n4 ∧ n4 - k ≤ gk ∧ j = .int .i64 k ∧ Below W2.heap.size W2 wr)
        case atStart => exact ⟨i + 1, Nat.le_refl _, by omega, by omega, by go_num, HBA.out⟩
        case round =>
          obtain ⟨k, hik, hk, hgk, rfl, hbB⟩ := hrel
          by_cases hkn : k < n4
          · obtain ⟨a, b, ha, hbb, hla, hlb, hab⟩ := HAP.out i k (by omega) hkn
            have z0 := HCEL.out _ b a hbB hbb ha
            rw [hab] at z0
            obtain ⟨bl, off, y, d0, rfl, hy, ⟨hd, _⟩, f0⟩ := (HSL2.out.bel hbB).at1 hin
            simp only [List.cons.injEq, and_true] at hd
            obtain rfl := hd
            obtain rfl : y = (a : Int) := by rw [hla] at hy; injection hy with e; exact e.symm
            obtain ⟨bl', off', y', d1, hA', hy', ⟨hd', _⟩, f1⟩ := (HSL2.out.bel hbB).at1 hkn
            injection hA' with hA'
            injection hA' with e1 e2 _
            subst e1 e2
            simp only [List.cons.injEq, and_true] at hd'
            obtain rfl := hd'
            obtain rfl : y' = (b : Int) := by rw [hlb] at hy'; injection hy' with e; exact e.symm
            have a5 : (a : Int) < 5 := by omega
            have b5 : (b : Int) < 5 := by omega
            have an : ¬ (n4 : Int) ≤ (a : Int) := by omega
            have bn : ¬ (n4 : Int) ≤ (b : Int) := by omega
            have HBB := Lib.hid hbB
            clear hla hlb hy hy' hab hbB
            go_wp2_with fail
            go_quiet (fail)
            go_wp2_with fail
            go_roundg (n4 - (k + 1))
            case measure => omega
            case rel => exact ⟨k + 1, by omega, by omega, by omega, by go_num, below_drewN HBB.out _⟩
          · obtain rfl : k = n4 := by omega
            have HBB := Lib.hid hbB
            clear hbB
            go_wp2_with fail
            go_roundg (k - (i + 1))
            case measure => omega
            case rel => exact ⟨i + 1, by omega, by omega, by go_num, HBB.out⟩
      · obtain rfl : i = n4 := by omega
        go_wp2_with fail
        go_ret
        exact ⟨rfl, HB6.out.trans (HBA.out.mono HB6.out.size)⟩
  · have h0' : (r != 0) = true := by simpa using h0
    rw [okL_ne h0] at hs
    obtain rfl : n4 = 0 := hs.len.symm
    clear h0 hs hG
    go_wp2_with fail
    go_ret
    exact ⟨rfl, hb5⟩
set_option maxRecDepth 100000 in
theorem ShipServes_lifted (os : Os) (started : os.Started) (H : Type) (enc : TypeId × Value → H) :
    ReturnsInHanded {} Try.checked os 5 .any (Rows.shipServesSpec.pre6 enc Try.prog Try.f5 Rows.shipServesRow.domain false) (Rows.shipServesSpec.post enc Try.prog Try.f5 false true false false) := by
  refine returnsInHanded_of_change (C := Try.checked) own started (by kernel_rfl) Try.func5
    (ChangeSpec.witness6 (enc := enc) (C := Try.checked) false ⟨#[], #[.agg #[.int .i64 0, .int .i64 0, .slice none 0 0, .slice none 0 0]], []⟩ 8 (by kernel_rfl) (by kernel_rfl) (by kernel_rfl) (by kernel_rfl)) ?_
  intro W base args ds gs before hval0 hW hcnd _
  have hval : ∀ (j : Nat) t v, Try.f5.params[j]? = some t → args[j]? = some v → Value.okWide Try.prog W .any base t v := hval0
  have hW' := hW
  obtain ⟨p, q, hA0, hV, rfl, hfz, hnd⟩ := hW
  have hA : DataW.TrodAll enc Try.prog W 0 (fun _ => true) true Try.f5.params.toList args.toList ds p := hA0
  rw [Try.params5] at hA hval
  obtain ⟨v0, vs0, d0, ds0, p0, q0, hargs, rfl, rfl, h0, r0⟩ := trodAll_cons hA
  obtain ⟨rfl, rfl, rfl⟩ := trodAll_nil r0
  obtain rfl : args = #[v0] := by cases args; simp_all
  obtain ⟨rfl, rfl⟩ := trodVars_none hV
  have lt0 := arg_lt h0
  have k0 := h0
  obtain ⟨cs0, a0, rfl, w0⟩ := arg_agg (c := shpC) Try.underlying25 opens_shpC (hval 0 25 v0 rfl rfl) h0
  clear hA0 hval0
  refine (ShipServes_walk W cs0 a0 w0).mono fun e W' ⟨he, bel⟩ => ?_
  subst he
  exact ⟨_, rfl, _, _, _, [], _, [], hW', trodAll_mk1 (shut_bool Try.underlying4 _), (trodAll_cons_mk (Below.trod laidOut (by kernel_rfl) (of_decide_eq_true (by kernel_rfl)) k0 bel lt0) trodAll_mk0), rfl, bel.frame _, fun h => by cases h⟩

/-- THE GIVEN STATEMENT ShipServes. -/
theorem shipServes_holds : Rows.ShipServesSaid :=
  OpenClaim.holds_of_wide 5 Try.f5 rfl rfl rfl rfl rfl rfl rfl ⟨rfl, rfl, rfl, rfl, rfl⟩ rfl rfl rfl rfl rfl (by kernel_rfl) Try.func5 (by kernel_rfl)
    (of_decide_eq_true (by kernel_rfl)) (by unfold Func.isWrapper; rw [if_neg (of_decide_eq_false (by kernel_rfl))]; exact ⟨rfl, rfl⟩)
    (fun os started H enc _ => ShipServes_lifted os started H enc)
#print axioms shipServes_holds
end Go.Proofs.Ytpodgidamoiakaa
