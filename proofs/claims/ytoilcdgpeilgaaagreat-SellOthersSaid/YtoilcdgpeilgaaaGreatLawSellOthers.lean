/-
  The law SellOthers returns true, whatever it is handed, and changes nothing that was there.
-/
import Derived.Test.YtoilcdgpeilgaaaGreatBun0
import Derived.Test.YtoilcdgpeilgaaaGreatBun26
import Derived.Test.YtoilcdgpeilgaaaGreatBun30
import Derived.BigQuiet
set_option linter.unusedSimpArgs false
set_option linter.unusedVariables false
namespace Go.Proofs.YtoilcdgpeilgaaaGreat
open Go.ChangeShapes Go.WideShapes Go.ChangeAt Go.RowKit Go.Shelf

set_option maxRecDepth 100000 in
set_option maxHeartbeats 20000000 in
theorem SellOthers_walk (W : World) (cs0 : Array Value) (x : Sai) (hx0 : saiC W All x cs0.toList) (cs1 : Array Value) (b : Bkg) (hb0 : bkgC W All b cs1.toList) :
    Calls Tryz.prog 3 #[.agg cs0, .agg cs1] W fun e w' => e = .returned (.bool true) ∧ Below W.heap.size W w' := by
  obtain ⟨p, rfl, hS, i1, i2, _, _⟩ := sai_in hx0
  obtain ⟨A3, n3, c3, hcs1, hf, hI⟩ := hb0
  obtain rfl : cs1 = bkgA b (.slice A3 n3 c3) := by cases cs1; simp_all
  clear hcs1
  have HNA0 := Lib.hid (fun X hX hF => Named_any x p b A3 n3 c3 X hX hF hI)
  have HPR0 := Lib.hid (fun X hX hF => Promise_any x p b A3 n3 c3 X hX hF hI)
  have hnb : x.bks.length = p.nb := hS.bks.len
  obtain ⟨X1, hX1⟩ : ∃ r, r = sellX x b := ⟨_, rfl⟩
  obtain ⟨e1, he1⟩ : ∃ r, r = sellE x b 1 := ⟨_, rfl⟩
  obtain ⟨e2, he2⟩ : ∃ r, r = sellE x b 2 := ⟨_, rfl⟩
  have HN1 := Lib.hid (show e1 = 0 → Sold x b from fun q => sold_is (he1.symm.trans q))
  have HN2 := Lib.hid (show e2 = 0 → Sold x b from fun q => sold_is (he2.symm.trans q))
  have HX1 := Lib.hid hX1
  have HOS := Lib.hid (fun (q : SaiV) X h1 (h2 : SaiR X X1 q) (hs : Sold x b) => othersStay_any x X1.bks b.id p q X h1 (show SaiR X (bksS x X1.bks) q by rw [show bksS x X1.bks = X1 by rw [hX1]; rfl]; exact h2) (by rw [hX1]; exact hs.oth) (by rw [hX1]; exact Nat.le_trans hs.bd (by decide)))
  rw [show bksS x X1.bks = X1 by rw [hX1]; rfl] at HOS
  rw [← he1, ← hX1] at HNA0
  rw [← he2, ← hX1] at HPR0
  have HS := Lib.hid hS
  have HF := Lib.hid hf
  clear he1 he2 hX1 hS hf hI hx0 i1 i2
  obtain ⟨A, n, cap, B, m, cap2, D, nd, cd, E, ne, ce, C, nb, cb⟩ := p
  simp only at hnb
  have HNB := Lib.hid hnb
  clear hnb
  go_enter Tryz.func3, Tryz.ntmps3
  go_upto_region 0 with (fail)
  go_cut [2, 3, 4] (fun p p2 _ wx => ∃ g h, p = .pointer (some ⟨g, 0, none⟩) ∧ p2 = .pointer (some ⟨h, 0, none⟩) ∧ Blk wx g (saiA x ⟨A, n, cap, B, m, cap2, D, nd, cd, E, ne, ce, C, nb, cb⟩) 32 ∧ Blk wx h (bkgA b (.slice A3 n3 c3)) 37 ∧ Below W.heap.size W wx)
  case first => as_aux_lemma =>
    go_wp2_with fail
    go_meet
    exact ⟨_, _, rfl, rfl, blk2_0 _ _ _, blk2_1 _ _ _, bel2 _ _ _⟩
  obtain ⟨g, h, rfl, rfl, hG, hH, hb0⟩ := hcut
  obtain ⟨W0, hW0⟩ : ∃ V, V = wc := ⟨_, rfl⟩
  subst hW0
  have HT := Lib.hid (fun X (hX : Below W0.heap.size W0 X) => hb0.trans (hX.mono hb0.size))
  have HG := Lib.hid (fun X (hX : Below W0.heap.size W0 X) => hG.bel hX)
  have HH := Lib.hid (fun X (hX : Below W0.heap.size W0 X) => hH.bel hX)
  have HSX := Lib.hid (fun X (hX : Below W0.heap.size W0 X) => HS.out.bel (HT.out X hX))
  have HFX := Lib.hid (fun X (hX : Below W0.heap.size W0 X) => HF.out.bel (HT.out X hX))
  clear hG hH hb0
  go_wp2_with fail
  refine (sellBegun_any _).mono ?_
  rintro e v1 ⟨rfl, hb1⟩
  go_wp2_with fail
  refine (stockBegun_any _).mono ?_
  rintro e v2 ⟨rfl, hb2⟩
  have hb : Below W0.heap.size W0 v2 := hb1.trans (hb2.mono hb1.size)
  clear hb1 hb2
  go_wp2_with fail
  go_loopg [5] 2 (fun gk i wr => ∃ k : Nat, k ≤ 2 ∧ 2 - k ≤ gk ∧ i = .int .i64 k ∧ Below W0.heap.size W0 wr)
  case atStart => exact ⟨0, Nat.zero_le _, by omega, rfl, hb⟩
  case round =>
    clear hb
    obtain ⟨k, hk, hgk, rfl, hb⟩ := hrel
    by_cases hlt : k < 2
    · have hk1 : decide ((k : Int) < 2) = true := decide_eq_true (by omega)
      obtain ⟨w1, hw1⟩ : ∃ V, V = wr := ⟨_, rfl⟩
      subst hw1
      have HC := Lib.hid (HNA0.out _ (HSX.out _ hb) (HFX.out _ hb))
      go_upto_region 6 with (fail)
      go_cut [6, 7] (fun p q wx => ∃ e y p' z, q = .int .i64 e ∧ p = .pointer (some ⟨z, 0, none⟩) ∧ w1.heap.size ≤ z ∧ Blk wx z (saiA y p') 32 ∧ y = okS e X1 ∧ SaiR wx y p' ∧ (e = 0 → Sold x b) ∧ Below w1.heap.size w1 wx)
      case first =>
        go_wp2_with (first | (refine wpList_load_row rfl 32 (.tmp 2) rfl g rfl 32 _ (0, 0) _ (HG.out _ hb) Tryz.underlying32 rfl (by kernel_rfl) ?_) | (refine wpList_load_row rfl 37 (.tmp 3) rfl h rfl 37 _ (0, 0) _ (HH.out _ hb) Tryz.underlying37 rfl (by kernel_rfl) ?_))
        refine HC.out.mono ?_
        rintro e w8 ⟨⟨y, p', rfl, hy, hO⟩, hb8⟩
        have HO8 := Lib.hid hO.sai
        have HY8 := Lib.hid hy
        have HB8 := Lib.hid hb8
        clear hb8
        clear hO hy
        go_wp2_with (refine wpList_store_row rfl 32 (.tmp 6) (.tmp 24) rfl w8.heap.size (saiA y p') rfl rfl 32 _ (Blk.new w8 #[.int .i64 0, .int .i64 0, .slice none 0 0, .slice none 0 0, .slice none 0 0, .int .i64 0, .int .i64 0, .slice none 0 0, .int .i64 0, .int .i64 0, .int .i64 0, .slice none 0 0, .bool false] 32) (by kernel_rfl) rfl (by simp [Value.oneCell']) ?_)
        go_meet
        have hbe : Below w8.heap.size w8 ((w8.alloc (.cells #[.int .i64 0, .int .i64 0, .slice none 0 0, .slice none 0 0, .slice none 0 0, .int .i64 0, .int .i64 0, .slice none 0 0, .int .i64 0, .int .i64 0, .int .i64 0, .slice none 0 0, .bool false] 32)).setRow w8.heap.size (saiA y p')) := below_setRow (bel1 w8 _) (Nat.le_refl _) _
        exact ⟨_, y, p', _, rfl, rfl, HB8.out.size, (Blk.new w8 _ _).row _, HY8.out, HO8.out.bel hbe, HN1.out, HB8.out.trans (hbe.mono HB8.out.size)⟩
      clear HC
      obtain ⟨e, y, p', z, rfl, rfl, hz, hZ, hy, hS1, hso, hbz⟩ := hcut
      have HZ := Lib.hid hZ
      clear hZ
      have HB1 := Lib.hid hb
      clear hb
      obtain ⟨w2, hw2⟩ : ∃ V, V = wc := ⟨_, rfl⟩
      subst hw2
      have hb : Below W0.heap.size W0 w2 := HB1.out.trans (hbz.mono HB1.out.size)
      have HR2 := Lib.hid (And.intro hy (And.intro hS1 (And.intro hso hbz)))
      clear hy hS1 hso hbz
      go_upto_if 27 with (fail)
      go_cut [6, 7] (fun p q wx => ∃ e y p' z, q = .int .i64 e ∧ p = .pointer (some ⟨z, 0, none⟩) ∧ w1.heap.size ≤ z ∧ Blk wx z (saiA y p') 32 ∧ y = okS e X1 ∧ SaiR wx y p' ∧ (e = 0 → Sold x b) ∧ Below w1.heap.size w1 wx)
      case first =>
        by_cases q : k = 1
        · subst q
          have HC := Lib.hid (HPR0.out _ (HSX.out _ hb) (HFX.out _ hb))
          go_wp2_with (first | (refine wpList_load_row rfl 32 (.tmp 2) rfl g rfl 32 _ (0, 0) _ (HG.out _ hb) Tryz.underlying32 rfl (by kernel_rfl) ?_) | (refine wpList_load_row rfl 37 (.tmp 3) rfl h rfl 37 _ (0, 0) _ (HH.out _ hb) Tryz.underlying37 rfl (by kernel_rfl) ?_))
          refine HC.out.mono ?_
          rintro e3 w8 ⟨⟨y3, p3, rfl, hy3, hO⟩, hb8⟩
          have HY8 := Lib.hid hy3
          have HZ8 := Lib.hid (HZ.out.bel hb8)
          have HO8 := Lib.hid hO
          have HB8 := Lib.hid hb8
          clear hb8
          clear hO hy3
          go_wp2_with (refine wpList_store_row rfl 32 (.tmp 6) (.tmp 32) rfl z (saiA y3 p3) rfl rfl 32 _ HZ8.out (by kernel_rfl) rfl (by simp [Value.oneCell']) ?_)
          go_meet
          have hKz : Kept (fun k => k = z) w8 (w8.setRow z (saiA y3 p3)) := (Kept.refl (fun k => k = z) w8).setRow (.inl rfl) _
          have hzl : z < w2.heap.size := HZ.out.lt
          have hb18 : Below w1.heap.size w1 w8 := HR2.out.2.2.2.trans (HB8.out.mono HR2.out.2.2.2.size)
          exact ⟨_, y3, p3, z, rfl, rfl, hz, HZ8.out.row _, HY8.out, (HO8.out.kept hKz (fun k hk e => by omega)).sai, HN2.out, hb18.trans (hKz.below (B := w1.heap.size) hb18.size (fun k hk e => by omega))⟩
        · have q' : ((k : Int) == 1) = false := by simp; omega
          clear q
          go_wp2_with fail
          go_meet
          exact ⟨e, y, p', z, rfl, rfl, hz, HZ.out, HR2.out.1, HR2.out.2.1, HR2.out.2.2.1, HR2.out.2.2.2⟩
      clear HZ HR2 hb hz
      obtain ⟨e, y, p', z, rfl, rfl, hz, hZ, hy, hS1, hso, hbz⟩ := hcut
      obtain ⟨Az, nz, cz, Bz, mz, dz, Dz, ndz, cdz, Ez, nez, cez, Cz, nbz, cbz⟩ := p'
      obtain ⟨w3, hw3⟩ : ∃ V, V = wc := ⟨_, rfl⟩
      subst hw3
      have hb : Below W0.heap.size W0 w3 := HB1.out.trans (hbz.mono HB1.out.size)
      have hlen : y.bks.length = nbz := hS1.bks.len
      have hz11 : w3.cell? ⟨z, 11, none⟩ = some (.slice Cz nbz cbz) := hZ.cell rfl
      have HZX := Lib.hid (fun X (hX : Below w3.heap.size w3 X) => hZ.bel hX)
      have HS1 := Lib.hid (fun X (hX : Below w3.heap.size w3 X) => hS1.bel hX)
      have HB := Lib.hid hb
      clear hZ hS1 hbz
      by_cases he : e = 0
      rotate_left
      · have he' : (e != 0) = true := by simpa using he
        obtain rfl : nbz = 0 := by rw [← hlen, hy, okS_ne he]; rfl
        clear he hso hy hlen
        go_wp2_with fail
        go_roundg (2 - (k + 1))
        case measure => omega
        case rel => exact ⟨k + 1, by omega, by omega, by go_num, by first | exact HB.out | exact below_drewN HB.out _⟩
      subst he
      rw [okS_zero] at hy
      subst hy
      have hs := hso rfl
      obtain ⟨kk, hkk, hkx⟩ := hs.at'
      rw [← HX1.out] at hkk hkx
      have hlen1 := hs.len
      rw [← HX1.out, HNB.out, hlen] at hlen1
      have HNZ := Lib.hid hlen1
      have hkl : kk < nbz := by rw [← hlen]; exact (List.getElem?_eq_some_iff.1 hkx).1
      have hbd := hs.bd
      rw [← HX1.out, hlen] at hbd
      have HBD := Lib.hid hbd
      clear hlen hlen1 hbd
      have hok := hs.ok
      rw [← HX1.out] at hok
      have hfol := hs.fol
      have HSO := Lib.hid hs
      have HKX := Lib.hid hkx
      have h0 : w3.cell? ⟨h, 0, none⟩ = some (.int .i64 b.id) := (HH.out _ hb).cell rfl
      have hz3 : Below w3.heap.size w3 w3 := Below.refl _ _
      have HC := Lib.hid (BookingAt_any y _ b.id w3 (HS1.out _ hz3).bks)
      rw [hkk] at HC
      clear hso hs hkx hz11
      go_upto_region 12 with (fail)
      go_wp2_with (refine wpList_load_row rfl 32 (.tmp 6) rfl z rfl 32 _ (0, 0) _ (HZX.out _ hz3) Tryz.underlying32 rfl (by kernel_rfl) ?_)
      refine HC.out.mono ?_
      rintro e w4 ⟨rfl, hb4⟩
      have hz3 : Below w3.heap.size w3 w4 := hb4
      have HCK := Lib.hid (saiCheck_any y _ w4 (HS1.out _ hz3))
      rw [hok] at HCK
      clear h0 HC
      go_upto_region 13 with (fail)
      go_wp2_with (refine wpList_load_row rfl 32 (.tmp 6) rfl z rfl 32 _ (0, 0) _ (HZX.out _ hz3) Tryz.underlying32 rfl (by kernel_rfl) ?_)
      refine HCK.out.mono ?_
      rintro e w5 ⟨rfl, hb5⟩
      replace hz3 := hz3.trans (hb5.mono hz3.size)
      clear hb hb4 hb5 HCK
      have hb := HB.out.trans (hz3.mono HB.out.size)
      obtain ⟨a0, a1, a2, a3, a4, a5, a6, a7, a8, a9, a10, a11, a12⟩ := saiCells (HG.out _ hb)
      obtain ⟨f0, f1, f2, f3, f4, f5, f6, f7, f8, f9, f10, f11, f12⟩ := saiCells (HZX.out _ hz3)
      have h0 : w5.cell? ⟨h, 0, none⟩ = some (.int .i64 b.id) := (HH.out _ hb).cell rfl
      have hd1 : decide ((kk : Int) < 0) = false := decide_eq_false (by omega)
      have hd2 : wrap64 ((nb : Int) + 1) = (nbz : Int) := by have q1 := HNZ.out; have q2 := HBD.out; unfold wrap64; omega
      have HC := Lib.hid (HOS.out _ w5 (HSX.out _ hb) (HS1.out _ hz3) HSO.out)
      go_wp2_with fail
      refine HC.out.mono ?_
      rintro e w6 ⟨rfl, hb6⟩
      replace hz3 := hz3.trans (hb6.mono hz3.size)
      clear hb hb6 HC h0 a0 a1 a2 a3 a4 a5 a6 a7 a8 a9 a10 a11 a12 f0 f1 f2 f3 f4 f5 f6 f7 f8 f9 f10 f11 f12
      have hb := HB.out.trans (hz3.mono HB.out.size)
      obtain ⟨ab, off, bk, A5, n5, c5, hA, hx2, hF5, -, hcel⟩ := (HS1.out _ hz3).bks.bkg hkl
      simp only at hA
      subst hA
      obtain rfl : soldB x b = bk := by
        have := HKX.out
        rw [hx2] at this; injection this with e; exact e.symm
      have hr1 : w6.rangeAt ab (off + kk * 11) (bkgA (soldB x b) (.slice A5 n5 c5)).toList := hcel
      have HR1 := Lib.hid hr1
      have hz11 : w6.cell? ⟨z, 11, none⟩ = some (.slice (some ⟨ab, off, none⟩) nbz cbz) := (HZX.out _ hz3).cell rfl
      have hj0 : (0 : Int) ≤ (kk : Int) := by omega
      have hj1 : (kk : Int) < (nbz : Int) := by omega
      obtain ⟨V6, hV6⟩ : ∃ V, V = w6 := ⟨_, rfl⟩
      subst hV6
      have HCL := Lib.hid hcel
      have HF5 := Lib.hid hF5
      clear hcel hr1 hx2 hF5
      go_upto_region 15 with (fail)
      go_cut [9] (fun p wx => ∃ q, p = .pointer (some ⟨q, 0, none⟩) ∧ V6.heap.size ≤ q ∧ Blk wx q (bkgA (soldB x b) (.slice A5 n5 c5)) 37 ∧ Below V6.heap.size V6 wx)
      case first => as_aux_lemma =>
        go_wp2_with (first | (refine wpList_load_mid rfl 37 (.tmp 72) rfl ab (off + kk * 11) rfl (bkgA (soldB x b) (.slice A5 n5 c5)).toList _ HR1.out Tryz.underlying37 (by kernel_rfl) (by kernel_rfl) ?_) | (refine wpList_store_row rfl 37 (.tmp 9) (.tmp 73) rfl V6.heap.size (bkgA (soldB x b) (.slice A5 n5 c5)) rfl rfl 37 _ (Blk.new V6 #[.int .i64 0, .int .i64 0, .int .i64 0, .int .i64 0, .bool false, .int .i64 0, .int .i64 0, .int .i64 0, .int .i64 0, .int .i64 0, .slice none 0 0] 37) (by kernel_rfl) rfl (by simp [Value.oneCell']) ?_))
        go_meet
        exact ⟨_, rfl, Nat.le_refl _, (Blk.new V6 _ _).row _, below_setRow (bel1 V6 _) (Nat.le_refl _) _⟩
      obtain ⟨q, rfl, hq, hQ, hbq⟩ := hcut
      clear hz11 HR1
      obtain ⟨w7, hw7⟩ : ∃ V, V = wc := ⟨_, rfl⟩
      subst hw7
      have HQ := Lib.hid hQ
      clear hQ
      have HBQ := Lib.hid hbq
      clear hbq
      go_upto_region 16 with (fail)
      go_cut [9] (fun p wx => p = .pointer (some ⟨q, 0, none⟩) ∧ Blk wx q (bkgA b (.slice none 0 0)) 37 ∧ Below V6.heap.size V6 wx)
      case first => as_aux_lemma =>
        have m10 : w7.cell? ⟨q, 10, none⟩ = some (.slice A5 n5 c5) := HQ.out.cell rfl
        have mf : w7.frozen? ⟨q, 10, none⟩ = false := HQ.out.free 10
        go_wp2_with fail
        go_meet
        exact ⟨rfl, HQ.out.set (j := 10) _, HBQ.out.trans (((Kept.refl (fun k => k = q) w7).setCell (p := ⟨q, 10, none⟩) (.inl rfl) _).below (B := V6.heap.size) HBQ.out.size (fun k hk e => by omega))⟩
      obtain ⟨rfl, hQ2, hbq2⟩ := hcut
      obtain ⟨w8, hw8⟩ : ∃ V, V = wc := ⟨_, rfl⟩
      subst hw8
      replace hz3 := hz3.trans (hbq2.mono hz3.size)
      clear hb
      have hb := HB.out.trans (hz3.mono HB.out.size)
      have HQ2 := Lib.hid hQ2
      have hz11 : w8.cell? ⟨z, 11, none⟩ = some (.slice (some ⟨ab, off, none⟩) nbz cbz) := (HZX.out _ hz3).cell rfl
      have HC := Lib.hid (SameBooking_any b none 0 0 A3 n3 c3 w8 (by rw [hfol]; exact Sl.nil _ _ _ _) (HFX.out _ hb))
      go_upto_region 17 with (fail)
      go_wp2_with (first | (refine wpList_load_row rfl 37 (.tmp 9) rfl q rfl 37 _ (0, 0) _ HQ2.out Tryz.underlying37 rfl (by kernel_rfl) ?_) | (refine wpList_load_row rfl 37 (.tmp 3) rfl h rfl 37 _ (0, 0) _ (HH.out _ hb) Tryz.underlying37 rfl (by kernel_rfl) ?_))
      refine HC.out.mono ?_
      rintro e w9 ⟨rfl, hb9⟩
      have hb69 := hbq2.trans (hb9.mono hbq2.size)
      replace hz3 := hz3.trans (hb9.mono hz3.size)
      clear hb hz11 HC
      have hb := HB.out.trans (hz3.mono HB.out.size)
      have hz11 : w9.cell? ⟨z, 11, none⟩ = some (.slice (some ⟨ab, off, none⟩) nbz cbz) := (HZX.out _ hz3).cell rfl
      have hn5 : n5 = 1 := by have := HF5.out.len; exact this.symm
      have hc5 : w9.cell? ⟨ab, off + kk * 11 + 10, none⟩ = some (.slice A5 n5 c5) := cellB hb69 (HCL.out 10 _ rfl)
      subst hn5
      go_wp2_with fail
      go_roundg (2 - (k + 1))
      case measure => omega
      case rel => exact ⟨k + 1, by omega, by omega, by go_num, by first | exact hb | exact below_drewN hb _⟩
    · obtain rfl : k = 2 := by omega
      go_wp2_with fail
      go_ret
      exact ⟨rfl, HT.out _ hb⟩
set_option maxRecDepth 100000 in
theorem SellOthers_lifted (os : Os) (started : os.Started) (H : Type) (enc : TypeId × Value → H) :
    ReturnsInHanded {} Tryz.checked os 3 .any (Rows.sellOthersSpec.pre6 enc Tryz.prog Tryz.f3 Rows.sellOthersRow.domain false) (Rows.sellOthersSpec.post enc Tryz.prog Tryz.f3 false true false false) := by
  refine returnsInHanded_of_change (C := Tryz.checked) own started (by kernel_rfl) Tryz.func3
    (ChangeSpec.witness6 (enc := enc) (C := Tryz.checked) false ⟨#[], #[.agg #[.int .i64 0, .int .i64 0, .slice none 0 0, .slice none 0 0, .slice none 0 0, .int .i64 0, .int .i64 0, .slice none 0 0, .int .i64 0, .int .i64 0, .int .i64 0, .slice none 0 0, .bool false], .agg #[.int .i64 0, .int .i64 0, .int .i64 0, .int .i64 0, .bool false, .int .i64 0, .int .i64 0, .int .i64 0, .int .i64 0, .int .i64 0, .slice none 0 0]], []⟩ 8 (by kernel_rfl) (by kernel_rfl) (by kernel_rfl) (by kernel_rfl)) ?_
  intro W base args ds gs before hval0 hW hcnd _
  have hval : ∀ (j : Nat) t v, Tryz.f3.params[j]? = some t → args[j]? = some v → Value.okWide Tryz.prog W .any base t v := hval0
  have hW' := hW
  obtain ⟨p, q, hA0, hV, rfl, hfz, hnd⟩ := hW
  have hA : DataW.TrodAll enc Tryz.prog W 0 (fun _ => true) true Tryz.f3.params.toList args.toList ds p := hA0
  rw [Tryz.params3] at hA hval
  obtain ⟨v0, vs0, d0, ds0, p0, q0, hargs, rfl, rfl, h0, r0⟩ := trodAll_cons hA
  obtain ⟨v1, vs1, d1, ds1, p1, q1, rfl, rfl, rfl, h1, r1⟩ := trodAll_cons r0
  obtain ⟨rfl, rfl, rfl⟩ := trodAll_nil r1
  obtain rfl : args = #[v0, v1] := by cases args; simp_all
  obtain ⟨rfl, rfl⟩ := trodVars_none hV
  have lt0 := arg_lt h0
  have k0 := h0
  obtain ⟨cs0, a0, rfl, w0⟩ := arg_agg (c := saiC) Tryz.underlying32 opens_saiC (hval 0 32 v0 rfl rfl) h0
  have lt1 := arg_lt h1
  have k1 := h1
  obtain ⟨cs1, a1, rfl, w1⟩ := arg_agg (c := bkgC) Tryz.underlying37 opens_bkgC (hval 1 37 v1 rfl rfl) h1
  clear hA0 hval0
  refine (SellOthers_walk W cs0 a0 w0 cs1 a1 w1).mono fun e W' ⟨he, bel⟩ => ?_
  subst he
  exact ⟨_, rfl, _, _, _, [], _, [], hW', trodAll_mk1 (shut_bool Tryz.underlying4 _), (trodAll_cons_mk (Below.trod laidOut (by kernel_rfl) (of_decide_eq_true (by kernel_rfl)) k0 bel lt0) (trodAll_cons_mk (Below.trod laidOut (by kernel_rfl) (of_decide_eq_true (by kernel_rfl)) k1 bel lt1) trodAll_mk0)), rfl, bel.frame _, fun h => by cases h⟩

theorem SellOthers_fit1 : (Rows.sellOthersRow.wf (OpenSpec.ofChange Rows.sellOthersSpec) && Tryz.f3.params.all (Tryz.prog.readableRec ·) && namedTie Tryz.prog Rows.sellOthersRow.named Rows.sellOthersSpec.vars && (Rows.sellOthersRow.stops == []) && (Tryz.prog.stops == []) && (Rows.sellOthersRow.knobs == []) && (Tryz.prog.stopKnobs == [])) = true := by kernel_rfl
theorem SellOthers_fit2 : ((Rows.sellOthersRow.inPlace == Tryz.prog.inPlace 3) && (Rows.sellOthersRow.unfollowed == Tryz.prog.unfollowed 3) && (Rows.sellOthersRow.recurses == Tryz.prog.recurses 3) && (Rows.sellOthersRow.named == Tryz.prog.varsNamed 3)) = true := by kernel_rfl
theorem SellOthers_fit3 : ((Rows.sellOthersRow.maps == (Tryz.f3.params.toList ++ Rows.sellOthersSpec.plain.varTypes Tryz.prog).any (Tryz.prog.mapsRec ·)) && (Rows.sellOthersRow.ifaces == (Tryz.f3.params.toList ++ Rows.sellOthersSpec.plain.varTypes Tryz.prog).any (Tryz.prog.ifacesRec ·)) && (Rows.sellOthersRow.mapsOut == Tryz.prog.mapsAmong Tryz.f3.resultTypes.toList) && (Rows.sellOthersRow.loops == (Tryz.f3.params.toList ++ Rows.sellOthersSpec.plain.varTypes Tryz.prog).any (Tryz.prog.loopsFrom ·)) && (Rows.sellOthersRow.wideKeys == (Tryz.f3.params.toList ++ Rows.sellOthersSpec.plain.varTypes Tryz.prog ++ Tryz.f3.resultTypes.toList).any (Tryz.prog.wideKeysFrom ·)) &&
    Rows.sellOthersSpec.vars.all (Tryz.prog.varReadable ·) && Tryz.f3.resultTypes.all (fun t => Tryz.prog.readableRec t && decide (t < Tryz.prog.types.size)) && (Rows.sellOthersRow.ifacesOut == Tryz.f3.resultTypes.toList.any (Tryz.prog.ifacesRec ·)) && (Rows.sellOthersRow.loopsOut == Tryz.f3.resultTypes.toList.any (Tryz.prog.loopsFrom ·)) && (Rows.sellOthersRow.plainKeys == Tryz.prog.plainKeys) && Rows.sellOthersRow.shortTexts.isNone) = true := by kernel_rfl
theorem SellOthers_fit4 : ((Rows.sellOthersRow.lifted == Tryz.prog.liftsFinal) && (Tryz.prog.make == some Rows.sellOthersRow.make)) = true := by kernel_rfl
theorem SellOthers_fit5 : ((Rows.sellOthersRow.kinds == (if Rows.sellOthersRow.domain.isEmpty then [] else Tryz.f3.params.toList.map fun t => match Tryz.prog.underlying t with | some (.int k) => some k | _ => none)) && (Rows.sellOthersRow.pinned == Rows.sellOthersRow.pinnedBy) && (Rows.sellOthersRow.veiled == (Tryz.f3.params.toList ++ Rows.sellOthersSpec.plain.varTypes Tryz.prog ++ Tryz.f3.resultTypes.toList).any (Tryz.prog.veiledRec ·)) && Rows.sellOthersRow.veiledFits Tryz.prog Tryz.f3.params.toList (Tryz.f3.params.toList ++ Rows.sellOthersSpec.plain.varTypes Tryz.prog ++ Tryz.f3.resultTypes.toList)) = true := by kernel_rfl

set_option maxRecDepth 100000 in
/-- THE GIVEN STATEMENT SellOthers. -/
theorem sellOthers_holds : Rows.SellOthersSaid :=
  OpenClaim.holds_of_wide 3 Tryz.f3 rfl rfl rfl rfl rfl rfl rfl ⟨rfl, rfl, rfl, rfl, rfl⟩ rfl rfl rfl rfl rfl (by kernel_rfl) Tryz.func3
    (joined_of SellOthers_fit1 fit_laid fit_rows SellOthers_fit2 SellOthers_fit3 fit_heard fit_enter SellOthers_fit4 SellOthers_fit5)
    (of_decide_eq_true (by kernel_rfl)) (by unfold Func.isWrapper; rw [if_neg (of_decide_eq_false (by kernel_rfl))]; exact ⟨rfl, rfl⟩)
    (fun os started H enc _ => SellOthers_lifted os started H enc)
#print axioms sellOthers_holds
end Go.Proofs.YtoilcdgpeilgaaaGreat
