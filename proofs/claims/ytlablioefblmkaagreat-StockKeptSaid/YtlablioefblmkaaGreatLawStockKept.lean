/-
  The law StockKept returns true, whatever it is handed, and changes nothing that was there.
-/
import Derived.Test.YtlablioefblmkaaGreatBun30
import Derived.Test.YtlablioefblmkaaGreatBun36
import Derived.BigQuiet
set_option linter.unusedSimpArgs false
set_option linter.unusedVariables false
namespace Go.Proofs.YtlablioefblmkaaGreat
open Go.ChangeShapes Go.WideShapes Go.ChangeAt Go.RowKit Go.Shelf

set_option maxRecDepth 100000 in
set_option maxHeartbeats 20000000 in
theorem StockKept_walk (W : World) (cs0 : Array Value) (x : Sai) (hx0 : saiC W All x cs0.toList) :
    Calls Tryz.prog 5 #[.agg cs0] W fun e w' => e = .returned (.bool true) ∧ Below W.heap.size W w' := by
  obtain ⟨p, rfl, hS, i1, i2, _, _⟩ := sai_in hx0
  have hCK := fun W h => saiCheck_any x p W h
  have HPR := Lib.hid (fun W h => Promises_any x p W h)
  obtain ⟨r, hr⟩ : ∃ r, r = saiE x := ⟨_, rfl⟩
  rw [← hr] at hCK
  have HCK := Lib.hid hCK
  clear hCK
  have HR := Lib.hid hr
  clear hr
  have HS := Lib.hid hS
  clear hS
  obtain ⟨A, n, cap, B, m, cap2, D, nd, cd, E, ne, ce, C, nb, cb⟩ := p
  go_enter Tryz.func5, Tryz.ntmps5
  go_upto_region 0 with (fail)
  go_cut [1, 2] (fun q _ wx => ∃ g, q = .pointer (some ⟨g, 0, none⟩) ∧ Blk wx g (saiA x ⟨A, n, cap, B, m, cap2, D, nd, cd, E, ne, ce, C, nb, cb⟩) 32 ∧ Below W.heap.size W wx)
  case first => as_aux_lemma =>
    go_wp2_with fail
    go_meet
    exact ⟨_, rfl, blk1 _ _, bel1 _ _⟩
  obtain ⟨g, rfl, hG, hbw⟩ := hcut
  go_wp2_with fail
  refine (stockBegun_any _).mono ?_
  rintro e w1 ⟨rfl, hb1⟩
  replace hG := hG.bel hb1
  replace hbw := hbw.trans (hb1.mono hbw.size)
  clear hb1
  go_wp2_with fail
  refine (matchBegun_any _).mono ?_
  rintro e w2 ⟨rfl, hb1⟩
  replace hG := hG.bel hb1
  replace hbw := hbw.trans (hb1.mono hbw.size)
  clear hb1
  go_wp2_with fail
  refine (bookBegun_any _).mono ?_
  rintro e w3 ⟨rfl, hb1⟩
  replace hG := hG.bel hb1
  replace hbw := hbw.trans (hb1.mono hbw.size)
  clear hb1
  have s0 : w3.cell? ⟨g, 0, none⟩ = some (.int .i64 x.ship.legs) := hG.cell rfl
  have s1 : w3.cell? ⟨g, 1, none⟩ = some (.int .i64 x.ship.souls) := hG.cell rfl
  have s2 : w3.cell? ⟨g, 2, none⟩ = some (.slice A n cap) := hG.cell rfl
  have s3 : w3.cell? ⟨g, 3, none⟩ = some (.slice B m cap2) := hG.cell rfl
  have s4 : w3.cell? ⟨g, 4, none⟩ = some (.slice D nd cd) := hG.cell rfl
  have s5 : w3.cell? ⟨g, 5, none⟩ = some (.int .i64 x.fares.alone) := hG.cell rfl
  have s6 : w3.cell? ⟨g, 6, none⟩ = some (.int .i64 x.fares.third) := hG.cell rfl
  have s7 : w3.cell? ⟨g, 7, none⟩ = some (.slice E ne ce) := hG.cell rfl
  have s8 : w3.cell? ⟨g, 8, none⟩ = some (.int .i64 x.fares.down) := hG.cell rfl
  have s9 : w3.cell? ⟨g, 9, none⟩ = some (.int .i64 x.day) := hG.cell rfl
  have s10 : w3.cell? ⟨g, 10, none⟩ = some (.int .i64 x.leaves) := hG.cell rfl
  have s11 : w3.cell? ⟨g, 11, none⟩ = some (.slice C nb cb) := hG.cell rfl
  have s12 : w3.cell? ⟨g, 12, none⟩ = some (.bool x.closed) := hG.cell rfl
  have HCALL := Lib.hid (HCK.out w3 (HS.out.bel hbw))
  go_wp2_with fail
  refine HCALL.out.mono ?_
  rintro e w4 ⟨rfl, hb2⟩
  replace hG := hG.bel hb2
  replace hbw := hbw.trans (hb2.mono hbw.size)
  clear hb2 s0 s1 s2 s3 s4 s5 s6 s7 s8 s9 s10 s11 s12 HCALL HCK
  by_cases h0 : r = 0
  rotate_left
  · have h0' : (r != 0) = true := by simpa using h0
    clear h0 hG
    go_wp2_with fail
    go_ret
    exact ⟨rfl, hbw⟩
  have H0 := Lib.hid (HR.out.symm.trans h0)
  have HOK := Lib.hid (sai_ok H0.out)
  subst h0
  have s0 : w4.cell? ⟨g, 0, none⟩ = some (.int .i64 x.ship.legs) := hG.cell rfl
  have s1 : w4.cell? ⟨g, 1, none⟩ = some (.int .i64 x.ship.souls) := hG.cell rfl
  have s2 : w4.cell? ⟨g, 2, none⟩ = some (.slice A n cap) := hG.cell rfl
  have s3 : w4.cell? ⟨g, 3, none⟩ = some (.slice B m cap2) := hG.cell rfl
  have s4 : w4.cell? ⟨g, 4, none⟩ = some (.slice D nd cd) := hG.cell rfl
  have s5 : w4.cell? ⟨g, 5, none⟩ = some (.int .i64 x.fares.alone) := hG.cell rfl
  have s6 : w4.cell? ⟨g, 6, none⟩ = some (.int .i64 x.fares.third) := hG.cell rfl
  have s7 : w4.cell? ⟨g, 7, none⟩ = some (.slice E ne ce) := hG.cell rfl
  have s8 : w4.cell? ⟨g, 8, none⟩ = some (.int .i64 x.fares.down) := hG.cell rfl
  have s9 : w4.cell? ⟨g, 9, none⟩ = some (.int .i64 x.day) := hG.cell rfl
  have s10 : w4.cell? ⟨g, 10, none⟩ = some (.int .i64 x.leaves) := hG.cell rfl
  have s11 : w4.cell? ⟨g, 11, none⟩ = some (.slice C nb cb) := hG.cell rfl
  have s12 : w4.cell? ⟨g, 12, none⟩ = some (.bool x.closed) := hG.cell rfl
  have hpr := HPR.out w4 (HS.out.bel hbw)
  simp only [H0.out, okL_zero] at hpr
  have HCALL := Lib.hid hpr
  clear hpr
  go_wp2_with fail
  refine HCALL.out.mono ?_
  rintro e w5 ⟨v1, v2, xs1, xs2, rfl, hO1, hO2, hb2⟩
  obtain ⟨A1, n1, c1, rfl, hs1⟩ := hO1.sl intC_good
  obtain ⟨A2, n2, c2, rfl, hs2⟩ := hO2.sl edgC_good
  replace hs2 := hs2.all edgC_good (by omega)
  have hn1 := hs1.len
  replace hG := hG.bel hb2
  replace hbw := hbw.trans (hb2.mono hbw.size)
  clear hb2 s0 s1 s2 s3 s4 s5 s6 s7 s8 s9 s10 s11 s12 HCALL HPR hO1 hO2 hs1
  have hm1 := HS.out.cabs.len
  have hm12 := HOK.out.bs.ship.cabs12
  simp only at hm1
  have hmo := Most_any (n1 : Int) (m : Int) A2 n2 c2 (edgL x) w5 hs2
  have hgr : grE (n1 : Int) (m : Int) (edgL x) = 0 := by rw [← hn1, ← hm1]; exact edgL_gr (Nat.le_trans (idsL_len x) HOK.out.bs.len) (by omega)
  rw [hgr] at hmo
  have HCALL := Lib.hid hmo
  clear hmo
  have HN1 := Lib.hid hn1
  clear hn1
  have HM1 := Lib.hid hm1
  clear hm1
  have HGR := Lib.hid hgr
  clear hgr
  have s3 : w5.cell? ⟨g, 3, none⟩ = some (.slice B m cap2) := hG.cell rfl
  have hmb := HS.out.cabs.bd
  simp only at hmb
  clear hs2 hm12
  go_wp2_with fail
  refine HCALL.out.mono ?_
  rintro e w6 ⟨v3, ml, xs3, rfl, hO3, hMO, hb2⟩
  obtain ⟨A3, n3, c3, rfl, hs3⟩ := hO3.sl edgC_good
  have hn3 : n3 = n1 := by rw [← hs3.len, ← HN1.out]; exact kept_size HOK.out.room (Nat.le_trans (idsL_len x) HOK.out.bs.len) (by rw [HM1.out]; have := HOK.out.bs.ship.cabs12; have := HM1.out; omega) (by rw [HN1.out, HM1.out]; exact hMO)
  subst hn3
  replace hG := hG.bel hb2
  replace hbw := hbw.trans (hb2.mono hbw.size)
  clear hb2 s3 HCALL hO3 hs3 hMO
  have s0 : w6.cell? ⟨g, 0, none⟩ = some (.int .i64 x.ship.legs) := hG.cell rfl
  have s1 : w6.cell? ⟨g, 1, none⟩ = some (.int .i64 x.ship.souls) := hG.cell rfl
  have s2 : w6.cell? ⟨g, 2, none⟩ = some (.slice A n cap) := hG.cell rfl
  have s3 : w6.cell? ⟨g, 3, none⟩ = some (.slice B m cap2) := hG.cell rfl
  have s4 : w6.cell? ⟨g, 4, none⟩ = some (.slice D nd cd) := hG.cell rfl
  have s5 : w6.cell? ⟨g, 5, none⟩ = some (.int .i64 x.fares.alone) := hG.cell rfl
  have s6 : w6.cell? ⟨g, 6, none⟩ = some (.int .i64 x.fares.third) := hG.cell rfl
  have s7 : w6.cell? ⟨g, 7, none⟩ = some (.slice E ne ce) := hG.cell rfl
  have s8 : w6.cell? ⟨g, 8, none⟩ = some (.int .i64 x.fares.down) := hG.cell rfl
  have s9 : w6.cell? ⟨g, 9, none⟩ = some (.int .i64 x.day) := hG.cell rfl
  have s10 : w6.cell? ⟨g, 10, none⟩ = some (.int .i64 x.leaves) := hG.cell rfl
  have s11 : w6.cell? ⟨g, 11, none⟩ = some (.slice C nb cb) := hG.cell rfl
  have s12 : w6.cell? ⟨g, 12, none⟩ = some (.bool x.closed) := hG.cell rfl
  have hnb := HS.out.bks.len
  have h16 := HOK.out.bs.len
  simp only at hnb
  have hnb16 : nb ≤ 16 := by omega
  have HCALL := Lib.hid (Souls_any x.ship A n cap B m cap2 C nb cb x.bks w6 (HS.out.bel hbw).cats (HS.out.bel hbw).cabs (HS.out.bel hbw).bks (by omega))
  have HNB := Lib.hid hnb
  clear hnb h16
  go_wp2_with fail
  refine HCALL.out.mono ?_
  rintro e w7 ⟨v4, xs4, rfl, hO4, hb2⟩
  obtain ⟨A4, n4, c4, rfl, hs4⟩ := hO4.sl intC_good
  replace hs4 := hs4.all intC_good (by omega)
  replace hG := hG.bel hb2
  replace hbw := hbw.trans (hb2.mono hbw.size)
  clear hb2 s0 s1 s2 s3 s4 s5 s6 s7 s8 s9 s10 s11 s12 HCALL hO4
  have HSU := Lib.hid (kept_sulE H0.out)
  obtain ⟨se, hse⟩ : ∃ q, q = sulE x.ship x.bks := ⟨_, rfl⟩
  rw [← hse] at HSU hs4
  rw [← hse]
  have HL4 := Lib.hid (show ∀ s ∈ okL se (soulL x.bks x.ship.legs.toNat), s ≤ x.ship.souls from fun s hs => by
    by_cases h : se = 0
    · rw [h, okL_zero] at hs
      exact kept_souls HOK.out.room s hs
    · rw [okL_ne h] at hs
      simp at hs)
  obtain ⟨L4, hL4⟩ : ∃ q, q = okL se (soulL x.bks x.ship.legs.toNat) := ⟨_, rfl⟩
  rw [← hL4] at HL4 hs4
  clear hse hL4
  obtain ⟨W7, hW7⟩ : ∃ V, V = w7 := ⟨_, rfl⟩
  subst hW7
  have hn4 := hs4.bd
  have HG := Lib.hid hG
  clear hG
  have HL := Lib.hid hs4
  clear hs4
  have HBW := Lib.hid hbw
  clear hbw
  go_upto_region 8 with (fail)
  go_cut [75] (fun b wx => b = .bool false ∧ wx = W7)
  case first => as_aux_lemma =>
    rcases HSU.out with h | h
    · subst h
      go_wp2_with fail
      go_meet
      exact ⟨rfl, rfl⟩
    · subst h
      go_wp2_with fail
      go_meet
      exact ⟨rfl, rfl⟩
  obtain ⟨rfl, hwc⟩ := hcut
  subst hwc
  go_wp2_with fail
  go_loopg [10] n4 (fun gk i wr => ∃ k : Nat, k ≤ n4 ∧ n4 - k ≤ gk ∧ i = .int .i64 k ∧ Below wc.heap.size wc wr)
  case atStart => exact ⟨0, Nat.zero_le _, by omega, rfl, Below.refl _ _⟩
  case round =>
    obtain ⟨k, hk, hgk, rfl, hbk⟩ := hrel
    by_cases hlt : k < n4
    · obtain ⟨ab, off, y, c0, rfl, hy, ⟨hc0, _⟩, g0⟩ := (HL.out.bel hbk).at1 hlt
      obtain rfl : c0 = .int .i64 y := by simpa using hc0
      have hsl := HL4.out y (List.mem_of_getElem? hy)
      have hd : decide (x.ship.souls < y) = false := decide_eq_false (by omega)
      have s1 : wr.cell? ⟨g, 1, none⟩ = some (.int .i64 x.ship.souls) := (HG.out.bel hbk).cell rfl
      have hk0 : (0 : Int) ≤ (k : Int) := Int.natCast_nonneg _
      have hk1 : (k : Int) < (n4 : Int) := by omega
      clear hy hsl hc0
      go_wp2_with fail
      go_quiet (fail)
      go_wp2_with fail
      go_roundg (n4 - (k + 1))
      case measure => omega
      case rel => exact ⟨k + 1, by omega, by omega, by go_num, by first | exact hbk.drew | exact below_drewN hbk _ | exact hbk⟩
    · obtain rfl : k = n4 := by omega
      have hG := HG.out.bel hbk
      have hbw := HBW.out.trans (hbk.mono HBW.out.size)
      clear HG HBW HL HL4 hbk hgk hk hlt hn4 HSU
      obtain ⟨W8, hW8⟩ : ∃ V, V = wr := ⟨_, rfl⟩
      subst hW8
      have HG := Lib.hid hG
      clear hG
      have HBW := Lib.hid hbw
      clear hbw
      have hnbb : (nb : Int) ≤ 16 := by omega
      go_wp2_with fail
      go_loopg [11] nb (fun gk i wr => ∃ k : Nat, k ≤ nb ∧ nb - k ≤ gk ∧ i = .int .i64 k ∧ Below W8.heap.size W8 wr)
      case atStart => exact ⟨0, Nat.zero_le _, by omega, rfl, Below.refl _ _⟩
      case round =>
        obtain ⟨k, hk, hgk, rfl, hbk⟩ := hrel
        have hG := HG.out.bel hbk
        have s11 : wr.cell? ⟨g, 11, none⟩ = some (.slice C nb cb) := hG.cell rfl
        by_cases hlt : k < nb
        · have hbw := HBW.out.trans (hbk.mono HBW.out.size)
          obtain ⟨W9, hW9⟩ : ∃ V, V = wr := ⟨_, rfl⟩
          subst hW9
          have HB9 := Lib.hid hbk
          have HBW9 := Lib.hid hbw
          have HG9 := Lib.hid hG
          clear hbk hbw hG
          go_wp2_with fail
          go_loopg [12] k (fun gk i wr => ∃ j : Nat, j ≤ k ∧ k - j ≤ gk ∧ i = .int .i64 j ∧ Below W9.heap.size W9 wr)
          case atStart => exact ⟨0, Nat.zero_le _, by omega, rfl, Below.refl _ _⟩
          case round =>
            obtain ⟨j, hj, hgj, rfl, hbj⟩ := hrel
            by_cases hjk : j < k
            · have hbw := HBW9.out.trans (hbj.mono HBW9.out.size)
              obtain ⟨ab, off, ⟨id, kind, state, gst, lev, cab, cat, frm, upto, til, fol⟩, A5, n5, c5, hA, hx, hF, hI, hcel⟩ := (HS.out.bel hbw).bks.bkg hlt
              obtain ⟨ab2, off2, ⟨id', kind', state', gst', lev', cab', cat', frm', upto', til', fol'⟩, A5', n5', c5', hA2, hx2, hF2, hI2, hcel2⟩ := (HS.out.bel hbw).bks.bkg (k := j) (by omega : j < nb)
              simp only at hA hA2
              rw [hA] at hA2
              simp only [Option.some.injEq, Addr.mk.injEq, and_true] at hA2
              obtain ⟨rfl, rfl⟩ := hA2
              have hG := HG9.out.bel hbj
              have HX := Lib.hid hx
              have HX2 := Lib.hid hx2
              have HI7 := Lib.hid (show (InI frm ∧ InI upto) ∧ InI frm' ∧ InI upto' from ⟨⟨hI.frm, hI.upto⟩, hI2.frm, hI2.upto⟩)
              have l11 : wr.cell? ⟨g, 11, none⟩ = some (.slice (some ⟨ab, off, none⟩) nb cb) := by rw [← hA]; exact hG.cell rfl
              have hk0 : (0 : Int) ≤ (k : Int) := Int.natCast_nonneg _
              have hk1 : (k : Int) < (nb : Int) := by omega
              have hj0 : (0 : Int) ≤ (j : Int) := Int.natCast_nonneg _
              have hj1 : (j : Int) < (nb : Int) := by omega
              have hjk1 : decide ((j : Int) < (k : Int)) = true := decide_eq_true (by omega)
              obtain ⟨W10, hW10⟩ : ∃ V, V = wr := ⟨_, rfl⟩
              subst hW10
              have HSX := Lib.hid (show ∀ X, Below W10.heap.size W10 X → (fun w' => w'.cell? ⟨g, 11, none⟩ = some (.slice (some ⟨ab, off, none⟩) nb cb) ∧ (w'.cell? ⟨ab, off + k * 11, none⟩ = some (.int .i64 id) ∧ w'.cell? ⟨ab, off + k * 11 + 1, none⟩ = some (.int .i64 kind) ∧ w'.cell? ⟨ab, off + k * 11 + 2, none⟩ = some (.int .i64 state) ∧ w'.cell? ⟨ab, off + k * 11 + 3, none⟩ = some (.int .i64 gst) ∧ w'.cell? ⟨ab, off + k * 11 + 4, none⟩ = some (.bool lev) ∧ w'.cell? ⟨ab, off + k * 11 + 5, none⟩ = some (.int .i64 cab) ∧ w'.cell? ⟨ab, off + k * 11 + 6, none⟩ = some (.int .i64 cat) ∧ w'.cell? ⟨ab, off + k * 11 + 7, none⟩ = some (.int .i64 frm) ∧ w'.cell? ⟨ab, off + k * 11 + 8, none⟩ = some (.int .i64 upto) ∧ w'.cell? ⟨ab, off + k * 11 + 9, none⟩ = some (.int .i64 til) ∧ w'.cell? ⟨ab, off + k * 11 + 10, none⟩ = some (.slice A5 n5 c5)) ∧ w'.cell? ⟨ab, off + j * 11, none⟩ = some (.int .i64 id') ∧ w'.cell? ⟨ab, off + j * 11 + 1, none⟩ = some (.int .i64 kind') ∧ w'.cell? ⟨ab, off + j * 11 + 2, none⟩ = some (.int .i64 state') ∧ w'.cell? ⟨ab, off + j * 11 + 3, none⟩ = some (.int .i64 gst') ∧ w'.cell? ⟨ab, off + j * 11 + 4, none⟩ = some (.bool lev') ∧ w'.cell? ⟨ab, off + j * 11 + 5, none⟩ = some (.int .i64 cab') ∧ w'.cell? ⟨ab, off + j * 11 + 6, none⟩ = some (.int .i64 cat') ∧ w'.cell? ⟨ab, off + j * 11 + 7, none⟩ = some (.int .i64 frm') ∧ w'.cell? ⟨ab, off + j * 11 + 8, none⟩ = some (.int .i64 upto') ∧ w'.cell? ⟨ab, off + j * 11 + 9, none⟩ = some (.int .i64 til') ∧ w'.cell? ⟨ab, off + j * 11 + 10, none⟩ = some (.slice A5' n5' c5')) X from fun X hX => ⟨cellB hX l11, ⟨cellB hX (hcel 0 _ rfl), cellB hX (hcel 1 _ rfl), cellB hX (hcel 2 _ rfl), cellB hX (hcel 3 _ rfl), cellB hX (hcel 4 _ rfl), cellB hX (hcel 5 _ rfl), cellB hX (hcel 6 _ rfl), cellB hX (hcel 7 _ rfl), cellB hX (hcel 8 _ rfl), cellB hX (hcel 9 _ rfl), cellB hX (hcel 10 _ rfl)⟩, cellB hX (hcel2 0 _ rfl), cellB hX (hcel2 1 _ rfl), cellB hX (hcel2 2 _ rfl), cellB hX (hcel2 3 _ rfl), cellB hX (hcel2 4 _ rfl), cellB hX (hcel2 5 _ rfl), cellB hX (hcel2 6 _ rfl), cellB hX (hcel2 7 _ rfl), cellB hX (hcel2 8 _ rfl), cellB hX (hcel2 9 _ rfl), cellB hX (hcel2 10 _ rfl)⟩)
              clear hx hx2 hF hF2 hI hI2 hcel hcel2 l11 s11 hG
              have HBJ := Lib.hid hbj
              clear hbj
              have HAA := Lib.hid hA
              clear hA
              have hbx : Below W10.heap.size W10 W10.drew := (Below.refl _ W10).drew
              go_upto_region 21 with (fail)
              go_cut [13, 14] (fun p1 p2 wx => ∃ y1 y2, p1 = .pointer (some ⟨y1, 0, none⟩) ∧ p2 = .pointer (some ⟨y2, 0, none⟩) ∧ Blk wx y1 (bkgA ⟨id, kind, state, gst, lev, cab, cat, frm, upto, til, fol⟩ (.slice A5 n5 c5)) 42 ∧ Blk wx y2 (bkgA ⟨id', kind', state', gst', lev', cab', cat', frm', upto', til', fol'⟩ (.slice A5' n5' c5')) 42 ∧ Below W10.heap.size W10 wx)
              case first =>
                refine wp_region_held_drew (S := (fun w' => w'.cell? ⟨g, 11, none⟩ = some (.slice (some ⟨ab, off, none⟩) nb cb) ∧ (w'.cell? ⟨ab, off + k * 11, none⟩ = some (.int .i64 id) ∧ w'.cell? ⟨ab, off + k * 11 + 1, none⟩ = some (.int .i64 kind) ∧ w'.cell? ⟨ab, off + k * 11 + 2, none⟩ = some (.int .i64 state) ∧ w'.cell? ⟨ab, off + k * 11 + 3, none⟩ = some (.int .i64 gst) ∧ w'.cell? ⟨ab, off + k * 11 + 4, none⟩ = some (.bool lev) ∧ w'.cell? ⟨ab, off + k * 11 + 5, none⟩ = some (.int .i64 cab) ∧ w'.cell? ⟨ab, off + k * 11 + 6, none⟩ = some (.int .i64 cat) ∧ w'.cell? ⟨ab, off + k * 11 + 7, none⟩ = some (.int .i64 frm) ∧ w'.cell? ⟨ab, off + k * 11 + 8, none⟩ = some (.int .i64 upto) ∧ w'.cell? ⟨ab, off + k * 11 + 9, none⟩ = some (.int .i64 til) ∧ w'.cell? ⟨ab, off + k * 11 + 10, none⟩ = some (.slice A5 n5 c5)) ∧ w'.cell? ⟨ab, off + j * 11, none⟩ = some (.int .i64 id') ∧ w'.cell? ⟨ab, off + j * 11 + 1, none⟩ = some (.int .i64 kind') ∧ w'.cell? ⟨ab, off + j * 11 + 2, none⟩ = some (.int .i64 state') ∧ w'.cell? ⟨ab, off + j * 11 + 3, none⟩ = some (.int .i64 gst') ∧ w'.cell? ⟨ab, off + j * 11 + 4, none⟩ = some (.bool lev') ∧ w'.cell? ⟨ab, off + j * 11 + 5, none⟩ = some (.int .i64 cab') ∧ w'.cell? ⟨ab, off + j * 11 + 6, none⟩ = some (.int .i64 cat') ∧ w'.cell? ⟨ab, off + j * 11 + 7, none⟩ = some (.int .i64 frm') ∧ w'.cell? ⟨ab, off + j * 11 + 8, none⟩ = some (.int .i64 upto') ∧ w'.cell? ⟨ab, off + j * 11 + 9, none⟩ = some (.int .i64 til') ∧ w'.cell? ⟨ab, off + j * 11 + 10, none⟩ = some (.slice A5' n5' c5'))) (by kernel_rfl) (HSX.out _ hbx) (fun hHeld => ?_)
                refine wpAnyH_take (i := 0) (oi := ?o_5) (v := ?v_5) ?h_5 (by kernel_rfl) (by kernel_rfl) (by kernel_rfl) ?q_5 (Or.inl ⟨?w_5, ?y_5⟩) (by assumption) ?_
                case h_5 => (simp only [List.getElem?_toArray, List.getElem?_cons_zero]; rfl)
                case q_5 => exact fun _ _ _ h => h
                case w_5 => rfl
                case y_5 => (intro w hSw; (try dsimp only at hSw); first | (go_simp; done) | (go_simp; with_reducible rfl))
                simp only [Act.put, List.setIfInBounds_toArray, List.set_cons_zero, List.set_cons_succ]
                refine wpAnyH_take (i := 1) (oi := ?o_6) (v := ?v_6) ?h_6 (by kernel_rfl) (by kernel_rfl) (by kernel_rfl) ?q_6 (Or.inl ⟨?w_6, ?y_6⟩) (by assumption) ?_
                case h_6 => (simp only [List.getElem?_toArray, List.getElem?_cons_succ, List.getElem?_cons_zero]; rfl)
                case q_6 => exact fun _ _ _ h => h
                case w_6 => rfl
                case y_6 => (intro w hSw; (try dsimp only at hSw); first | (go_simp; done) | (go_simp; with_reducible rfl))
                simp only [Act.put, List.setIfInBounds_toArray, List.set_cons_zero, List.set_cons_succ]
                refine wpAnyH_take (i := 2) (oi := ?o_7) (v := ?v_7) ?h_7 (by kernel_rfl) (by kernel_rfl) (by kernel_rfl) ?q_7 (Or.inl ⟨?w_7, ?y_7⟩) (by assumption) ?_
                case h_7 => (simp only [List.getElem?_toArray, List.getElem?_cons_succ, List.getElem?_cons_zero]; rfl)
                case q_7 => exact fun _ _ _ h => h
                case w_7 => rfl
                case y_7 => (intro w hSw; (try dsimp only at hSw); first | (go_simp; done) | (go_simp; with_reducible rfl))
                simp only [Act.put, List.setIfInBounds_toArray, List.set_cons_zero, List.set_cons_succ]
                refine wpAnyH_take (i := 3) (oi := ?o_8) (v := ?v_8) ?h_8 (by kernel_rfl) (by kernel_rfl) (by kernel_rfl) ?q_8 (Or.inl ⟨?w_8, ?y_8⟩) (by assumption) ?_
                case h_8 => (simp only [List.getElem?_toArray, List.getElem?_cons_succ, List.getElem?_cons_zero]; rfl)
                case q_8 => exact fun _ _ _ h => h
                case w_8 => rfl
                case y_8 => (intro w hSw; (try dsimp only at hSw); first | (go_simp; done) | (go_simp; with_reducible rfl))
                simp only [Act.put, List.setIfInBounds_toArray, List.set_cons_zero, List.set_cons_succ]
                refine wpAnyH_take (i := 4) (oi := ?o_9) (v := ?v_9) ?h_9 (by kernel_rfl) (by kernel_rfl) (by kernel_rfl) ?q_9 (Or.inl ⟨?w_9, ?y_9⟩) (by assumption) ?_
                case h_9 => (simp only [List.getElem?_toArray, List.getElem?_cons_succ, List.getElem?_cons_zero]; rfl)
                case q_9 => exact fun _ _ _ h => h
                case w_9 => rfl
                case y_9 => (intro w hSw; (try dsimp only at hSw); first | (go_simp; done) | (go_simp; with_reducible rfl))
                simp only [Act.put, List.setIfInBounds_toArray, List.set_cons_zero, List.set_cons_succ]
                refine wpAnyH_take (i := 5) (oi := ?o_10) (v := ?v_10) ?h_10 (by kernel_rfl) (by kernel_rfl) (by kernel_rfl) ?q_10 (Or.inl ⟨?w_10, ?y_10⟩) (by assumption) ?_
                case h_10 => (simp only [List.getElem?_toArray, List.getElem?_cons_succ, List.getElem?_cons_zero]; rfl)
                case q_10 => exact fun _ _ _ h => h
                case w_10 => rfl
                case y_10 => (intro w hSw; (try dsimp only at hSw); first | (go_simp; done) | (go_simp; with_reducible rfl))
                simp only [Act.put, List.setIfInBounds_toArray, List.set_cons_zero, List.set_cons_succ]
                refine wpAnyH_take (i := 6) (oi := ?o_11) (v := ?v_11) ?h_11 (by kernel_rfl) (by kernel_rfl) (by kernel_rfl) ?q_11 (Or.inl ⟨?w_11, ?y_11⟩) (by assumption) ?_
                case h_11 => (simp only [List.getElem?_toArray, List.getElem?_cons_succ, List.getElem?_cons_zero]; rfl)
                case q_11 => exact fun _ _ _ h => h
                case w_11 => rfl
                case y_11 => (intro w hSw; (try dsimp only at hSw); first | (go_simp; done) | (go_simp; with_reducible rfl))
                simp only [Act.put, List.setIfInBounds_toArray, List.set_cons_zero, List.set_cons_succ]
                refine wpAnyH_take (i := 7) (oi := ?o_12) (v := ?v_12) ?h_12 (by kernel_rfl) (by kernel_rfl) (by kernel_rfl) ?q_12 (Or.inl ⟨?w_12, ?y_12⟩) (by assumption) ?_
                case h_12 => (simp only [List.getElem?_toArray, List.getElem?_cons_succ, List.getElem?_cons_zero]; rfl)
                case q_12 => exact fun _ _ _ h => h
                case w_12 => rfl
                case y_12 => (intro w hSw; (try dsimp only at hSw); first | (go_simp; done) | (go_simp; with_reducible rfl))
                simp only [Act.put, List.setIfInBounds_toArray, List.set_cons_zero, List.set_cons_succ]
                refine wpAnyH_take (i := 8) (oi := ?o_13) (v := ?v_13) ?h_13 (by kernel_rfl) (by kernel_rfl) (by kernel_rfl) ?q_13 (Or.inl ⟨?w_13, ?y_13⟩) (by assumption) ?_
                case h_13 => (simp only [List.getElem?_toArray, List.getElem?_cons_succ, List.getElem?_cons_zero]; rfl)
                case q_13 => exact fun _ _ _ h => h
                case w_13 => rfl
                case y_13 => (intro w hSw; (try dsimp only at hSw); first | (go_simp; done) | (go_simp; with_reducible rfl))
                simp only [Act.put, List.setIfInBounds_toArray, List.set_cons_zero, List.set_cons_succ]
                refine wpAnyH_take (i := 9) (oi := ?o_14) (v := ?v_14) ?h_14 (by kernel_rfl) (by kernel_rfl) (by kernel_rfl) ?q_14 (Or.inl ⟨?w_14, ?y_14⟩) (by assumption) ?_
                case h_14 => (simp only [List.getElem?_toArray, List.getElem?_cons_succ, List.getElem?_cons_zero]; rfl)
                case q_14 => exact fun _ _ _ h => h
                case w_14 => rfl
                case y_14 => (intro w hSw; (try dsimp only at hSw); first | (go_simp; done) | (go_simp; with_reducible rfl))
                simp only [Act.put, List.setIfInBounds_toArray, List.set_cons_zero, List.set_cons_succ]
                have hb1a : ∀ o1, Below W10.heap.size W10 (W10.drew.alloc o1) := fun o1 => hbx.alloc hbx.size o1
                have hb2a : ∀ o1 o2, Below W10.heap.size W10 ((W10.drew.alloc o1).alloc o2) := fun o1 o2 => (hb1a o1).alloc (hb1a o1).size o2
                refine wpAnyH_ready (rs := [10, 11]) (by kernel_rfl) (by simp) ?_
                refine AllReadyH.cons (o := ?o_1) ?h_1 (fun K hK => ?_) ?m_1
                case h_1 => (simp only [List.getElem?_toArray, List.getElem?_cons_succ, List.getElem?_cons_zero]; rfl)
                case m_1 =>
                  refine AllReadyH.cons (o := ?o_2) ?h_2 (fun K hK => ?_) AllReadyH.nil
                  case h_2 => (simp only [List.getElem?_toArray, List.getElem?_cons_succ, List.getElem?_cons_zero]; rfl)
                  go_simp
                  refine hK.out _ _ ?_ (fun hHeld => ?_)
                  · exact (by first | exact HSX.out _ (hb1a (.cells #[.int .i64 0, .int .i64 0, .int .i64 0, .int .i64 0, .bool false, .int .i64 0, .int .i64 0, .int .i64 0, .int .i64 0, .int .i64 0, .slice none 0 0] 42)) | exact HSX.out _ (hb2a (.cells #[.int .i64 0, .int .i64 0, .int .i64 0, .int .i64 0, .bool false, .int .i64 0, .int .i64 0, .int .i64 0, .int .i64 0, .int .i64 0, .slice none 0 0] 42) (.cells #[.int .i64 0, .int .i64 0, .int .i64 0, .int .i64 0, .bool false, .int .i64 0, .int .i64 0, .int .i64 0, .int .i64 0, .int .i64 0, .slice none 0 0] 42)))
                  clear hK K
                  try simp only [Act.put, List.setIfInBounds_toArray, List.set_cons_zero, List.set_cons_succ]
                  refine wpAnyH_ready (rs := [10]) (by kernel_rfl) (by simp) ?_
                  refine AllReadyH.cons (o := ?o_3) ?h_3 (fun K hK => ?_) AllReadyH.nil
                  case h_3 => (simp only [List.getElem?_toArray, List.getElem?_cons_succ, List.getElem?_cons_zero]; rfl)
                  go_simp
                  refine hK.out _ _ ?_ (fun hHeld => ?_)
                  · exact (by first | exact HSX.out _ (hb1a (.cells #[.int .i64 0, .int .i64 0, .int .i64 0, .int .i64 0, .bool false, .int .i64 0, .int .i64 0, .int .i64 0, .int .i64 0, .int .i64 0, .slice none 0 0] 42)) | exact HSX.out _ (hb2a (.cells #[.int .i64 0, .int .i64 0, .int .i64 0, .int .i64 0, .bool false, .int .i64 0, .int .i64 0, .int .i64 0, .int .i64 0, .int .i64 0, .slice none 0 0] 42) (.cells #[.int .i64 0, .int .i64 0, .int .i64 0, .int .i64 0, .bool false, .int .i64 0, .int .i64 0, .int .i64 0, .int .i64 0, .int .i64 0, .slice none 0 0] 42)))
                  clear hK K
                  try simp only [Act.put, List.setIfInBounds_toArray, List.set_cons_zero, List.set_cons_succ]
                  refine wpAnyH_ready (rs := [12]) (by kernel_rfl) (by simp) ?_
                  refine AllReadyH.cons (o := ?o_15) ?h_15 (fun K hK => ?_) AllReadyH.nil
                  case h_15 => (simp only [List.getElem?_toArray, List.getElem?_cons_succ, List.getElem?_cons_zero]; rfl)
                  go_simp
                  refine hK.out _ _ ?_ (fun hHeld => ?_)
                  · exact (by first | exact HSX.out _ (hb2a _ _) | exact HSX.out _ (hb2a (.cells #[.int .i64 id, .int .i64 kind, .int .i64 state, .int .i64 gst, .bool lev, .int .i64 cab, .int .i64 cat, .int .i64 frm, .int .i64 upto, .int .i64 til, .slice A5 n5 c5] 42) (.cells #[.int .i64 0, .int .i64 0, .int .i64 0, .int .i64 0, .bool false, .int .i64 0, .int .i64 0, .int .i64 0, .int .i64 0, .int .i64 0, .slice none 0 0] 42)) | exact HSX.out _ (hb2a (.cells #[.int .i64 0, .int .i64 0, .int .i64 0, .int .i64 0, .bool false, .int .i64 0, .int .i64 0, .int .i64 0, .int .i64 0, .int .i64 0, .slice none 0 0] 42) (.cells #[.int .i64 id, .int .i64 kind, .int .i64 state, .int .i64 gst, .bool lev, .int .i64 cab, .int .i64 cat, .int .i64 frm, .int .i64 upto, .int .i64 til, .slice A5 n5 c5] 42)))
                  clear hK K
                  try simp only [Act.put, List.setIfInBounds_toArray, List.set_cons_zero, List.set_cons_succ]
                  refine wpAnyH_ready (rs := [13]) (by kernel_rfl) (by simp) ?_
                  refine AllReadyH.cons (o := ?o_16) ?h_16 (fun K hK => ?_) AllReadyH.nil
                  case h_16 => (simp only [List.getElem?_toArray, List.getElem?_cons_succ, List.getElem?_cons_zero]; rfl)
                  go_simp
                  refine hK.out _ _ ?_ (fun hHeld => ?_)
                  · exact (by first | exact HSX.out _ (hb2a _ _) | exact HSX.out _ (hb2a (.cells #[.int .i64 id, .int .i64 kind, .int .i64 state, .int .i64 gst, .bool lev, .int .i64 cab, .int .i64 cat, .int .i64 frm, .int .i64 upto, .int .i64 til, .slice A5 n5 c5] 42) (.cells #[.int .i64 id', .int .i64 kind', .int .i64 state', .int .i64 gst', .bool lev', .int .i64 cab', .int .i64 cat', .int .i64 frm', .int .i64 upto', .int .i64 til', .slice A5' n5' c5'] 42)) | exact HSX.out _ (hb2a (.cells #[.int .i64 id', .int .i64 kind', .int .i64 state', .int .i64 gst', .bool lev', .int .i64 cab', .int .i64 cat', .int .i64 frm', .int .i64 upto', .int .i64 til', .slice A5' n5' c5'] 42) (.cells #[.int .i64 id, .int .i64 kind, .int .i64 state, .int .i64 gst, .bool lev, .int .i64 cab, .int .i64 cat, .int .i64 frm, .int .i64 upto, .int .i64 til, .slice A5 n5 c5] 42)))
                  clear hK K
                  try simp only [Act.put, List.setIfInBounds_toArray, List.set_cons_zero, List.set_cons_succ]
                  refine wpAnyH_done (by kernel_rfl) ?_ _
                  go_wp2_with fail
                  go_meet
                  first | exact ⟨_, _, rfl, rfl, blk2_0 _ _ _, blk2_1 _ _ _, hb2a _ _⟩ | exact ⟨_, _, rfl, rfl, blk2_1 _ _ _, blk2_0 _ _ _, hb2a _ _⟩
                go_simp
                refine hK.out _ _ ?_ (fun hHeld => ?_)
                · exact (by first | exact HSX.out _ (hb1a (.cells #[.int .i64 0, .int .i64 0, .int .i64 0, .int .i64 0, .bool false, .int .i64 0, .int .i64 0, .int .i64 0, .int .i64 0, .int .i64 0, .slice none 0 0] 42)) | exact HSX.out _ (hb2a (.cells #[.int .i64 0, .int .i64 0, .int .i64 0, .int .i64 0, .bool false, .int .i64 0, .int .i64 0, .int .i64 0, .int .i64 0, .int .i64 0, .slice none 0 0] 42) (.cells #[.int .i64 0, .int .i64 0, .int .i64 0, .int .i64 0, .bool false, .int .i64 0, .int .i64 0, .int .i64 0, .int .i64 0, .int .i64 0, .slice none 0 0] 42)))
                clear hK K
                try simp only [Act.put, List.setIfInBounds_toArray, List.set_cons_zero, List.set_cons_succ]
                refine wpAnyH_ready (rs := [11]) (by kernel_rfl) (by simp) ?_
                refine AllReadyH.cons (o := ?o_4) ?h_4 (fun K hK => ?_) AllReadyH.nil
                case h_4 => (simp only [List.getElem?_toArray, List.getElem?_cons_succ, List.getElem?_cons_zero]; rfl)
                go_simp
                refine hK.out _ _ ?_ (fun hHeld => ?_)
                · exact (by first | exact HSX.out _ (hb1a (.cells #[.int .i64 0, .int .i64 0, .int .i64 0, .int .i64 0, .bool false, .int .i64 0, .int .i64 0, .int .i64 0, .int .i64 0, .int .i64 0, .slice none 0 0] 42)) | exact HSX.out _ (hb2a (.cells #[.int .i64 0, .int .i64 0, .int .i64 0, .int .i64 0, .bool false, .int .i64 0, .int .i64 0, .int .i64 0, .int .i64 0, .int .i64 0, .slice none 0 0] 42) (.cells #[.int .i64 0, .int .i64 0, .int .i64 0, .int .i64 0, .bool false, .int .i64 0, .int .i64 0, .int .i64 0, .int .i64 0, .int .i64 0, .slice none 0 0] 42)))
                clear hK K
                try simp only [Act.put, List.setIfInBounds_toArray, List.set_cons_zero, List.set_cons_succ]
                refine wpAnyH_ready (rs := [12]) (by kernel_rfl) (by simp) ?_
                refine AllReadyH.cons (o := ?o_17) ?h_17 (fun K hK => ?_) AllReadyH.nil
                case h_17 => (simp only [List.getElem?_toArray, List.getElem?_cons_succ, List.getElem?_cons_zero]; rfl)
                go_simp
                refine hK.out _ _ ?_ (fun hHeld => ?_)
                · exact (by first | exact HSX.out _ (hb2a _ _) | exact HSX.out _ (hb2a (.cells #[.int .i64 id, .int .i64 kind, .int .i64 state, .int .i64 gst, .bool lev, .int .i64 cab, .int .i64 cat, .int .i64 frm, .int .i64 upto, .int .i64 til, .slice A5 n5 c5] 42) (.cells #[.int .i64 0, .int .i64 0, .int .i64 0, .int .i64 0, .bool false, .int .i64 0, .int .i64 0, .int .i64 0, .int .i64 0, .int .i64 0, .slice none 0 0] 42)) | exact HSX.out _ (hb2a (.cells #[.int .i64 0, .int .i64 0, .int .i64 0, .int .i64 0, .bool false, .int .i64 0, .int .i64 0, .int .i64 0, .int .i64 0, .int .i64 0, .slice none 0 0] 42) (.cells #[.int .i64 id, .int .i64 kind, .int .i64 state, .int .i64 gst, .bool lev, .int .i64 cab, .int .i64 cat, .int .i64 frm, .int .i64 upto, .int .i64 til, .slice A5 n5 c5] 42)))
                clear hK K
                try simp only [Act.put, List.setIfInBounds_toArray, List.set_cons_zero, List.set_cons_succ]
                refine wpAnyH_ready (rs := [13]) (by kernel_rfl) (by simp) ?_
                refine AllReadyH.cons (o := ?o_18) ?h_18 (fun K hK => ?_) AllReadyH.nil
                case h_18 => (simp only [List.getElem?_toArray, List.getElem?_cons_succ, List.getElem?_cons_zero]; rfl)
                go_simp
                refine hK.out _ _ ?_ (fun hHeld => ?_)
                · exact (by first | exact HSX.out _ (hb2a _ _) | exact HSX.out _ (hb2a (.cells #[.int .i64 id, .int .i64 kind, .int .i64 state, .int .i64 gst, .bool lev, .int .i64 cab, .int .i64 cat, .int .i64 frm, .int .i64 upto, .int .i64 til, .slice A5 n5 c5] 42) (.cells #[.int .i64 id', .int .i64 kind', .int .i64 state', .int .i64 gst', .bool lev', .int .i64 cab', .int .i64 cat', .int .i64 frm', .int .i64 upto', .int .i64 til', .slice A5' n5' c5'] 42)) | exact HSX.out _ (hb2a (.cells #[.int .i64 id', .int .i64 kind', .int .i64 state', .int .i64 gst', .bool lev', .int .i64 cab', .int .i64 cat', .int .i64 frm', .int .i64 upto', .int .i64 til', .slice A5' n5' c5'] 42) (.cells #[.int .i64 id, .int .i64 kind, .int .i64 state, .int .i64 gst, .bool lev, .int .i64 cab, .int .i64 cat, .int .i64 frm, .int .i64 upto, .int .i64 til, .slice A5 n5 c5] 42)))
                clear hK K
                try simp only [Act.put, List.setIfInBounds_toArray, List.set_cons_zero, List.set_cons_succ]
                refine wpAnyH_done (by kernel_rfl) ?_ _
                go_wp2_with fail
                go_meet
                first | exact ⟨_, _, rfl, rfl, blk2_0 _ _ _, blk2_1 _ _ _, hb2a _ _⟩ | exact ⟨_, _, rfl, rfl, blk2_1 _ _ _, blk2_0 _ _ _, hb2a _ _⟩
              obtain ⟨y1, y2, rfl, rfl, hY, hZ, hbx2⟩ := hcut
              have hbf := HBJ.out.trans (hbx2.mono HBJ.out.size)
              have y2' : wc.cell? ⟨y1, 2, none⟩ = some (.int .i64 state) := hY.cell rfl
              have y5' : wc.cell? ⟨y1, 5, none⟩ = some (.int .i64 cab) := hY.cell rfl
              have y7' : wc.cell? ⟨y1, 7, none⟩ = some (.int .i64 frm) := hY.cell rfl
              have y8' : wc.cell? ⟨y1, 8, none⟩ = some (.int .i64 upto) := hY.cell rfl
              have z2' : wc.cell? ⟨y2, 2, none⟩ = some (.int .i64 state') := hZ.cell rfl
              have z5' : wc.cell? ⟨y2, 5, none⟩ = some (.int .i64 cab') := hZ.cell rfl
              have z7' : wc.cell? ⟨y2, 7, none⟩ = some (.int .i64 frm') := hZ.cell rfl
              have z8' : wc.cell? ⟨y2, 8, none⟩ = some (.int .i64 upto') := hZ.cell rfl
              have HBF := Lib.hid hbf
              clear hbf hbx2 hY hZ HSX hbx HBJ HAA
              by_cases h1 : state = 3
              · have h1' : (state == 3) = true := by simpa using h1
                clear h1
                go_wp2_with fail
                go_roundg (k - (j + 1))
                case measure => omega
                case rel => exact ⟨j + 1, by omega, by omega, by go_num, HBF.out⟩
              have h1' : (state == 3) = false := by simpa using h1
              by_cases h2 : state' = 3
              · have h2' : (state' == 3) = true := by simpa using h2
                clear h1 h2
                go_wp2_with fail
                go_roundg (k - (j + 1))
                case measure => omega
                case rel => exact ⟨j + 1, by omega, by omega, by go_num, HBF.out⟩
              have h2' : (state' == 3) = false := by simpa using h2
              by_cases h3 : cab < 0
              · have h3' : decide (cab < 0) = true := decide_eq_true h3
                clear h1 h2 h3
                go_wp2_with fail
                go_roundg (k - (j + 1))
                case measure => omega
                case rel => exact ⟨j + 1, by omega, by omega, by go_num, HBF.out⟩
              have h3' : decide (cab < 0) = false := decide_eq_false h3
              by_cases h4 : cab = cab'
              rotate_left
              · have h4' : (cab != cab') = true := by simpa using h4
                clear h1 h2 h3 h4
                go_wp2_with fail
                go_roundg (k - (j + 1))
                case measure => omega
                case rel => exact ⟨j + 1, by omega, by omega, by go_num, HBF.out⟩
              have h4' : (cab != cab') = false := by simpa using h4
              have HKA := Lib.hid (kept_apart HOK.out.bs (room_ok HOK.out.room).1 hjk HX.out HX2.out h1 h2 (by simp only; omega) h4)
              have hme := Meets_any frm upto frm' upto' wc HI7.out.1.1 HI7.out.1.2 HI7.out.2.1 HI7.out.2.2
              rw [show meetsE ⟨frm, upto⟩ ⟨frm', upto'⟩ = 0 from HKA.out.1, show meetB ⟨frm, upto⟩ ⟨frm', upto'⟩ = false from HKA.out.2] at hme
              have HCALL := Lib.hid hme
              clear hme
              clear h1 h2 h3 h4
              go_wp2_with fail
              refine HCALL.out.mono ?_
              rintro e wm ⟨rfl, hbm⟩
              have HBM := Lib.hid (HBF.out.trans (hbm.mono HBF.out.size))
              clear hbm HBF HCALL y2' y5' y7' y8' z2' z5' z7' z8'
              go_wp2_with fail
              go_roundg (k - (j + 1))
              case measure => omega
              case rel => exact ⟨j + 1, by omega, by omega, by go_num, HBM.out⟩
            · obtain rfl : j = k := by omega
              have hjk1 : decide ((j : Int) < (j : Int)) = false := decide_eq_false (by omega)
              have HB10 := Lib.hid (HB9.out.trans (hbj.mono HB9.out.size))
              clear hbj
              go_wp2_with fail
              go_roundg (nb - (j + 1))
              case measure => omega
              case rel => exact ⟨j + 1, by omega, by omega, by go_num, HB10.out⟩
        · obtain rfl : k = nb := by omega
          have hbw := HBW.out.trans (hbk.mono HBW.out.size)
          clear hG hbk
          go_wp2_with fail
          go_ret
          exact ⟨rfl, hbw⟩
set_option maxRecDepth 100000 in
theorem StockKept_lifted (os : Os) (started : os.Started) (H : Type) (enc : TypeId × Value → H) :
    ReturnsInHanded {} Tryz.checked os 5 .any (Rows.stockKeptSpec.pre6 enc Tryz.prog Tryz.f5 Rows.stockKeptRow.domain false) (Rows.stockKeptSpec.post enc Tryz.prog Tryz.f5 false true false false) := by
  refine returnsInHanded_of_change (C := Tryz.checked) own started (by kernel_rfl) Tryz.func5
    (ChangeSpec.witness6 (enc := enc) (C := Tryz.checked) false ⟨#[], #[.agg #[.int .i64 0, .int .i64 0, .slice none 0 0, .slice none 0 0, .slice none 0 0, .int .i64 0, .int .i64 0, .slice none 0 0, .int .i64 0, .int .i64 0, .int .i64 0, .slice none 0 0, .bool false]], []⟩ 8 (by kernel_rfl) (by kernel_rfl) (by kernel_rfl) (by kernel_rfl)) ?_
  intro W base args ds gs before hval0 hW hcnd _
  have hval : ∀ (j : Nat) t v, Tryz.f5.params[j]? = some t → args[j]? = some v → Value.okWide Tryz.prog W .any base t v := hval0
  have hW' := hW
  obtain ⟨p, q, hA0, hV, rfl, hfz, hnd⟩ := hW
  have hA : DataW.TrodAll enc Tryz.prog W 0 (fun _ => true) true Tryz.f5.params.toList args.toList ds p := hA0
  rw [Tryz.params5] at hA hval
  obtain ⟨v0, vs0, d0, ds0, p0, q0, hargs, rfl, rfl, h0, r0⟩ := trodAll_cons hA
  obtain ⟨rfl, rfl, rfl⟩ := trodAll_nil r0
  obtain rfl : args = #[v0] := by cases args; simp_all
  obtain ⟨rfl, rfl⟩ := trodVars_none hV
  have lt0 := arg_lt h0
  have k0 := h0
  obtain ⟨cs0, a0, rfl, w0⟩ := arg_agg (c := saiC) Tryz.underlying32 opens_saiC (hval 0 32 v0 rfl rfl) h0
  clear hA0 hval0
  refine (StockKept_walk W cs0 a0 w0).mono fun e W' ⟨he, bel⟩ => ?_
  subst he
  exact ⟨_, rfl, _, _, _, [], _, [], hW', trodAll_mk1 (shut_bool Tryz.underlying4 _), (trodAll_cons_mk (Below.trod laidOut (by kernel_rfl) (of_decide_eq_true (by kernel_rfl)) k0 bel lt0) trodAll_mk0), rfl, bel.frame _, fun h => by cases h⟩

/-- THE GIVEN STATEMENT StockKept. -/
theorem stockKept_holds : Rows.StockKeptSaid :=
  OpenClaim.holds_of_wide 5 Tryz.f5 rfl rfl rfl rfl rfl rfl rfl ⟨rfl, rfl, rfl, rfl, rfl⟩ rfl rfl rfl rfl rfl (by kernel_rfl) Tryz.func5 (by kernel_rfl)
    (of_decide_eq_true (by kernel_rfl)) (by unfold Func.isWrapper; rw [if_neg (of_decide_eq_false (by kernel_rfl))]; exact ⟨rfl, rfl⟩)
    (fun os started H enc _ => StockKept_lifted os started H enc)
#print axioms stockKept_holds
end Go.Proofs.YtlablioefblmkaaGreat
