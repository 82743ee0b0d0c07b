/-
  Words, laws and contracts: StockE, StockF.
-/
import Derived.Test.YtoilcdgpeilgaaaGreatBun16
set_option linter.unusedSimpArgs false
set_option linter.unusedVariables false
namespace Go.Proofs.YtoilcdgpeilgaaaGreat
open Go.RowKit Go.Shelf
set_option maxRecDepth 100000 in
set_option maxHeartbeats 16000000 in
theorem Open_any (x : Sai) (p : SaiV) (w : World) (h : SaiR w x p) (ho : OkShp x.ship) (hk : ∀ b ∈ x.bks, OkBk x.ship b) (h16 : x.bks.length ≤ 16) :
    Calls Tryz.prog 145 #[.agg (saiA x p)] w fun e w' => ∃ v1 v2 xs1 xs2, e = .returned (.tuple #[v1, v2]) ∧ Own intC 1 3 w' w.heap.size v1 (idsL x) xs1 ∧ Own edgC 2 115 w' w.heap.size v2 (edgL x) xs2 ∧ Below w.heap.size w w' := by
  obtain ⟨A, n, cap, B, m, cap2, D, nd, cd, E, ne, ce, C, nb, cb⟩ := p
  have hl : Sl bkgC 11 w All C nb cb x.bks := h.bks
  have hc : Sl catC 2 w All A n cap x.ship.cats := h.cats
  have hd : Sl cabC 4 w All B m cap2 x.ship.cabs := h.cabs
  have HEL := Lib.hid (fun b v (k : Nat) W h1 h2 h3 h4 h5 => Eligible_any x.ship A n cap B m cap2 b v k W h1 h2 ho h3 h4 h5)
  have HN := Lib.hid hl.len
  have hnb : nb ≤ 16 := by rw [← hl.len]; exact h16
  have hm12 : m ≤ 12 := by rw [← hd.len]; exact ho.cabs12
  have HNC := Lib.hid hc.len
  have HM := Lib.hid hd.len
  have HL := Lib.hid hl
  have HC := Lib.hid hc
  have HD := Lib.hid hd
  have HK := Lib.hid hk
  clear hk
  clear h hl hc hd h16
  go_enter Tryz.func145, Tryz.ntmps145
  go_upto_region 0 with (fail)
  go_cut [1, 2, 3] (fun q _ _ wx => ∃ g, q = .pointer (some ⟨g, 0, none⟩) ∧ Blk wx g (saiA x ⟨A, n, cap, B, m, cap2, D, nd, cd, E, ne, ce, C, nb, cb⟩) 32 ∧ Below w.heap.size w wx)
  case first => as_aux_lemma =>
    go_wp2_with fail
    go_meet
    exact ⟨_, rfl, blk1 _ _, bel1 _ _⟩
  obtain ⟨g, rfl, hG, hbw⟩ := hcut
  have s11 : wc.cell? ⟨g, 11, none⟩ = some (.slice C nb cb) := hG.cell rfl
  obtain ⟨W0, hW0⟩ : ∃ W, W = wc := ⟨_, rfl⟩
  subst hW0
  have HGL := Lib.hid hG.lt
  have HG := Lib.hid hG
  clear hG
  have HBW := Lib.hid hbw
  clear hbw
  go_wp2_with fail
  go_loopg [4, 5, 12] nb (fun gk v1 v2 i wr => ∃ (k : Nat) (xs1 xs2 : List Value), k ≤ nb ∧ nb - k ≤ gk ∧ i = .int .i64 k ∧ Own intC 1 3 wr W0.heap.size v1 ((openN x k).map (·.id)) xs1 ∧ Own edgC 2 115 wr W0.heap.size v2 (edgF x (openN x k) 0) xs2 ∧ Apart v1 v2 ∧ Below W0.heap.size W0 wr)
  case atStart => exact ⟨0, [], [], Nat.zero_le _, by omega, rfl, Own.nil _ _ _ _ _, Own.nil _ _ _ _ _, Apart.nilL _, Below.refl _ _⟩
  case round =>
    clear s11
    obtain ⟨k, xs1, xs2, hk, hgk, rfl, hO1, hO2, hap, hb⟩ := hrel
    obtain ⟨A1, n1, c1, rfl, hs1⟩ := hO1.sl intC_good
    obtain ⟨A2, n2, c2, rfl, hs2⟩ := hO2.sl edgC_good
    by_cases hlt : k < nb
    · have hln1 : n1 = (openN x k).length := by have := hs1.len; rw [List.length_map] at this; exact this.symm
      have hbo := HBW.out.trans (hb.mono HBW.out.size)
      obtain ⟨ab, off, ⟨id, kind, state, gst, lev, cab, cat, frm, upto, til, fol⟩, A3, n3, c3, hA, hx, hF, hI, hcel⟩ := (HL.out.bel hbo).bkg hlt
      subst hA
      simp only at hF
      have y0 : wr.cell? ⟨ab, off + k * 11, none⟩ = some (.int .i64 id) := hcel 0 _ rfl
      have y1 : wr.cell? ⟨ab, off + k * 11 + 1, none⟩ = some (.int .i64 kind) := hcel 1 _ rfl
      have y2 : wr.cell? ⟨ab, off + k * 11 + 2, none⟩ = some (.int .i64 state) := hcel 2 _ rfl
      have y3 : wr.cell? ⟨ab, off + k * 11 + 3, none⟩ = some (.int .i64 gst) := hcel 3 _ rfl
      have y4 : wr.cell? ⟨ab, off + k * 11 + 4, none⟩ = some (.bool lev) := hcel 4 _ rfl
      have y5 : wr.cell? ⟨ab, off + k * 11 + 5, none⟩ = some (.int .i64 cab) := hcel 5 _ rfl
      have y6 : wr.cell? ⟨ab, off + k * 11 + 6, none⟩ = some (.int .i64 cat) := hcel 6 _ rfl
      have y7 : wr.cell? ⟨ab, off + k * 11 + 7, none⟩ = some (.int .i64 frm) := hcel 7 _ rfl
      have y8 : wr.cell? ⟨ab, off + k * 11 + 8, none⟩ = some (.int .i64 upto) := hcel 8 _ rfl
      have y9 : wr.cell? ⟨ab, off + k * 11 + 9, none⟩ = some (.int .i64 til) := hcel 9 _ rfl
      have y10 : wr.cell? ⟨ab, off + k * 11 + 10, none⟩ = some (.slice A3 n3 c3) := hcel 10 _ rfl
      clear hcel
      go_upto_region 5 with (fail)
      go_cut [7] (fun p1 wx => ∃ z, p1 = .pointer (some ⟨z, 0, none⟩) ∧ wr.heap.size ≤ z ∧ Blk wx z (bkgA ⟨id, kind, state, gst, lev, cab, cat, frm, upto, til, fol⟩ (.slice A3 n3 c3)) 37 ∧ Below wr.heap.size wr wx)
      case first => as_aux_lemma =>
        go_wp2_with fail
        go_meet
        exact ⟨_, rfl, Nat.le_refl _, blk1 _ _, bel1 _ _⟩
      obtain ⟨z, rfl, hzs, hZ, hbz⟩ := hcut
      clear y0 y1 y2 y3 y4 y5 y6 y7 y8 y9 y10 hs1 hs2 hF
      have hl1 := hO1.lt
      have hl2 := hO2.lt
      have hz1 : (Value.slice A1 n1 c1).ownBlock ≠ some z := fun e => by have := (hl1 z e).2; omega
      have hz2 : (Value.slice A2 n2 c2).ownBlock ≠ some z := fun e => by have := (hl2 z e).2; omega
      replace hO1 := hO1.bel hbz
      replace hO2 := hO2.bel hbz
      replace hb := hb.trans (hbz.mono hb.size)
      have hfin := openN_succ hx
      have hopl := openN_len x k
      have HOK := Lib.hid (HK.out _ (List.mem_of_getElem? hx))
      obtain ⟨q, hq⟩ : ∃ q, q = openB ⟨id, kind, state, gst, lev, cab, cat, frm, upto, til, fol⟩ := ⟨_, rfl⟩
      have HCALL := Lib.hid (fun W => open_any ⟨id, kind, state, gst, lev, cab, cat, frm, upto, til, fol⟩ (.slice A3 n3 c3) W)
      rw [← hq] at HCALL hfin
      obtain ⟨ON, hON⟩ : ∃ ON, ON = openN x k := ⟨_, rfl⟩
      rw [← hON] at hO1 hO2 hln1 hopl hfin
      have HFIN := Lib.hid hfin
      clear hfin
      have HQ := Lib.hid hq
      clear hq
      have HLN1 := Lib.hid hln1
      clear hln1
      have hidI := hI.id
      simp only at hidI
      have hidI' := Lib.hid hidI
      have z0 : wc.cell? ⟨z, 0, none⟩ = some (.int .i64 id) := hZ.cell rfl
      have z1 : wc.cell? ⟨z, 1, none⟩ = some (.int .i64 kind) := hZ.cell rfl
      have z2 : wc.cell? ⟨z, 2, none⟩ = some (.int .i64 state) := hZ.cell rfl
      have z3 : wc.cell? ⟨z, 3, none⟩ = some (.int .i64 gst) := hZ.cell rfl
      have z4 : wc.cell? ⟨z, 4, none⟩ = some (.bool lev) := hZ.cell rfl
      have z5 : wc.cell? ⟨z, 5, none⟩ = some (.int .i64 cab) := hZ.cell rfl
      have z6 : wc.cell? ⟨z, 6, none⟩ = some (.int .i64 cat) := hZ.cell rfl
      have z7 : wc.cell? ⟨z, 7, none⟩ = some (.int .i64 frm) := hZ.cell rfl
      have z8 : wc.cell? ⟨z, 8, none⟩ = some (.int .i64 upto) := hZ.cell rfl
      have z9 : wc.cell? ⟨z, 9, none⟩ = some (.int .i64 til) := hZ.cell rfl
      have z10 : wc.cell? ⟨z, 10, none⟩ = some ((.slice A3 n3 c3)) := hZ.cell rfl
      have HO1 := Lib.hid hO1
      clear hO1
      have HO2 := Lib.hid hO2
      clear hO2
      have HAP := Lib.hid hap
      clear hap
      have HZ1 := Lib.hid hz1
      clear hz1
      have HZ2 := Lib.hid hz2
      clear hz2
      clear hx hI hbz hON hl1 hl2 hidI hbo
      go_wp2_with fail
      refine (HCALL.out _).mono ?_
      rintro e w3 ⟨rfl, hb3⟩
      replace hb := hb.trans (hb3.mono hb.size)
      have hZ := hZ.bel hb3
      have hO1 := HO1.out.bel hb3
      have hO2 := HO2.out.bel hb3
      have hzw := hZ.lt
      clear hb3 z0 z1 z2 z3 z4 z5 z6 z7 z8 z9 z10 HCALL HO1 HO2
      cases q
      · have HV := Lib.hid (HFIN.out.trans (by simp : _ = ON))
        have HO1 := Lib.hid hO1
        clear hO1
        have HO2 := Lib.hid hO2
        clear hO2
        clear hZ
        go_wp2_with fail
        go_roundg (nb - (k + 1))
        case measure => omega
        case rel => exact ⟨k + 1, xs1, xs2, by omega, by omega, by go_num, by rw [HV.out]; exact HO1.out, by rw [HV.out]; exact HO2.out, HAP.out, hb⟩
      · have HV := Lib.hid (HFIN.out.trans (by simp : _ = ON ++ [⟨id, kind, state, gst, lev, cab, cat, frm, upto, til, fol⟩]))
        have HCT := Lib.hid (open_cat HOK.out HQ.out.symm)
        have hG := HG.out.bel hb
        have s3 : w3.cell? ⟨g, 3, none⟩ = some (.slice B m cap2) := hG.cell rfl
        obtain ⟨ln, hln⟩ : ∃ ln : Nat, ln = n1 := ⟨_, rfl⟩
        have HLN := Lib.hid (hln.trans HLN1.out)
        have HL1N := Lib.hid hln
        have HO1 := Lib.hid hO1
        clear hO1
        have HO2 := Lib.hid hO2
        clear hO2
        have HZ := Lib.hid hZ
        clear hZ
        have HB := Lib.hid hb
        clear hb
        clear hG hln
        go_wp2_with fail
        go_loopg [5, 23] m (fun gk2 v2 i wr2 => ∃ (j : Nat) (xs2 : List Value), j ≤ m ∧ m - j ≤ gk2 ∧ i = .int .i64 j ∧ Own intC 1 3 wr2 W0.heap.size (.slice A1 n1 c1) (ON.map (·.id)) xs1 ∧ Own edgC 2 115 wr2 W0.heap.size v2 (edgF x ON 0 ++ toE ON.length (mayN x ⟨id, kind, state, gst, lev, cab, cat, frm, upto, til, fol⟩ j)) xs2 ∧ Apart (.slice A1 n1 c1) v2 ∧ v2.ownBlock ≠ some z ∧ Blk wr2 z (bkgA ⟨id, kind, state, gst, lev, cab, cat, frm, upto, til, fol⟩ (.slice A3 n3 c3)) 37 ∧ Below W0.heap.size W0 wr2)
        case atStart => exact ⟨0, _, Nat.zero_le _, by omega, rfl, HO1.out, by show Own _ _ _ _ _ _ (_ ++ []) _; rw [List.append_nil]; exact HO2.out, HAP.out, HZ2.out, HZ.out, HB.out⟩
        case round =>
          clear s3
          obtain ⟨j, xs2, hj, hgj, rfl, hO1, hO2, hap, hne, hZ, hb⟩ := hrel
          obtain ⟨A4, n4, c4, rfl, hs4⟩ := hO2.sl edgC_good
          have hn4 : n4 ≤ 1000 := by
            have h1 := hs4.len
            have h2 := edgF_len x ON 0
            have h3 := mayN_len x ⟨id, kind, state, gst, lev, cab, cat, frm, upto, til, fol⟩ j
            have h4 : ON.length * x.ship.cabs.length ≤ 16 * 12 := Nat.mul_le_mul (by omega) (by rw [HM.out]; exact hm12)
            rw [List.length_append] at h1
            unfold toE at h1
            rw [List.length_map] at h1
            omega
          by_cases hlj : j < m
          · have hbo := HBW.out.trans (hb.mono HBW.out.size)
            have hG := HG.out.bel hb
            have s0 : wr.cell? ⟨g, 0, none⟩ = some (.int .i64 x.ship.legs) := hG.cell rfl
            have s1 : wr.cell? ⟨g, 1, none⟩ = some (.int .i64 x.ship.souls) := hG.cell rfl
            have s2 : wr.cell? ⟨g, 2, none⟩ = some (.slice A n cap) := hG.cell rfl
            have s3 : wr.cell? ⟨g, 3, none⟩ = some (.slice B m cap2) := hG.cell rfl
            have s4 : wr.cell? ⟨g, 4, none⟩ = some (.slice D nd cd) := hG.cell rfl
            have s5 : wr.cell? ⟨g, 5, none⟩ = some (.int .i64 x.fares.alone) := hG.cell rfl
            have s6 : wr.cell? ⟨g, 6, none⟩ = some (.int .i64 x.fares.third) := hG.cell rfl
            have s7 : wr.cell? ⟨g, 7, none⟩ = some (.slice E ne ce) := hG.cell rfl
            have s8 : wr.cell? ⟨g, 8, none⟩ = some (.int .i64 x.fares.down) := hG.cell rfl
            have s9 : wr.cell? ⟨g, 9, none⟩ = some (.int .i64 x.day) := hG.cell rfl
            have s10 : wr.cell? ⟨g, 10, none⟩ = some (.int .i64 x.leaves) := hG.cell rfl
            have s11 : wr.cell? ⟨g, 11, none⟩ = some (.slice (some ⟨ab, off, none⟩) nb cb) := hG.cell rfl
            have s12 : wr.cell? ⟨g, 12, none⟩ = some (.bool x.closed) := hG.cell rfl
            have z0 : wr.cell? ⟨z, 0, none⟩ = some (.int .i64 id) := hZ.cell rfl
            have z1 : wr.cell? ⟨z, 1, none⟩ = some (.int .i64 kind) := hZ.cell rfl
            have z2 : wr.cell? ⟨z, 2, none⟩ = some (.int .i64 state) := hZ.cell rfl
            have z3 : wr.cell? ⟨z, 3, none⟩ = some (.int .i64 gst) := hZ.cell rfl
            have z4 : wr.cell? ⟨z, 4, none⟩ = some (.bool lev) := hZ.cell rfl
            have z5 : wr.cell? ⟨z, 5, none⟩ = some (.int .i64 cab) := hZ.cell rfl
            have z6 : wr.cell? ⟨z, 6, none⟩ = some (.int .i64 cat) := hZ.cell rfl
            have z7 : wr.cell? ⟨z, 7, none⟩ = some (.int .i64 frm) := hZ.cell rfl
            have z8 : wr.cell? ⟨z, 8, none⟩ = some (.int .i64 upto) := hZ.cell rfl
            have z9 : wr.cell? ⟨z, 9, none⟩ = some (.int .i64 til) := hZ.cell rfl
            have z10 : wr.cell? ⟨z, 10, none⟩ = some ((.slice A3 n3 c3)) := hZ.cell rfl
            have hzl := hZ.lt
            go_upto_region 9 with (fail)
            go_cut [8] (fun p1 wx => ∃ y, p1 = .pointer (some ⟨y, 0, none⟩) ∧ wr.heap.size ≤ y ∧ Blk wx y #[.int .i64 (j : Int)] 3 ∧ Below wr.heap.size wr wx)
            case first => as_aux_lemma =>
              clear s0 s1 s2 s3 s4 s5 s6 s7 s8 s9 s10 s11 s12 z0 z1 z2 z3 z4 z5 z6 z7 z8 z9 z10
              go_wp2_with fail
              go_meet
              exact ⟨_, rfl, Nat.le_refl _, blk1 _ _, bel1 _ _⟩
            obtain ⟨y, rfl, hys, hY, hby⟩ := hcut
            have hl4 := hO2.lt
            have hy4 : (Value.slice A4 n4 c4).ownBlock ≠ some y := fun e => by have := (hl4 y e).2; omega
            replace hO1 := hO1.bel hby
            replace hO2 := hO2.bel hby
            replace hb := hb.trans (hby.mono hb.size)
            replace hbo := hbo.trans (hby.mono hbo.size)
            replace hG := hG.bel hby
            replace hZ := hZ.bel hby
            clear hby s0 s1 s2 s3 s4 s5 s6 s7 s8 s9 s10 s11 s12 z0 z1 z2 z3 z4 z5 z6 z7 z8 z9 z10 hs4 hl4
            have s0 : wc.cell? ⟨g, 0, none⟩ = some (.int .i64 x.ship.legs) := hG.cell rfl
            have s1 : wc.cell? ⟨g, 1, none⟩ = some (.int .i64 x.ship.souls) := hG.cell rfl
            have s2 : wc.cell? ⟨g, 2, none⟩ = some (.slice A n cap) := hG.cell rfl
            have s3 : wc.cell? ⟨g, 3, none⟩ = some (.slice B m cap2) := hG.cell rfl
            have s4 : wc.cell? ⟨g, 4, none⟩ = some (.slice D nd cd) := hG.cell rfl
            have s5 : wc.cell? ⟨g, 5, none⟩ = some (.int .i64 x.fares.alone) := hG.cell rfl
            have s6 : wc.cell? ⟨g, 6, none⟩ = some (.int .i64 x.fares.third) := hG.cell rfl
            have s7 : wc.cell? ⟨g, 7, none⟩ = some (.slice E ne ce) := hG.cell rfl
            have s8 : wc.cell? ⟨g, 8, none⟩ = some (.int .i64 x.fares.down) := hG.cell rfl
            have s9 : wc.cell? ⟨g, 9, none⟩ = some (.int .i64 x.day) := hG.cell rfl
            have s10 : wc.cell? ⟨g, 10, none⟩ = some (.int .i64 x.leaves) := hG.cell rfl
            have s11 : wc.cell? ⟨g, 11, none⟩ = some (.slice (some ⟨ab, off, none⟩) nb cb) := hG.cell rfl
            have s12 : wc.cell? ⟨g, 12, none⟩ = some (.bool x.closed) := hG.cell rfl
            have z0 : wc.cell? ⟨z, 0, none⟩ = some (.int .i64 id) := hZ.cell rfl
            have z1 : wc.cell? ⟨z, 1, none⟩ = some (.int .i64 kind) := hZ.cell rfl
            have z2 : wc.cell? ⟨z, 2, none⟩ = some (.int .i64 state) := hZ.cell rfl
            have z3 : wc.cell? ⟨z, 3, none⟩ = some (.int .i64 gst) := hZ.cell rfl
            have z4 : wc.cell? ⟨z, 4, none⟩ = some (.bool lev) := hZ.cell rfl
            have z5 : wc.cell? ⟨z, 5, none⟩ = some (.int .i64 cab) := hZ.cell rfl
            have z6 : wc.cell? ⟨z, 6, none⟩ = some (.int .i64 cat) := hZ.cell rfl
            have z7 : wc.cell? ⟨z, 7, none⟩ = some (.int .i64 frm) := hZ.cell rfl
            have z8 : wc.cell? ⟨z, 8, none⟩ = some (.int .i64 upto) := hZ.cell rfl
            have z9 : wc.cell? ⟨z, 9, none⟩ = some (.int .i64 til) := hZ.cell rfl
            have z10 : wc.cell? ⟨z, 10, none⟩ = some ((.slice A3 n3 c3)) := hZ.cell rfl
            have u0 : wc.cell? ⟨y, 0, none⟩ = some (.int .i64 (j : Int)) := hY.cell rfl
            have hsu := mayN_succ x ⟨id, kind, state, gst, lev, cab, cat, frm, upto, til, fol⟩ j
            have hcall := HEL.out ⟨id, kind, state, gst, lev, cab, cat, frm, upto, til, fol⟩ (.slice A3 n3 c3) j wc (HC.out.bel hbo) (HD.out.bel hbo) hlj HCT.out.1 (by have := HCT.out.2; rwa [HNC.out] at this)
            obtain ⟨f, hf⟩ : ∃ f, f = eligB x.ship ⟨id, kind, state, gst, lev, cab, cat, frm, upto, til, fol⟩ (j : Int) := ⟨_, rfl⟩
            rw [← hf] at hcall hsu
            obtain ⟨a, ha⟩ : ∃ a, a = x.bks.any (hasB (j : Int)) := ⟨_, rfl⟩
            replace hsu : mayN x ⟨id, kind, state, gst, lev, cab, cat, frm, upto, til, fol⟩ (j + 1) = mayN x ⟨id, kind, state, gst, lev, cab, cat, frm, upto, til, fol⟩ j ++ (if (f && !a) = true then [(j : Int)] else []) := by rw [hsu, ha]; rfl
            have hcf := fun W (hW : Below wc.heap.size wc W) => ContainsFunc_bkg (some ⟨ab, off, none⟩) nb cb x.bks 220 #[.pointer (some ⟨y, 0, none⟩)] (hasB (j : Int)) W (HL.out.bel (hbo.trans (hW.mono hbo.size))) (enters_of Tryz.func220 (by kernel_rfl) rfl) (fun b v w1 _ hb1 => has1_any b v (j : Int) y w1 (((hY.bel hW).bel hb1).cell rfl))
            rw [← ha] at hcf
            have HSU := Lib.hid hsu
            clear hsu
            have HCALL := Lib.hid hcall
            clear hcall
            have HCF := Lib.hid hcf
            clear hcf
            have HO1 := Lib.hid hO1
            clear hO1
            have HO2 := Lib.hid hO2
            clear hO2
            have HAP := Lib.hid hap
            clear hap
            have HNE := Lib.hid hne
            clear hne
            have HY4 := Lib.hid hy4
            clear hy4
            clear hf ha
            go_wp2_with fail
            refine HCALL.out.mono ?_
            rintro e w5 ⟨rfl, hb5⟩
            have hcf := HCF.out _ hb5
            replace hb := hb.trans (hb5.mono hb.size)
            replace hbo := hbo.trans (hb5.mono hbo.size)
            replace hG := hG.bel hb5
            replace hZ := hZ.bel hb5
            replace hY := hY.bel hb5
            have hO1 := HO1.out.bel hb5
            have hO2 := HO2.out.bel hb5
            have HO1' := Lib.hid hO1
            clear hO1
            have HO2' := Lib.hid hO2
            clear hO2
            have HCF' := Lib.hid hcf
            clear hcf
            clear hb5 s0 s1 s2 s3 s4 s5 s6 s7 s8 s9 s10 s11 s12 z0 z1 z2 z3 z4 z5 z6 z7 z8 z9 z10 u0 HCALL HO1 HO2 HCF
            have s11 : w5.cell? ⟨g, 11, none⟩ = some (.slice (some ⟨ab, off, none⟩) nb cb) := hG.cell rfl
            cases f
            · have HV2 := Lib.hid (show mayN x ⟨id, kind, state, gst, lev, cab, cat, frm, upto, til, fol⟩ (j + 1) = mayN x ⟨id, kind, state, gst, lev, cab, cat, frm, upto, til, fol⟩ j by rw [HSU.out]; simp)
              have HG5 := Lib.hid hG
              clear hG
              have HZ5 := Lib.hid hZ
              clear hZ
              clear hY
              go_wp2_with fail
              go_roundg (m - (j + 1))
              case measure => omega
              case rel => exact ⟨j + 1, xs2, by omega, by omega, by go_num, HO1'.out, by rw [HV2.out]; exact HO2'.out, HAP.out, HNE.out, HZ5.out, hb⟩
            · skip
              have HG5 := Lib.hid hG
              clear hG
              have HZ5 := Lib.hid hZ
              clear hZ
              have HY5 := Lib.hid hY
              clear hY
              go_wp2_with fail
              refine HCF'.out.mono ?_
              rintro e w6 ⟨rfl, hb6⟩
              replace hb := hb.trans (hb6.mono hb.size)
              have hZ := HZ5.out.bel hb6
              have hY := HY5.out.bel hb6
              have hO1 := HO1'.out.bel hb6
              have hO2 := HO2'.out.bel hb6
              clear hb6 s11 HCF' HO1' HO2' HG5 HZ5 HY5
              have u0 : w6.cell? ⟨y, 0, none⟩ = some (.int .i64 (j : Int)) := hY.cell rfl
              cases a
              rotate_left
              · have HV2 := Lib.hid (show mayN x ⟨id, kind, state, gst, lev, cab, cat, frm, upto, til, fol⟩ (j + 1) = mayN x ⟨id, kind, state, gst, lev, cab, cat, frm, upto, til, fol⟩ j by rw [HSU.out]; simp)
                have HO1' := Lib.hid hO1
                clear hO1
                have HO2' := Lib.hid hO2
                clear hO2
                have HZ5 := Lib.hid hZ
                clear hZ
                clear hY
                go_wp2_with fail
                go_roundg (m - (j + 1))
                case measure => omega
                case rel => exact ⟨j + 1, xs2, by omega, by omega, by go_num, HO1'.out, by rw [HV2.out]; exact HO2'.out, HAP.out, HNE.out, HZ5.out, hb⟩
              · have HV2 := Lib.hid (show edgF x ON 0 ++ toE ON.length (mayN x ⟨id, kind, state, gst, lev, cab, cat, frm, upto, til, fol⟩ (j + 1)) = (edgF x ON 0 ++ toE ON.length (mayN x ⟨id, kind, state, gst, lev, cab, cat, frm, upto, til, fol⟩ j)) ++ [⟨(ln : Int), (j : Int)⟩] by
                  rw [HSU.out, if_pos (by rfl), toE_app, ← List.append_assoc, HLN.out]; rfl)
                have hln2 : ln = n1 := HL1N.out
                have hlnb : ln ≤ 16 := by have := HLN.out; omega
                subst hln2
                have hO1q := hO1.bel (bel1 w6 (.cells #[.int .i64 (ln : Int), .int .i64 (j : Int)] 115))
                have hOq := hO2.bel (bel1 w6 (.cells #[.int .i64 (ln : Int), .int .i64 (j : Int)] 115))
                have hZq := hZ.bel (bel1 w6 (.cells #[.int .i64 (ln : Int), .int .i64 (j : Int)] 115))
                have hsw := hb.size
                have hsq : W0.heap.size ≤ (w6.alloc (.cells #[.int .i64 (ln : Int), .int .i64 (j : Int)] 115)).heap.size := by simp; omega
                have hby2 : ((edgF x ON 0 ++ toE ON.length (mayN x ⟨id, kind, state, gst, lev, cab, cat, frm, upto, til, fol⟩ j)).length + 1) * 16 ≤ 140737488355328 := by
                  obtain ⟨_, _, _, he, hs9⟩ := hO2.sl edgC_good
                  simp only [Value.slice.injEq] at he
                  have := hs9.len
                  omega
                have HBQ := Lib.hid (hb.alloc hb.size (.cells #[.int .i64 (ln : Int), .int .i64 (j : Int)] 115))
                have HPOST := Lib.hid (fun (v' : Value) (w' : World) (xs' : List Value) (hown' : Own edgC 2 115 w' W0.heap.size v' ((edgF x ON 0 ++ toE ON.length (mayN x ⟨id, kind, state, gst, lev, cab, cat, frm, upto, til, fol⟩ j)) ++ [⟨(ln : Int), (j : Int)⟩]) xs') (hg' : (w6.alloc (.cells #[.int .i64 (ln : Int), .int .i64 (j : Int)] 115)).grownBy w' (Value.slice A4 n4 c4).ownBlock) (hat : v'.ownBlock = (Value.slice A4 n4 c4).ownBlock ∨ v'.ownBlock = some (w6.alloc (.cells #[.int .i64 (ln : Int), .int .i64 (j : Int)] 115)).heap.size) =>
                  (⟨Own.grownF intC_flat hO1q hg' HAP.out, Apart.step HAP.out (fun k hk => (hO1q.lt k hk).2) hat, (show v'.ownBlock ≠ some z from by
                    rcases hat with e | e
                    · rw [e]; exact HNE.out
                    · rw [e]; intro h2; injection h2 with h2; have := hZq.lt; omega), Blk.grown hZq hg' (fun e => HNE.out e.symm), below_app HBQ.out hOq hg' hsq⟩ : Own intC 1 3 w' W0.heap.size (.slice A1 ln c1) (ON.map (·.id)) xs1 ∧ Apart (.slice A1 ln c1) v' ∧ v'.ownBlock ≠ some z ∧ Blk w' z (bkgA ⟨id, kind, state, gst, lev, cab, cat, frm, upto, til, fol⟩ (.slice A3 n3 c3)) 37 ∧ Below W0.heap.size W0 w'))
                have HSLE := Lib.hid (sl_edg w6 All (ln : Int) (j : Int) 115 (.of (by omega) (by omega)) (.of (by omega) (by omega)) trivial)
                have HOQ := Lib.hid hOq
                clear hO1 hO2 hZ hY hO1q hOq hZq hb
                go_wp2_with (at_builtin; refine list_app (t := 65) (e := 115) (bytes := 16) rfl (.tmp 38) (.tmp 43) rfl edg_elem edgC_good rfl HOQ.out rfl HSLE.out (fun _ _ hc => hc) hby2 (by omega) hsq ?_; intro v' w' xs' hown' hg' hat')
                obtain ⟨p1, p2, p3, p4, p5⟩ := HPOST.out _ _ _ hown' hg' hat'
                go_roundg (m - (j + 1))
                case measure => omega
                case rel => exact ⟨j + 1, xs', by omega, by omega, by go_num, p1, by rw [HV2.out]; exact hown', p2, p3, p4, p5⟩
          · obtain rfl : j = m := by omega
            have HV3 := Lib.hid (show edgF x (openN x (k + 1)) 0 = edgF x ON 0 ++ toE ON.length (mayN x ⟨id, kind, state, gst, lev, cab, cat, frm, upto, til, fol⟩ j) by rw [HV.out, edgF_snoc, Nat.zero_add, mayL_eq, HM.out])
            have HV4 := Lib.hid (show (openN x (k + 1)).map (·.id) = ON.map (·.id) ++ [id] by rw [HV.out, List.map_append]; rfl)
            have z0 : wr.cell? ⟨z, 0, none⟩ = some (.int .i64 id) := hZ.cell rfl
            have hOq := hO1.bel (bel1 wr (.cells #[.int .i64 id] 3))
            have hO2q := hO2.bel (bel1 wr (.cells #[.int .i64 id] 3))
            have hsw := hb.size
            have hsq : W0.heap.size ≤ (wr.alloc (.cells #[.int .i64 id] 3)).heap.size := by simp; omega
            have hby2 : ((ON.map (·.id)).length + 1) * 8 ≤ 140737488355328 := by rw [List.length_map]; omega
            have HBQ := Lib.hid (hb.alloc hb.size (.cells #[.int .i64 id] 3))
            have HPOST := Lib.hid (fun (v' : Value) (w' : World) (xs' : List Value) (hown' : Own intC 1 3 w' W0.heap.size v' (ON.map (·.id) ++ [id]) xs') (hg' : (wr.alloc (.cells #[.int .i64 id] 3)).grownBy w' (Value.slice A1 n1 c1).ownBlock) (hat : v'.ownBlock = (Value.slice A1 n1 c1).ownBlock ∨ v'.ownBlock = some (wr.alloc (.cells #[.int .i64 id] 3)).heap.size) =>
              (⟨Own.grownF edgC_flat hO2q hg' hap.symm, (Apart.step hap.symm (fun k hk => (hO2q.lt k hk).2) hat).symm, below_app HBQ.out hOq hg' hsq⟩ : Own edgC 2 115 w' W0.heap.size (.slice A4 n4 c4) (edgF x ON 0 ++ toE ON.length (mayN x ⟨id, kind, state, gst, lev, cab, cat, frm, upto, til, fol⟩ j)) xs2 ∧ Apart v' (.slice A4 n4 c4) ∧ Below W0.heap.size W0 w'))
            have HSLI := Lib.hid (sl_int wr All id 3 hidI'.out trivial)
            have HOQ := Lib.hid hOq
            clear hO1 hO2 hZ hOq hO2q hb hs4 hap hne
            go_wp2_with (at_builtin; refine list_app (t := 47) (e := 3) (bytes := 8) rfl (.tmp 46) (.tmp 49) rfl int_elem intC_good rfl HOQ.out rfl HSLI.out (fun _ _ hc => hc) hby2 (by omega) hsq ?_; intro v' w' xs' hown' hg' hat')
            obtain ⟨p1, p2, p3⟩ := HPOST.out _ _ _ hown' hg' hat'
            go_roundg (nb - (k + 1))
            case measure => omega
            case rel => exact ⟨k + 1, xs', xs2, by omega, by omega, by go_num, by rw [HV4.out]; exact hown', by rw [HV3.out]; exact p1, p2, p3⟩
    · obtain rfl : k = nb := by omega
      rw [openN_all HN.out] at hO1 hO2
      have HO1 := Lib.hid (hO1.mono intC_good HBW.out.size)
      have HO2 := Lib.hid (hO2.mono edgC_good HBW.out.size)
      clear hO1 hO2 hs1 hs2
      go_wp2_with fail
      go_ret2
      exact ⟨_, _, xs1, xs2, rfl, HO1.out, HO2.out, HBW.out.trans (hb.mono HBW.out.size)⟩
end Go.Proofs.YtoilcdgpeilgaaaGreat
namespace Go.Proofs.YtoilcdgpeilgaaaGreat
open Go.RowKit Go.Shelf
theorem bks_ok {x : Sai} (ho : OkShp x.ship) (h : bksE x = 0) : OkBs x := by
  unfold bksE at h
  by_cases h1 : 16 < x.bks.length
  · rw [if_pos h1] at h; omega
  rw [if_neg h1] at h
  by_cases h2 : firstE (bkE1 x) x.bks.length ≠ 0
  · rw [if_pos h2] at h; exact absurd h h2
  rw [if_neg h2] at h
  have h2 : firstE (bkE1 x) x.bks.length = 0 := Decidable.not_not.1 h2
  have hat : ∀ i b, x.bks[i]? = some b → ofE x.ship b = 0 ∧ ¬ (0 < i ∧ b.id ≤ (x.bks.getD (i - 1) default).id) := fun i b hb => by
    have h3 := firstE_zero h2 i (List.getElem?_eq_some_iff.1 hb).1
    rw [bkE1_at hb] at h3
    by_cases h4 : ofE x.ship b ≠ 0
    · rw [if_pos h4] at h3; exact absurd h3 h4
    · rw [if_neg h4] at h3
      refine ⟨Decidable.not_not.1 h4, fun hc => ?_⟩
      rw [if_pos hc] at h3; omega
  refine ⟨ho, fun b hb => ?_, by omega, fun i hi => ?_, ?_⟩
  · obtain ⟨i, hi⟩ := List.getElem?_of_mem hb
    exact bk_ok (hat i b hi).1
  · have hb : x.bks[i + 1]? = some x.bks[i + 1] := List.getElem?_eq_getElem hi
    have h3 := (hat (i + 1) _ hb).2
    rw [Nat.add_sub_cancel] at h3
    have h4 : x.bks.getD (i + 1) default = x.bks[i + 1] := by rw [List.getD_eq_getElem?_getD, hb]; rfl
    rw [h4]
    omega
  · cases hq : x.bks.any (badB x.closed) with
    | false => rfl
    | true => rw [if_pos hq] at h; omega
theorem allB_asked {left right : Nat} {l : List Edg} {has : List Int} {no : List Nat} {D : Nat → Prop} (h : Asked (nbrs l) right (fun x => x < left) has no D) (hg : OkGr left right l) : allB left l = decide (no.length = 0) := by
  by_cases h0 : no.length = 0
  · rw [decide_eq_true h0]
    have := h.best (nbrs_lt hg)
    exact allB_true ⟨_, h.isM, by omega⟩
  · rw [decide_eq_false h0]
    cases hq : allB left l with
    | false => rfl
    | true =>
      obtain ⟨M, hM, hl⟩ := allB_iff.1 hq
      have := h.most (nbrs_lt hg) hM
      omega
set_option maxRecDepth 100000 in
set_option maxHeartbeats 1000000 in
theorem All_any (left right : Nat) (A : Option Addr) (n cap : Nat) (l : List Edg) (w : World) (h : Sl edgC 2 w All A n cap l) (hl : left ≤ 16) (hr : right ≤ 16) (hg : OkGr left right l) (hn : n ≤ 1000) :
    Calls Tryz.prog 178 #[.int .i64 (left : Int), .int .i64 (right : Int), .slice A n cap] w fun e w' => e = .returned (.bool (allB left l)) ∧ Below w.heap.size w w' := by
  have HS := Lib.hid (solve_any left right A n cap l w h hl hr hg hn)
  have HG := Lib.hid hg
  clear h hg
  go_enter Tryz.func178, Tryz.ntmps178
  go_wp2_with fail
  refine HS.out.mono ?_
  rintro e w1 ⟨P, G, N, O, v, has, no, D, xs, rfl, _, hO, hA, _, _, _, hb⟩
  obtain ⟨A1, n1, c1, rfl, hs1⟩ := hO.sl intC_good
  have hn1 : n1 = no.length := by have := hs1.len; rw [List.length_map] at this; exact this.symm
  have HV := Lib.hid (show allB left l = decide (n1 = 0) by rw [allB_asked hA HG.out, hn1])
  clear hO hA hs1 hn1
  by_cases h0 : n1 = 0
  · have HV2 := Lib.hid (HV.out.trans (decide_eq_true h0))
    subst h0
    go_wp2_with fail
    go_ret
    exact ⟨retB HV2.out.symm, hb⟩
  · have HV2 := Lib.hid (HV.out.trans (decide_eq_false h0))
    have h0' : ((n1 : Int) == 0) = false := by rw [beq_eq_false_iff_ne]; omega
    clear h0
    go_wp2_with fail
    go_ret
    exact ⟨retB HV2.out.symm, hb⟩
theorem any_range {p : Nat → Bool} {n i : Nat} (hi : i < n) (hp : p i = true) : (List.range n).any p = true := List.any_eq_true.2 ⟨i, List.mem_range.2 hi, hp⟩
theorem any_range_no {p : Nat → Bool} {n : Nat} (h : ∀ i, i < n → p i = false) : (List.range n).any p = false := List.any_eq_false.2 fun i hi => by rw [h i (List.mem_range.1 hi)]; simp
set_option maxRecDepth 100000 in
set_option maxHeartbeats 16000000 in
theorem Room_any (x : Sai) (p : SaiV) (w : World) (h : SaiR w x p) (ho : OkShp x.ship) (hk : ∀ b ∈ x.bks, OkBk x.ship b) (h16 : x.bks.length ≤ 16) :
    Calls Tryz.prog 92 #[.agg (saiA x p)] w fun e w' => e = .returned (.int .i64 (roomE x)) ∧ Below w.heap.size w w' := by
  have HOP := Lib.hid (fun W h => Open_any x p W h ho hk h16)
  have HS := Lib.hid h
  obtain ⟨A, n, cap, B, m, cap2, D, nd, cd, E, ne, ce, C, nb, cb⟩ := p
  have hl : Sl bkgC 11 w All C nb cb x.bks := h.bks
  have hd : Sl cabC 4 w All B m cap2 x.ship.cabs := h.cabs
  have hnb : nb ≤ 16 := by rw [← hl.len]; exact h16
  have hm12 : m ≤ 12 := by rw [← hd.len]; exact ho.cabs12
  have HTK := Lib.hid (fun (c : Int) W hW => Taken_any C nb cb x.bks c W hW (spOk_of ho hk) (by omega))
  obtain ⟨r, hr⟩ : ∃ r, r = roomE x := ⟨_, rfl⟩
  rw [← hr]
  have HR := Lib.hid (show r = if (List.range m).any (fun c => !takB x.bks (c : Int)) = true then 6 else if x.ship.souls < mx (soulL x.bks x.ship.legs.toNat) then 8 else if allB (idsL x).length (edgL x) = true then 0 else 9 by rw [hr, ← hd.len]; rfl)
  have HN := Lib.hid hl.len
  have HM := Lib.hid hd.len
  have HL := Lib.hid hl
  have HOK := Lib.hid ho
  have HK := Lib.hid hk
  clear hk
  have HL16 := Lib.hid h16
  clear h16
  clear h hl hd hr ho
  go_enter Tryz.func92, Tryz.ntmps92
  go_upto_region 0 with (fail)
  go_cut [1, 2] (fun q _ wx => ∃ g, q = .pointer (some ⟨g, 0, none⟩) ∧ Blk wx g (saiA x ⟨A, n, cap, B, m, cap2, D, nd, cd, E, ne, ce, C, nb, cb⟩) 32 ∧ Below w.heap.size w wx)
  case first => as_aux_lemma =>
    go_wp2_with fail
    go_meet
    exact ⟨_, rfl, blk1 _ _, bel1 _ _⟩
  obtain ⟨g, rfl, hG, hbw⟩ := hcut
  have s3 : wc.cell? ⟨g, 3, none⟩ = some (.slice B m cap2) := hG.cell rfl
  obtain ⟨W0, hW0⟩ : ∃ W, W = wc := ⟨_, rfl⟩
  subst hW0
  have HG := Lib.hid hG
  clear hG
  have HBW := Lib.hid hbw
  clear hbw
  go_wp2_with fail
  go_loopg [12] m (fun gk i wr => ∃ k : Nat, k ≤ m ∧ m - k ≤ gk ∧ i = .int .i64 k ∧ Aside (∀ j, j < k → takB x.bks (j : Int) = true) ∧ Below W0.heap.size W0 wr)
  case atStart => exact ⟨0, Nat.zero_le _, by omega, rfl, fun j hj => absurd hj (Nat.not_lt_zero _), Below.refl _ _⟩
  case round =>
    clear s3
    obtain ⟨k, hk, hgk, rfl, HE, hb⟩ := hrel
    have hG := HG.out.bel hb
    have hbo := HBW.out.trans (hb.mono HBW.out.size)
    by_cases hlt : k < m
    · have s11 : wr.cell? ⟨g, 11, none⟩ = some (.slice C nb cb) := hG.cell rfl
      have hcall := HTK.out (k : Int) wr (HL.out.bel hbo)
      obtain ⟨q, hq⟩ : ∃ q, q = takB x.bks (k : Int) := ⟨_, rfl⟩
      rw [← hq] at hcall
      have HCALL := Lib.hid hcall
      clear hcall
      have HQ := Lib.hid hq
      clear hq
      clear hG
      go_wp2_with fail
      refine HCALL.out.mono ?_
      rintro e w2 ⟨v, xs, rfl, hO, hb2⟩
      obtain ⟨A1, n1, c1, rfl, _⟩ := hO.sl spanC_good
      replace hb := hb.trans (hb2.mono hb.size)
      replace hbo := hbo.trans (hb2.mono hbo.size)
      clear hO hb2 s11
      cases q
      · obtain rfl : r = 6 := by rw [HR.out, if_pos (any_range hlt (by show (!takB x.bks (k : Int)) = true; rw [← HQ.out]; rfl))]
        go_wp2_with fail
        go_ret
        exact ⟨rfl, hbo⟩
      · skip
        go_wp2_with fail
        go_roundg (m - (k + 1))
        case measure => omega
        case rel => exact ⟨k + 1, by omega, by omega, by go_num, fun j hj => by
          by_cases e : j = k
          · subst e; exact HQ.out.symm
          · exact HE j (by omega), hb⟩
    · obtain rfl : k = m := by omega
      have HR2 := Lib.hid (HR.out.trans (if_neg (by
        rw [any_range_no (fun i hi => by show (!takB x.bks (i : Int)) = false; rw [HE i hi]; rfl)]; simp)))
      have hlg := shp_legs HOK.out
      obtain ⟨N, hNl⟩ : ∃ N : Nat, x.ship.legs = N := ⟨x.ship.legs.toNat, by omega⟩
      have hNt : x.ship.legs.toNat = N := by omega
      have HAB := Lib.hid (fun W hW => Aboard_any N C nb cb x.bks W hW (by rw [← hNt]; exact abOk_of HOK.out HK.out) (by omega) (by omega))
      obtain ⟨sl, hsl⟩ : ∃ q, q = soulL x.bks N := ⟨_, rfl⟩
      rw [← hsl, ← hNl] at HAB
      have HSLN := Lib.hid (show sl.length = N by rw [hsl]; exact soulL_len _ _)
      have HSB := Lib.hid (show ∀ y ∈ sl, 0 ≤ y ∧ y ≤ 4 * nb from fun y hy => by
        rw [hsl] at hy
        obtain ⟨i, hi⟩ := List.getElem?_of_mem hy
        have hlt : i < N := by have := (List.getElem?_eq_some_iff.1 hi).1; rwa [soulL_len] at this
        rw [soulL_get _ _ _ hlt] at hi
        injection hi with hi
        have := soulK_bd (l := x.bks) (fun b hb => (HK.out b hb).gst) i
        have := HN.out
        omega)
      have HN7 := Lib.hid (show 0 < N ∧ N ≤ 7 from by omega)
      obtain ⟨M, hM⟩ : ∃ M, M = mx sl := ⟨_, rfl⟩
      have HR3 := Lib.hid (show r = if x.ship.souls < M then 8 else if allB (idsL x).length (edgL x) = true then 0 else 9 by rw [HR2.out, hNt, ← hsl, ← hM])
      have HMX := Lib.hid hM
      clear hM
      have HCEL := Lib.hid (show ∀ X, Below wr.heap.size wr X → (fun w' => w'.cell? ⟨g, 0, none⟩ = some (.int .i64 x.ship.legs) ∧ w'.cell? ⟨g, 1, none⟩ = some (.int .i64 x.ship.souls) ∧ w'.cell? ⟨g, 11, none⟩ = some (.slice C nb cb)) X from fun X hX => ⟨(hG.bel hX).cell rfl, (hG.bel hX).cell rfl, (hG.bel hX).cell rfl⟩)
      have HLW := Lib.hid (HL.out.bel hbo)
      clear hlg hNl hNt hsl HE HR2 HR
      go_upto_region 8 with (fail)
      go_cut [35] (fun t wx => t = .bool (decide (x.ship.souls < M)) ∧ Below wr.heap.size wr wx)
      case first => as_aux_lemma =>
        have hbx : Below wr.heap.size wr wr.drew := (Below.refl _ wr).drew
        clear hG hb hbo
        refine wp_region_held_drew (S := (fun w' => w'.cell? ⟨g, 0, none⟩ = some (.int .i64 x.ship.legs) ∧ w'.cell? ⟨g, 1, none⟩ = some (.int .i64 x.ship.souls) ∧ w'.cell? ⟨g, 11, none⟩ = some (.slice C nb cb))) (by kernel_rfl) (HCEL.out _ hbx) (fun hHeld => ?_)
        refine wpAnyH_take (i := 0) (v := ?v1) (gA rfl) (by kernel_rfl) (by kernel_rfl) (by kernel_rfl) (fun _ _ _ h => h) (Or.inl ⟨rfl, ?y1⟩) (by assumption) ?_
        case y1 => (intro w hSw; (try dsimp only at hSw); go_simp <;> with_reducible rfl)
        simp only [Act.put, List.setIfInBounds_toArray, List.set_cons_zero, List.set_cons_succ]
        refine wpAnyH_take (i := 1) (v := ?v2) (gA rfl) (by kernel_rfl) (by kernel_rfl) (by kernel_rfl) (fun _ _ _ h => h) (Or.inl ⟨rfl, ?y2⟩) (by assumption) ?_
        case y2 => (intro w hSw; (try dsimp only at hSw); go_simp <;> with_reducible rfl)
        simp only [Act.put, List.setIfInBounds_toArray, List.set_cons_zero, List.set_cons_succ]
        refine wpAnyH_take (i := 2) (v := ?v3) (gA rfl) (by kernel_rfl) (by kernel_rfl) (by kernel_rfl) (fun _ _ _ h => h) (Or.inl ⟨rfl, ?y3⟩) (by assumption) ?_
        case y3 => (intro w hSw; (try dsimp only at hSw); go_simp <;> with_reducible rfl)
        simp only [Act.put, List.setIfInBounds_toArray, List.set_cons_zero, List.set_cons_succ]
        refine wpAnyH_take (i := 3) (v := ?v4) (gA rfl) (by kernel_rfl) (by kernel_rfl) (by kernel_rfl) (fun _ _ _ h => h) (Or.inl ⟨rfl, ?y4⟩) (by assumption) ?_
        case y4 => (intro w hSw; (try dsimp only at hSw); go_simp <;> with_reducible rfl)
        simp only [Act.put, List.setIfInBounds_toArray, List.set_cons_zero, List.set_cons_succ]
        refine wpAnyH_take (i := 4) (v := ?v5) (gA rfl) (by kernel_rfl) (by kernel_rfl) (by kernel_rfl) (fun _ _ _ h => h) (Or.inl ⟨rfl, ?y5⟩) (by assumption) ?_
        case y5 => (intro w hSw; (try dsimp only at hSw); go_simp <;> with_reducible rfl)
        simp only [Act.put, List.setIfInBounds_toArray, List.set_cons_zero, List.set_cons_succ]
        refine wpAnyH_take (i := 7) (v := ?v6) (gA rfl) (by kernel_rfl) (by kernel_rfl) (by kernel_rfl) (fun _ _ _ h => h) (Or.inl ⟨rfl, ?y6⟩) (by assumption) ?_
        case y6 => (intro w hSw; (try dsimp only at hSw); go_simp <;> with_reducible rfl)
        simp only [Act.put, List.setIfInBounds_toArray, List.set_cons_zero, List.set_cons_succ]
        refine wpAnyH_take (i := 8) (v := ?v7) (gA rfl) (by kernel_rfl) (by kernel_rfl) (by kernel_rfl) (fun _ _ _ h => h) (Or.inl ⟨rfl, ?y7⟩) (by assumption) ?_
        case y7 => (intro w hSw; (try dsimp only at hSw); go_simp <;> with_reducible rfl)
        simp only [Act.put, List.setIfInBounds_toArray, List.set_cons_zero, List.set_cons_succ]
        refine wpAnyH_take (i := 9) (v := ?v8) (gA rfl) (by kernel_rfl) (by kernel_rfl) (by kernel_rfl) (fun _ _ _ h => h) (Or.inl ⟨rfl, ?y8⟩) (by assumption) ?_
        case y8 => (intro w hSw; (try dsimp only at hSw); go_simp <;> with_reducible rfl)
        simp only [Act.put, List.setIfInBounds_toArray, List.set_cons_zero, List.set_cons_succ]
        refine wpAnyH_ready (rs := [5]) (by kernel_rfl) (by simp) (AllReadyH.cons (gA rfl) (fun K hK => ?_) AllReadyH.nil)
        go_simp
        (go_at_call 152; refine (HAB.out _ (HLW.out.bel hbx)).mono ?_; rintro e w3 ⟨G, rfl, hG2, hR, hb3⟩; have hown := hR.own (base := 0) (by omega) (fun y hy => by have := HSB.out y hy; exact .of (by omega) (by omega)) (by have := HSLN.out; have := HN7.out.2; omega); rw [HSLN.out] at hown; obtain ⟨A4, n4, c4, hv4, hs4⟩ := hown.sl intC_good; simp only [Value.slice.injEq] at hv4; obtain ⟨rfl, rfl, rfl⟩ := hv4; have HM4 := Lib.hid (Max_int _ _ _ sl w3 (hs4.all intC_good (by omega)) HN7.out.1 (fun y hy => (HSB.out y hy).1)); rw [← HMX.out] at HM4; replace hbx := hbx.trans (hb3.mono hbx.size); clear hb3 hown hs4 hR)
        go_wp2_with fail
        refine hK.out _ _ ?_ (fun hHeld => ?_)
        · exact HCEL.out _ hbx
        clear hK K
        try simp only [Act.put, List.setIfInBounds_toArray, List.set_cons_zero, List.set_cons_succ]
        refine wpAnyH_ready (rs := [6]) (by kernel_rfl) (by simp) (AllReadyH.cons (gA rfl) (fun K hK => ?_) AllReadyH.nil)
        go_simp
        (go_at_call 153; refine HM4.out.mono ?_; rintro e w4 ⟨rfl, rfl⟩)
        go_wp2_with fail
        refine hK.out _ _ ?_ (fun hHeld => ?_)
        · exact HCEL.out _ hbx
        clear hK K
        try simp only [Act.put, List.setIfInBounds_toArray, List.set_cons_zero, List.set_cons_succ]
        refine wpAnyH_take (i := 10) (v := ?v11) (gA rfl) (by kernel_rfl) (by kernel_rfl) (by kernel_rfl) (fun _ _ _ h => h) (Or.inl ⟨rfl, ?y11⟩) (by assumption) ?_
        case y11 => (intro w hSw; (try dsimp only at hSw); go_simp <;> with_reducible rfl)
        simp only [Act.put, List.setIfInBounds_toArray, List.set_cons_zero, List.set_cons_succ]
        refine wpAnyH_done (by kernel_rfl) ?_ _
        go_wp2_with fail
        go_meet
        exact ⟨rfl, hbx⟩
      obtain ⟨rfl, hb1⟩ := hcut
      replace hG := hG.bel hb1
      replace hb := hb.trans (hb1.mono hb.size)
      replace hbo := hbo.trans (hb1.mono hbo.size)
      clear hb1 HCEL HLW HAB
      by_cases h8 : x.ship.souls < M
      · obtain rfl : r = 8 := by rw [HR3.out, if_pos h8]
        clear hG
        go_wp2_with fail
        go_ret
        exact ⟨rfl, hbo⟩
      have HR4 := Lib.hid (HR3.out.trans (if_neg h8))
      have h8' : M ≤ x.ship.souls := by omega
      have HCALL := Lib.hid (HOP.out _ (HS.out.bel hbo))
      have s0 : wc.cell? ⟨g, 0, none⟩ = some (.int .i64 x.ship.legs) := hG.cell rfl
      have s1 : wc.cell? ⟨g, 1, none⟩ = some (.int .i64 x.ship.souls) := hG.cell rfl
      have s2 : wc.cell? ⟨g, 2, none⟩ = some (.slice A n cap) := hG.cell rfl
      have s3 : wc.cell? ⟨g, 3, none⟩ = some (.slice B k cap2) := hG.cell rfl
      have s4 : wc.cell? ⟨g, 4, none⟩ = some (.slice D nd cd) := hG.cell rfl
      have s5 : wc.cell? ⟨g, 5, none⟩ = some (.int .i64 x.fares.alone) := hG.cell rfl
      have s6 : wc.cell? ⟨g, 6, none⟩ = some (.int .i64 x.fares.third) := hG.cell rfl
      have s7 : wc.cell? ⟨g, 7, none⟩ = some (.slice E ne ce) := hG.cell rfl
      have s8 : wc.cell? ⟨g, 8, none⟩ = some (.int .i64 x.fares.down) := hG.cell rfl
      have s9 : wc.cell? ⟨g, 9, none⟩ = some (.int .i64 x.day) := hG.cell rfl
      have s10 : wc.cell? ⟨g, 10, none⟩ = some (.int .i64 x.leaves) := hG.cell rfl
      have s11 : wc.cell? ⟨g, 11, none⟩ = some (.slice C nb cb) := hG.cell rfl
      have s12 : wc.cell? ⟨g, 12, none⟩ = some (.bool x.closed) := hG.cell rfl
      have HGG := Lib.hid hG
      clear hG h8
      go_wp2_with fail
      refine HCALL.out.mono ?_
      rintro e w5 ⟨v1, v2, xs1, xs2, rfl, hO1, hO2, hb5⟩
      obtain ⟨A1, n1, c1, rfl, hs1⟩ := hO1.sl intC_good
      obtain ⟨A2, n2, c2, rfl, hs2⟩ := hO2.sl edgC_good
      have hG := HGG.out.bel hb5
      have s3 : w5.cell? ⟨g, 3, none⟩ = some (.slice B k cap2) := hG.cell rfl
      have hn1 : n1 = (idsL x).length := hs1.len.symm
      have hn1' : n1 ≤ 16 := by have := ids_len x; rw [hn1]; have := HL16.out; omega
      have hgr := edgL_ok x
      rw [← hn1, HM.out] at hgr
      have hn2 : n2 ≤ 1000 := by
        have h1 := edgF_len x (openL x) 0
        have h2 : (openL x).length ≤ 16 := by have := ids_len x; unfold idsL at this; rw [List.length_map] at this; have := HL16.out; omega
        have h3 : (openL x).length * x.ship.cabs.length ≤ 16 * 12 := Nat.mul_le_mul h2 (by rw [HM.out]; exact hm12)
        have h4 := hs2.len
        unfold edgL at h4
        omega
      have hall := All_any n1 k A2 n2 c2 (edgL x) w5 (hs2.all edgC_good (by omega)) hn1' (by omega) hgr hn2
      obtain ⟨q, hq⟩ : ∃ q, q = allB n1 (edgL x) := ⟨_, rfl⟩
      have HR5 := Lib.hid (show r = if q = true then 0 else 9 by rw [HR4.out, hq, hn1])
      rw [← hq] at hall
      have HALL := Lib.hid hall
      clear hall
      replace hbo := hbo.trans (hb5.mono hbo.size)
      clear hb5 hO1 hO2 hs1 hs2 hgr hn1 hn2 hq s0 s1 s2 s4 s5 s6 s7 s8 s9 s10 s11 s12 hG hb
      go_wp2_with fail
      refine HALL.out.mono ?_
      rintro e w6 ⟨rfl, hb6⟩
      replace hbo := hbo.trans (hb6.mono hbo.size)
      cases q
      · obtain rfl : r = 9 := HR5.out
        go_wp2_with fail
        go_ret
        exact ⟨rfl, hbo⟩
      · obtain rfl : r = 0 := HR5.out
        go_wp2_with fail
        go_ret
        exact ⟨rfl, hbo⟩
end Go.Proofs.YtoilcdgpeilgaaaGreat
