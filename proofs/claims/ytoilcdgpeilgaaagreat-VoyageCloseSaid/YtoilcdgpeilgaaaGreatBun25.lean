/-
  Words, laws and contracts: StockI, StockT, StockW.
-/
import Derived.Test.YtoilcdgpeilgaaaGreatBun24
import Derived.BigQuiet
set_option linter.unusedSimpArgs false
set_option linter.unusedVariables false
namespace Go.Proofs.YtoilcdgpeilgaaaGreat
open Go.RowKit Go.Shelf
def mst (l : List Int) : Int := max 0 (mx l)
theorem mst_succ {l : List Int} {k : Nat} {x : Int} (h : l[k]? = some x) : mst (l.take (k + 1)) = max (mst (l.take k)) x := by
  unfold mst
  rw [take_snoc h, mx_snoc]; omega
set_option maxHeartbeats 1000000 in
theorem most_any (A : Option Addr) (n cap : Nat) (l : List Int) (w : World) (h : Sl intC 1 w All A n cap l) (h0 : ∀ x ∈ l, -1000000000000000 ≤ x ∧ x ≤ 1000000000000000) :
    Calls Tryz.prog 190 #[.slice A n cap] w fun e w' => e = .returned (.int .i64 (mst l)) ∧ ∃ q, w' = w.drewN q := by
  have hbd := h.bd
  have HN := Lib.hid h.len
  have HS := Lib.hid h
  have HH := Lib.hid h0
  clear h0
  clear h
  go_enter Tryz.func190, Tryz.ntmps190
  go_wp2_with fail
  go_loopg [3, 4] n (fun gk v i wr => ∃ k : Nat, k ≤ n ∧ n - k ≤ gk ∧ i = .int .i64 k ∧ v = .int .i64 (mst (l.take k)) ∧ wr = w)
  case atStart => exact ⟨0, Nat.zero_le _, by omega, rfl, rfl, rfl⟩
  case round =>
    obtain ⟨k, hk, hgk, rfl, rfl, rfl⟩ := hrel
    obtain ⟨M, hM⟩ : ∃ M, M = mst (l.take k) := ⟨_, rfl⟩
    rw [← hM]
    by_cases hlt : k < n
    · obtain ⟨b, off, y, c0, rfl, hy, ⟨hc, _⟩, g0⟩ := HS.out.at1 hlt
      simp only [List.cons.injEq, and_true] at hc
      subst hc
      have hst := mst_succ hy
      rw [← hM] at hst
      have HST := Lib.hid hst
      clear hst
      have HMM := Lib.hid hM
      clear hM
      clear hy
      have hk0 : (0 : Int) ≤ (k : Int) := Int.natCast_nonneg _
      have hk1 : (k : Int) < (n : Int) := by omega
      by_cases hgt : M < y
      · have HV := Lib.hid (show mst (l.take (k + 1)) = y by rw [HST.out]; omega)
        go_wp2_with fail
        go_roundg (n - (k + 1))
        case measure => omega
        case rel => exact ⟨k + 1, by omega, by omega, by go_num, by rw [HV.out], rfl⟩
      · have HV := Lib.hid (show mst (l.take (k + 1)) = M by rw [HST.out]; omega)
        go_wp2_with fail
        go_roundg (n - (k + 1))
        case measure => omega
        case rel => exact ⟨k + 1, by omega, by omega, by go_num, by rw [HV.out], rfl⟩
    · obtain rfl : k = n := by omega
      have HV := Lib.hid (show M = mst l by rw [hM, List.take_of_length_le (Nat.le_of_eq HN.out)])
      clear hM
      go_wp2_with fail
      go_ret
      exact ⟨retI HV.out, 0, rfl⟩
theorem empty_iff {l : List Bkg} {c : Nat} (hok : SpOk l) : (takB l (c : Int) && decide ((takL l (c : Int)).length = 0)) = emptyB l c := by
  have h1 : (spL l (c : Int)).length = 0 ↔ emptyB l c = true := by
    unfold spL emptyB
    rw [List.length_map, List.length_eq_zero_iff, List.filter_eq_nil_iff]
    simp
  cases hq : spF (spL l (c : Int)) with
  | none =>
    have e1 : takB l (c : Int) = false := by unfold takB; rw [hq]; rfl
    rw [e1, Bool.false_and]
    cases he : emptyB l c with
    | false => rfl
    | true =>
      have := List.eq_nil_of_length_eq_zero (h1.2 he)
      rw [this] at hq
      cases hq
  | some o =>
    obtain ⟨e1, e2⟩ := tak_of hq
    have hp := (spF_some (fun x hx => (spL_ok hok x hx).2.1) hq).1
    rw [e1, e2, Bool.true_and, hp.length_eq]
    cases he : emptyB l c with
    | true => exact decide_eq_true (h1.2 he)
    | false => exact decide_eq_false fun h => by rw [h1.1 h] at he; cases he
set_option maxRecDepth 100000 in
set_option maxHeartbeats 16000000 in
theorem PromisesOf_any (x : Sai) (p : SaiV) (w : World) (h : SaiR w x p) (ho : OkShp x.ship) (hk : ∀ b ∈ x.bks, OkBk x.ship b) (h16 : x.bks.length ≤ 16) :
    Calls Tryz.prog 192 #[.agg (saiA x p)] w fun e w' => ∃ v1 v2 xs1 xs2, e = .returned (.tuple #[v1, v2]) ∧ Own intC 1 3 w' w.heap.size v1 (idsL x) xs1 ∧ Own edgC 2 115 w' w.heap.size v2 (edgL x) xs2 ∧ Below w.heap.size w w' := by
  obtain ⟨A, n, cap, B, m, cap2, D, nd, cd, E, ne, ce, C, nb, cb⟩ := p
  have hl : Sl bkgC 11 w All C nb cb x.bks := h.bks
  have hc : Sl catC 2 w All A n cap x.ship.cats := h.cats
  have hd : Sl cabC 4 w All B m cap2 x.ship.cabs := h.cabs
  have HEL := Lib.hid (fun b v (k : Nat) W h1 h2 h3 h4 h5 => IsEligible_any x.ship A n cap B m cap2 b v k W h1 h2 ho h3 h4 h5)
  have HSF := Lib.hid (fun (c : Int) W hW => SpansOf_any C nb cb x.bks c W hW (spOk_of ho hk))
  have HEM := Lib.hid (fun c : Nat => empty_iff (c := c) (spOk_of ho hk))
  have HN := Lib.hid hl.len
  have hnb : nb ≤ 16 := by rw [← hl.len]; exact h16
  have hm12 : m ≤ 12 := by rw [← hd.len]; exact ho.cabs12
  have HNC := Lib.hid hc.len
  have HM := Lib.hid hd.len
  have HL := Lib.hid hl
  have HC := Lib.hid hc
  have HD := Lib.hid hd
  have HK := Lib.hid hk
  clear hk
  clear h hl hc hd h16
  go_enter Tryz.func192, Tryz.ntmps192
  go_upto_region 0 with (fail)
  go_cut [1, 2, 3] (fun q _ _ wx => ∃ g, q = .pointer (some ⟨g, 0, none⟩) ∧ Blk wx g (saiA x ⟨A, n, cap, B, m, cap2, D, nd, cd, E, ne, ce, C, nb, cb⟩) 32 ∧ Below w.heap.size w wx)
  case first => as_aux_lemma =>
    go_wp2_with fail
    go_meet
    exact ⟨_, rfl, blk1 _ _, bel1 _ _⟩
  obtain ⟨g, rfl, hG, hbw⟩ := hcut
  obtain ⟨W0, hW0⟩ : ∃ W, W = wc := ⟨_, rfl⟩
  subst hW0
  have HGL := Lib.hid hG.lt
  have HG := Lib.hid hG
  clear hG
  have HBW := Lib.hid hbw
  clear hbw
  go_wp2_with fail
  go_loopg [4, 5, 6] nb (fun gk v1 v2 i wr => ∃ (k : Nat) (xs1 xs2 : List Value), k ≤ nb ∧ nb - k ≤ gk ∧ i = .int .i64 k ∧ Own intC 1 3 wr W0.heap.size v1 ((openN x k).map (·.id)) xs1 ∧ Own edgC 2 115 wr W0.heap.size v2 (edgF x (openN x k) 0) xs2 ∧ Apart v1 v2 ∧ Below W0.heap.size W0 wr)
  case atStart => exact ⟨0, [], [], Nat.zero_le _, by omega, rfl, Own.nil _ _ _ _ _, Own.nil _ _ _ _ _, Apart.nilL _, Below.refl _ _⟩
  case round =>
    obtain ⟨k, xs1, xs2, hk, hgk, rfl, hO1, hO2, hap, hb⟩ := hrel
    obtain ⟨A1, n1, c1, rfl, hs1⟩ := hO1.sl intC_good
    obtain ⟨A2, n2, c2, rfl, hs2⟩ := hO2.sl edgC_good
    have hG := HG.out.bel hb
    by_cases hlt : k < nb
    · have hln1 : n1 = (openN x k).length := by have := hs1.len; rw [List.length_map] at this; exact this.symm
      have hbo := HBW.out.trans (hb.mono HBW.out.size)
      obtain ⟨ab, off, ⟨id, kind, state, gst, lev, cab, cat, frm, upto, til, fol⟩, A3, n3, c3, hA, hx, hF, hI, hcel⟩ := (HL.out.bel hbo).bkg hlt
      subst hA
      simp only at hF
      have y0 : wr.cell? ⟨ab, off + k * 11, none⟩ = some (.int .i64 id) := hcel 0 _ rfl
      have y1 : wr.cell? ⟨ab, off + k * 11 + 1, none⟩ = some (.int .i64 kind) := hcel 1 _ rfl
      have y2 : wr.cell? ⟨ab, off + k * 11 + 2, none⟩ = some (.int .i64 state) := hcel 2 _ rfl
      have y3 : wr.cell? ⟨ab, off + k * 11 + 3, none⟩ = some (.int .i64 gst) := hcel 3 _ rfl
      have y4 : wr.cell? ⟨ab, off + k * 11 + 4, none⟩ = some (.bool lev) := hcel 4 _ rfl
      have y5 : wr.cell? ⟨ab, off + k * 11 + 5, none⟩ = some (.int .i64 cab) := hcel 5 _ rfl
      have y6 : wr.cell? ⟨ab, off + k * 11 + 6, none⟩ = some (.int .i64 cat) := hcel 6 _ rfl
      have y7 : wr.cell? ⟨ab, off + k * 11 + 7, none⟩ = some (.int .i64 frm) := hcel 7 _ rfl
      have y8 : wr.cell? ⟨ab, off + k * 11 + 8, none⟩ = some (.int .i64 upto) := hcel 8 _ rfl
      have y9 : wr.cell? ⟨ab, off + k * 11 + 9, none⟩ = some (.int .i64 til) := hcel 9 _ rfl
      have y10 : wr.cell? ⟨ab, off + k * 11 + 10, none⟩ = some (.slice A3 n3 c3) := hcel 10 _ rfl
      clear hcel
      have s11 : wr.cell? ⟨g, 11, none⟩ = some (.slice (some ⟨ab, off, none⟩) nb cb) := hG.cell rfl
      go_upto_region 6 with (fail)
      go_cut [7] (fun p1 wx => ∃ z, p1 = .pointer (some ⟨z, 0, none⟩) ∧ wr.heap.size ≤ z ∧ Blk wx z (bkgA ⟨id, kind, state, gst, lev, cab, cat, frm, upto, til, fol⟩ (.slice A3 n3 c3)) 37 ∧ Below wr.heap.size wr wx)
      case first => as_aux_lemma =>
        go_wp2_with fail
        go_meet
        exact ⟨_, rfl, Nat.le_refl _, blk1 _ _, bel1 _ _⟩
      obtain ⟨z, rfl, hzs, hZ, hbz⟩ := hcut
      clear y0 y1 y2 y3 y4 y5 y6 y7 y8 y9 y10 hs1 hs2 hF s11 hG
      have hl1 := hO1.lt
      have hl2 := hO2.lt
      have hz1 : (Value.slice A1 n1 c1).ownBlock ≠ some z := fun e => by have := (hl1 z e).2; omega
      have hz2 : (Value.slice A2 n2 c2).ownBlock ≠ some z := fun e => by have := (hl2 z e).2; omega
      replace hO1 := hO1.bel hbz
      replace hO2 := hO2.bel hbz
      replace hb := hb.trans (hbz.mono hb.size)
      have hfin := openN_succ hx
      have hopl := openN_len x k
      have HOK := Lib.hid (HK.out _ (List.mem_of_getElem? hx))
      obtain ⟨q, hq⟩ : ∃ q, q = openB ⟨id, kind, state, gst, lev, cab, cat, frm, upto, til, fol⟩ := ⟨_, rfl⟩
      have HCALL := Lib.hid (fun W => isOpen_any ⟨id, kind, state, gst, lev, cab, cat, frm, upto, til, fol⟩ (.slice A3 n3 c3) W)
      rw [← hq] at HCALL hfin
      obtain ⟨ON, hON⟩ : ∃ ON, ON = openN x k := ⟨_, rfl⟩
      rw [← hON] at hO1 hO2 hln1 hopl hfin
      have HFIN := Lib.hid hfin
      clear hfin
      have HQ := Lib.hid hq
      clear hq
      have HLN1 := Lib.hid hln1
      clear hln1
      have hidI := hI.id
      simp only at hidI
      have hidI' := Lib.hid hidI
      have z0 : wc.cell? ⟨z, 0, none⟩ = some (.int .i64 id) := hZ.cell rfl
      have z1 : wc.cell? ⟨z, 1, none⟩ = some (.int .i64 kind) := hZ.cell rfl
      have z2 : wc.cell? ⟨z, 2, none⟩ = some (.int .i64 state) := hZ.cell rfl
      have z3 : wc.cell? ⟨z, 3, none⟩ = some (.int .i64 gst) := hZ.cell rfl
      have z4 : wc.cell? ⟨z, 4, none⟩ = some (.bool lev) := hZ.cell rfl
      have z5 : wc.cell? ⟨z, 5, none⟩ = some (.int .i64 cab) := hZ.cell rfl
      have z6 : wc.cell? ⟨z, 6, none⟩ = some (.int .i64 cat) := hZ.cell rfl
      have z7 : wc.cell? ⟨z, 7, none⟩ = some (.int .i64 frm) := hZ.cell rfl
      have z8 : wc.cell? ⟨z, 8, none⟩ = some (.int .i64 upto) := hZ.cell rfl
      have z9 : wc.cell? ⟨z, 9, none⟩ = some (.int .i64 til) := hZ.cell rfl
      have z10 : wc.cell? ⟨z, 10, none⟩ = some ((.slice A3 n3 c3)) := hZ.cell rfl
      have HO1 := Lib.hid hO1
      clear hO1
      have HO2 := Lib.hid hO2
      clear hO2
      have HAP := Lib.hid hap
      clear hap
      have HZ1 := Lib.hid hz1
      clear hz1
      have HZ2 := Lib.hid hz2
      clear hz2
      clear hx hI hbz hON hl1 hl2 hidI hbo
      go_wp2_with fail
      refine (HCALL.out _).mono ?_
      rintro e w3 ⟨rfl, hb3⟩
      replace hb := hb.trans (hb3.mono hb.size)
      have hZ := hZ.bel hb3
      have hO1 := HO1.out.bel hb3
      have hO2 := HO2.out.bel hb3
      have hzw := hZ.lt
      clear hb3 z0 z1 z2 z3 z4 z5 z6 z7 z8 z9 z10 HCALL HO1 HO2
      cases q
      · have HV := Lib.hid (HFIN.out.trans (by simp : _ = ON))
        have HO1 := Lib.hid hO1
        clear hO1
        have HO2 := Lib.hid hO2
        clear hO2
        clear hZ
        go_wp2_with fail
        go_roundg (nb - (k + 1))
        case measure => omega
        case rel => exact ⟨k + 1, xs1, xs2, by omega, by omega, by go_num, by rw [HV.out]; exact HO1.out, by rw [HV.out]; exact HO2.out, HAP.out, hb⟩
      · have HV := Lib.hid (HFIN.out.trans (by simp : _ = ON ++ [⟨id, kind, state, gst, lev, cab, cat, frm, upto, til, fol⟩]))
        have HCT := Lib.hid (open_cat HOK.out HQ.out.symm)
        obtain ⟨ln, hln⟩ : ∃ ln : Nat, ln = n1 := ⟨_, rfl⟩
        have HLN := Lib.hid (hln.trans HLN1.out)
        have HL1N := Lib.hid hln
        have HO1 := Lib.hid hO1
        clear hO1
        have HO2 := Lib.hid hO2
        clear hO2
        have HZ := Lib.hid hZ
        clear hZ
        have HB := Lib.hid hb
        clear hb
        clear hln
        go_wp2_with fail
        go_loopg [5, 8] m (fun gk2 v2 i wr2 => ∃ (j : Nat) (xs2 : List Value), j ≤ m ∧ m - j ≤ gk2 ∧ i = .int .i64 j ∧ Own intC 1 3 wr2 W0.heap.size (.slice A1 n1 c1) (ON.map (·.id)) xs1 ∧ Own edgC 2 115 wr2 W0.heap.size v2 (edgF x ON 0 ++ toE ON.length (mayN x ⟨id, kind, state, gst, lev, cab, cat, frm, upto, til, fol⟩ j)) xs2 ∧ Apart (.slice A1 n1 c1) v2 ∧ v2.ownBlock ≠ some z ∧ Blk wr2 z (bkgA ⟨id, kind, state, gst, lev, cab, cat, frm, upto, til, fol⟩ (.slice A3 n3 c3)) 37 ∧ Below W0.heap.size W0 wr2)
        case atStart => exact ⟨0, _, Nat.zero_le _, by omega, rfl, HO1.out, by show Own _ _ _ _ _ _ (_ ++ []) _; rw [List.append_nil]; exact HO2.out, HAP.out, HZ2.out, HZ.out, HB.out⟩
        case round =>
          obtain ⟨j, xs2, hj, hgj, rfl, hO1, hO2, hap, hne, hZ, hb⟩ := hrel
          obtain ⟨A4, n4, c4, rfl, hs4⟩ := hO2.sl edgC_good
          have hn4 : n4 ≤ 1000 := by
            have h1 := hs4.len
            have h2 := edgF_len x ON 0
            have h3 := mayN_len x ⟨id, kind, state, gst, lev, cab, cat, frm, upto, til, fol⟩ j
            have h4 : ON.length * x.ship.cabs.length ≤ 16 * 12 := Nat.mul_le_mul (by omega) (by rw [HM.out]; exact hm12)
            rw [List.length_append] at h1
            unfold toE at h1
            rw [List.length_map] at h1
            omega
          have hG := HG.out.bel hb
          have s3 : wr.cell? ⟨g, 3, none⟩ = some (.slice B m cap2) := hG.cell rfl
          have s11 : wr.cell? ⟨g, 11, none⟩ = some (.slice (some ⟨ab, off, none⟩) nb cb) := hG.cell rfl
          by_cases hlj : j < m
          · have hbo := HBW.out.trans (hb.mono HBW.out.size)
            have hsu := mayN_succ x ⟨id, kind, state, gst, lev, cab, cat, frm, upto, til, fol⟩ j
            have hcall := HEL.out ⟨id, kind, state, gst, lev, cab, cat, frm, upto, til, fol⟩ (.slice A3 n3 c3) j
            obtain ⟨f, hf⟩ : ∃ f, f = eligB x.ship ⟨id, kind, state, gst, lev, cab, cat, frm, upto, til, fol⟩ (j : Int) := ⟨_, rfl⟩
            have hem := HEM.out j
            obtain ⟨em, hemq⟩ : ∃ q, q = emptyB x.bks j := ⟨_, rfl⟩
            have hsf := HSF.out (j : Int) wr (HL.out.bel hbo)
            obtain ⟨tb, htb⟩ : ∃ q, q = takB x.bks (j : Int) := ⟨_, rfl⟩
            obtain ⟨tl, htl⟩ : ∃ q, q = takL x.bks (j : Int) := ⟨_, rfl⟩
            rw [← hf] at hcall hsu
            rw [← hemq] at hsu hem
            rw [← htb, ← htl] at hem hsf
            have HEMQ := Lib.hid hem
            clear hem
            have HSU := Lib.hid hsu
            clear hsu
            have HCALL := Lib.hid hcall
            clear hcall
            have HSFC := Lib.hid hsf
            clear hsf
            have HO1 := Lib.hid hO1
            clear hO1
            have HO2 := Lib.hid hO2
            clear hO2
            have HAP := Lib.hid hap
            clear hap
            have HNE := Lib.hid hne
            clear hne
            clear hf hemq htb htl hs4 hG
            have HZ := Lib.hid hZ
            clear hZ
            go_wp2_with fail
            refine HSFC.out.mono ?_
            rintro e w5 ⟨v5, xs5, rfl, hO5, hb5⟩
            obtain ⟨A5, n5, c5, rfl, hs5⟩ := hO5.sl spanC_good
            have hn5 : tl.length = n5 := hs5.len
            replace hb := hb.trans (hb5.mono hb.size)
            replace hbo := hbo.trans (hb5.mono hbo.size)
            have hG := HG.out.bel hb
            have hZ := HZ.out.bel hb5
            have hO1 := HO1.out.bel hb5
            have hO2 := HO2.out.bel hb5
            have HEM2 := Lib.hid HEMQ.out
            rw [hn5] at HEM2
            have HO1' := Lib.hid hO1
            clear hO1
            have HO2' := Lib.hid hO2
            clear hO2
            clear hb5 hO5 hs5 hn5 s3 s11 HO1 HO2 HSFC HEMQ HZ
            have HNO := Lib.hid (show ∀ W2 : World, em = false → Below W0.heap.size W0 W2 → Below w5.heap.size w5 W2 → (mayN x ⟨id, kind, state, gst, lev, cab, cat, frm, upto, til, fol⟩ (j + 1) = mayN x ⟨id, kind, state, gst, lev, cab, cat, frm, upto, til, fol⟩ j) ∧ Own intC 1 3 W2 W0.heap.size (.slice A1 n1 c1) (ON.map (·.id)) xs1 ∧ Own edgC 2 115 W2 W0.heap.size (.slice A4 n4 c4) (edgF x ON 0 ++ toE ON.length (mayN x ⟨id, kind, state, gst, lev, cab, cat, frm, upto, til, fol⟩ j)) xs2 ∧ Blk W2 z (bkgA ⟨id, kind, state, gst, lev, cab, cat, frm, upto, til, fol⟩ (.slice A3 n3 c3)) 37 from fun W2 he _ h2 =>
              ⟨by rw [HSU.out, he]; simp, HO1'.out.bel h2, HO2'.out.bel h2, hZ.bel h2⟩)
            cases tb
            · have HE := Lib.hid (show em = false from by have := HEM2.out; rw [Bool.false_and] at this; exact this.symm)
              clear hG
              have HZZ := Lib.hid hZ
              clear hZ
              go_wp2_with fail
              obtain ⟨p0, p1, p2, p3⟩ := HNO.out w5 HE.out hb (Below.refl _ _)
              go_roundg (m - (j + 1))
              case measure => omega
              case rel => exact ⟨j + 1, xs2, by omega, by omega, by go_num, p1, by rw [p0]; exact p2, HAP.out, HNE.out, p3, hb⟩
            by_cases h5 : n5 = 0
            rotate_left
            · have HE := Lib.hid (show em = false from by have := HEM2.out; rw [decide_eq_false h5, Bool.and_false] at this; exact this.symm)
              have h5' : ((n5 : Int) == 0) = false := by rw [beq_eq_false_iff_ne]; omega
              clear hG h5
              have HZZ := Lib.hid hZ
              clear hZ
              go_wp2_with fail
              obtain ⟨p0, p1, p2, p3⟩ := HNO.out w5 HE.out hb (Below.refl _ _)
              go_roundg (m - (j + 1))
              case measure => omega
              case rel => exact ⟨j + 1, xs2, by omega, by omega, by go_num, p1, by rw [p0]; exact p2, HAP.out, HNE.out, p3, hb⟩
            have HE := Lib.hid (show em = true from by have := HEM2.out; rw [decide_eq_true h5] at this; exact this.symm)
            subst h5
            clear HNO
            have s0 : w5.cell? ⟨g, 0, none⟩ = some (.int .i64 x.ship.legs) := hG.cell rfl
            have s1 : w5.cell? ⟨g, 1, none⟩ = some (.int .i64 x.ship.souls) := hG.cell rfl
            have s2 : w5.cell? ⟨g, 2, none⟩ = some (.slice A n cap) := hG.cell rfl
            have s3 : w5.cell? ⟨g, 3, none⟩ = some (.slice B m cap2) := hG.cell rfl
            have s4 : w5.cell? ⟨g, 4, none⟩ = some (.slice D nd cd) := hG.cell rfl
            have s5 : w5.cell? ⟨g, 5, none⟩ = some (.int .i64 x.fares.alone) := hG.cell rfl
            have s6 : w5.cell? ⟨g, 6, none⟩ = some (.int .i64 x.fares.third) := hG.cell rfl
            have s7 : w5.cell? ⟨g, 7, none⟩ = some (.slice E ne ce) := hG.cell rfl
            have s8 : w5.cell? ⟨g, 8, none⟩ = some (.int .i64 x.fares.down) := hG.cell rfl
            have s9 : w5.cell? ⟨g, 9, none⟩ = some (.int .i64 x.day) := hG.cell rfl
            have s10 : w5.cell? ⟨g, 10, none⟩ = some (.int .i64 x.leaves) := hG.cell rfl
            have s11 : w5.cell? ⟨g, 11, none⟩ = some (.slice (some ⟨ab, off, none⟩) nb cb) := hG.cell rfl
            have s12 : w5.cell? ⟨g, 12, none⟩ = some (.bool x.closed) := hG.cell rfl
            have z0 : w5.cell? ⟨z, 0, none⟩ = some (.int .i64 id) := hZ.cell rfl
            have z1 : w5.cell? ⟨z, 1, none⟩ = some (.int .i64 kind) := hZ.cell rfl
            have z2 : w5.cell? ⟨z, 2, none⟩ = some (.int .i64 state) := hZ.cell rfl
            have z3 : w5.cell? ⟨z, 3, none⟩ = some (.int .i64 gst) := hZ.cell rfl
            have z4 : w5.cell? ⟨z, 4, none⟩ = some (.bool lev) := hZ.cell rfl
            have z5 : w5.cell? ⟨z, 5, none⟩ = some (.int .i64 cab) := hZ.cell rfl
            have z6 : w5.cell? ⟨z, 6, none⟩ = some (.int .i64 cat) := hZ.cell rfl
            have z7 : w5.cell? ⟨z, 7, none⟩ = some (.int .i64 frm) := hZ.cell rfl
            have z8 : w5.cell? ⟨z, 8, none⟩ = some (.int .i64 upto) := hZ.cell rfl
            have z9 : w5.cell? ⟨z, 9, none⟩ = some (.int .i64 til) := hZ.cell rfl
            have z10 : w5.cell? ⟨z, 10, none⟩ = some ((.slice A3 n3 c3)) := hZ.cell rfl
            have hcall := HCALL.out w5 (HC.out.bel hbo) (HD.out.bel hbo) hlj HCT.out.1 (by have := HCT.out.2; rwa [HNC.out] at this)
            have HCALL2 := Lib.hid hcall
            clear hcall
            have HZZ := Lib.hid hZ
            clear hZ
            clear hG HCALL
            go_wp2_with fail
            refine HCALL2.out.mono ?_
            rintro e w6 ⟨rfl, hb6⟩
            replace hb := hb.trans (hb6.mono hb.size)
            have hZ := HZZ.out.bel hb6
            have hO1 := HO1'.out.bel hb6
            have hO2 := HO2'.out.bel hb6
            clear hb6 s0 s1 s2 s3 s4 s5 s6 s7 s8 s9 s10 s11 s12 z0 z1 z2 z3 z4 z5 z6 z7 z8 z9 z10 HO1' HO2' HZZ HCALL2
            cases f
            · have HV2 := Lib.hid (show mayN x ⟨id, kind, state, gst, lev, cab, cat, frm, upto, til, fol⟩ (j + 1) = mayN x ⟨id, kind, state, gst, lev, cab, cat, frm, upto, til, fol⟩ j by rw [HSU.out]; simp)
              have HO1' := Lib.hid hO1
              clear hO1
              have HO2' := Lib.hid hO2
              clear hO2
              have HZ5 := Lib.hid hZ
              clear hZ
              go_wp2_with fail
              go_roundg (m - (j + 1))
              case measure => omega
              case rel => exact ⟨j + 1, xs2, by omega, by omega, by go_num, HO1'.out, by rw [HV2.out]; exact HO2'.out, HAP.out, HNE.out, HZ5.out, hb⟩
            · have HV2 := Lib.hid (show edgF x ON 0 ++ toE ON.length (mayN x ⟨id, kind, state, gst, lev, cab, cat, frm, upto, til, fol⟩ (j + 1)) = (edgF x ON 0 ++ toE ON.length (mayN x ⟨id, kind, state, gst, lev, cab, cat, frm, upto, til, fol⟩ j)) ++ [⟨(ln : Int), (j : Int)⟩] by
                rw [HSU.out, if_pos (by rw [HE.out]; rfl), toE_app, ← List.append_assoc, HLN.out]; rfl)
              have hln2 : ln = n1 := HL1N.out
              have hlnb : ln ≤ 16 := by have := HLN.out; omega
              subst hln2
              have hO1q := hO1.bel (bel1 w6 (.cells #[.int .i64 (ln : Int), .int .i64 (j : Int)] 115))
              have hOq := hO2.bel (bel1 w6 (.cells #[.int .i64 (ln : Int), .int .i64 (j : Int)] 115))
              have hZq := hZ.bel (bel1 w6 (.cells #[.int .i64 (ln : Int), .int .i64 (j : Int)] 115))
              have hsw := hb.size
              have hsq : W0.heap.size ≤ (w6.alloc (.cells #[.int .i64 (ln : Int), .int .i64 (j : Int)] 115)).heap.size := by simp; omega
              have hby2 : ((edgF x ON 0 ++ toE ON.length (mayN x ⟨id, kind, state, gst, lev, cab, cat, frm, upto, til, fol⟩ j)).length + 1) * 16 ≤ 140737488355328 := by
                obtain ⟨_, _, _, he, hs9⟩ := hO2.sl edgC_good
                simp only [Value.slice.injEq] at he
                have := hs9.len
                omega
              have HBQ := Lib.hid (hb.alloc hb.size (.cells #[.int .i64 (ln : Int), .int .i64 (j : Int)] 115))
              have HPOST := Lib.hid (fun (v' : Value) (w' : World) (xs' : List Value) (hown' : Own edgC 2 115 w' W0.heap.size v' ((edgF x ON 0 ++ toE ON.length (mayN x ⟨id, kind, state, gst, lev, cab, cat, frm, upto, til, fol⟩ j)) ++ [⟨(ln : Int), (j : Int)⟩]) xs') (hg' : (w6.alloc (.cells #[.int .i64 (ln : Int), .int .i64 (j : Int)] 115)).grownBy w' (Value.slice A4 n4 c4).ownBlock) (hat : v'.ownBlock = (Value.slice A4 n4 c4).ownBlock ∨ v'.ownBlock = some (w6.alloc (.cells #[.int .i64 (ln : Int), .int .i64 (j : Int)] 115)).heap.size) =>
                (⟨Own.grownF intC_flat hO1q hg' HAP.out, Apart.step HAP.out (fun k hk => (hO1q.lt k hk).2) hat, (show v'.ownBlock ≠ some z from by
                  rcases hat with e | e
                  · rw [e]; exact HNE.out
                  · rw [e]; intro h2; injection h2 with h2; have := hZq.lt; omega), Blk.grown hZq hg' (fun e => HNE.out e.symm), below_app HBQ.out hOq hg' hsq⟩ : Own intC 1 3 w' W0.heap.size (.slice A1 ln c1) (ON.map (·.id)) xs1 ∧ Apart (.slice A1 ln c1) v' ∧ v'.ownBlock ≠ some z ∧ Blk w' z (bkgA ⟨id, kind, state, gst, lev, cab, cat, frm, upto, til, fol⟩ (.slice A3 n3 c3)) 37 ∧ Below W0.heap.size W0 w'))
              have HSLE := Lib.hid (sl_edg w6 All (ln : Int) (j : Int) 115 (.of (by omega) (by omega)) (.of (by omega) (by omega)) trivial)
              have HOQ := Lib.hid hOq
              clear hO1 hO2 hZ hO1q hOq hZq hb
              go_wp2_with (at_builtin; refine list_app (t := 65) (e := 115) (bytes := 16) rfl (.tmp 54) (.tmp 59) rfl edg_elem edgC_good rfl HOQ.out rfl HSLE.out (fun _ _ hc => hc) hby2 (by omega) hsq ?_; intro v' w' xs' hown' hg' hat')
              obtain ⟨p1, p2, p3, p4, p5⟩ := HPOST.out _ _ _ hown' hg' hat'
              go_roundg (m - (j + 1))
              case measure => omega
              case rel => exact ⟨j + 1, xs', by omega, by omega, by go_num, p1, by rw [HV2.out]; exact hown', p2, p3, p4, p5⟩
          · obtain rfl : j = m := by omega
            have HV3 := Lib.hid (show edgF x (openN x (k + 1)) 0 = edgF x ON 0 ++ toE ON.length (mayN x ⟨id, kind, state, gst, lev, cab, cat, frm, upto, til, fol⟩ j) by rw [HV.out, edgF_snoc, Nat.zero_add, mayL_eq, HM.out])
            have HV4 := Lib.hid (show (openN x (k + 1)).map (·.id) = ON.map (·.id) ++ [id] by rw [HV.out, List.map_append]; rfl)
            have z0 : wr.cell? ⟨z, 0, none⟩ = some (.int .i64 id) := hZ.cell rfl
            have hOq := hO1.bel (bel1 wr (.cells #[.int .i64 id] 3))
            have hO2q := hO2.bel (bel1 wr (.cells #[.int .i64 id] 3))
            have hsw := hb.size
            have hsq : W0.heap.size ≤ (wr.alloc (.cells #[.int .i64 id] 3)).heap.size := by simp; omega
            have hby2 : ((ON.map (·.id)).length + 1) * 8 ≤ 140737488355328 := by rw [List.length_map]; omega
            have HBQ := Lib.hid (hb.alloc hb.size (.cells #[.int .i64 id] 3))
            have HPOST := Lib.hid (fun (v' : Value) (w' : World) (xs' : List Value) (hown' : Own intC 1 3 w' W0.heap.size v' (ON.map (·.id) ++ [id]) xs') (hg' : (wr.alloc (.cells #[.int .i64 id] 3)).grownBy w' (Value.slice A1 n1 c1).ownBlock) (hat : v'.ownBlock = (Value.slice A1 n1 c1).ownBlock ∨ v'.ownBlock = some (wr.alloc (.cells #[.int .i64 id] 3)).heap.size) =>
              (⟨Own.grownF edgC_flat hO2q hg' hap.symm, (Apart.step hap.symm (fun k hk => (hO2q.lt k hk).2) hat).symm, below_app HBQ.out hOq hg' hsq⟩ : Own edgC 2 115 w' W0.heap.size (.slice A4 n4 c4) (edgF x ON 0 ++ toE ON.length (mayN x ⟨id, kind, state, gst, lev, cab, cat, frm, upto, til, fol⟩ j)) xs2 ∧ Apart v' (.slice A4 n4 c4) ∧ Below W0.heap.size W0 w'))
            have HSLI := Lib.hid (sl_int wr All id 3 hidI'.out trivial)
            have HOQ := Lib.hid hOq
            clear hO1 hO2 hZ hOq hO2q hb hs4 hap hne hG s11
            go_wp2_with (at_builtin; refine list_app (t := 47) (e := 3) (bytes := 8) rfl (.tmp 61) (.tmp 64) rfl int_elem intC_good rfl HOQ.out rfl HSLI.out (fun _ _ hc => hc) hby2 (by omega) hsq ?_; intro v' w' xs' hown' hg' hat')
            obtain ⟨p1, p2, p3⟩ := HPOST.out _ _ _ hown' hg' hat'
            go_roundg (nb - (k + 1))
            case measure => omega
            case rel => exact ⟨k + 1, xs', xs2, by omega, by omega, by go_num, by rw [HV4.out]; exact hown', by rw [HV3.out]; exact p1, p2, p3⟩
    · obtain rfl : k = nb := by omega
      have s11 : wr.cell? ⟨g, 11, none⟩ = some (.slice C k cb) := hG.cell rfl
      rw [openN_all HN.out] at hO1 hO2
      have HO1 := Lib.hid (hO1.mono intC_good HBW.out.size)
      have HO2 := Lib.hid (hO2.mono edgC_good HBW.out.size)
      clear hO1 hO2 hs1 hs2 hG
      go_wp2_with fail
      go_ret2
      exact ⟨_, _, xs1, xs2, rfl, HO1.out, HO2.out, HBW.out.trans (hb.mono HBW.out.size)⟩
end Go.Proofs.YtoilcdgpeilgaaaGreat
namespace Go.Proofs.YtoilcdgpeilgaaaGreat
open Go.RowKit Go.Shelf
noncomputable def couldE (x : Sai) (b : Bkg) : Int := if saiE x ≠ 0 then saiE x else if ofE x.ship b ≠ 0 then ofE x.ship b else if hasId x.bks b.id = true then 6 else 0
noncomputable def couldB (x : Sai) (b : Bkg) : Bool := if couldE x b ≠ 0 then false else saiE (withS x b) == 0
set_option maxRecDepth 100000 in
set_option maxHeartbeats 16000000 in
theorem Could_any (x : Sai) (p : SaiV) (b : Bkg) (A3 : Option Addr) (n3 c3 : Nat) (w : World) (hS : SaiR w x p) (hf : Sl entryC 3 w All A3 n3 c3 b.fol) (hI : BkIn b) :
    Calls Tryz.prog 85 #[.agg (saiA x p), .agg (bkgA b (.slice A3 n3 c3))] w fun e w' => e = .returned (.tuple #[.bool (couldB x b), .int .i64 (couldE x b)]) ∧ Below w.heap.size w w' := by
  have HCK := Lib.hid (fun x p W h => saiCheck_any x p W h)
  have HOW := Lib.hid (fun W h ho => stockOwn_any x p W h ho)
  obtain ⟨cB, hcB⟩ : ∃ q, q = couldB x b := ⟨_, rfl⟩
  obtain ⟨cE, hcE⟩ : ∃ q, q = couldE x b := ⟨_, rfl⟩
  obtain ⟨r, hr⟩ : ∃ r, r = saiE x := ⟨_, rfl⟩
  obtain ⟨r2, hr2⟩ : ∃ r, r = saiE (withS x b) := ⟨_, rfl⟩
  obtain ⟨oe, hoe⟩ : ∃ r, r = ofE x.ship b := ⟨_, rfl⟩
  obtain ⟨hi, hhi⟩ : ∃ r, r = hasId x.bks b.id := ⟨_, rfl⟩
  have HCE := Lib.hid (show cE = if r ≠ 0 then r else if oe ≠ 0 then oe else if hi = true then 6 else 0 by rw [hcE, hr, hoe, hhi]; rfl)
  have HCB := Lib.hid (show cB = if cE ≠ 0 then false else r2 == 0 by rw [hcB, hcE, hr2]; rfl)
  rw [← hcB, ← hcE]
  have HWI := Lib.hid (fun p base W ho hb h1 h2 h3 hf hn h4 => stockWith_any x p b A3 n3 c3 base W ho hb h1 h2 h3 hf hn hI h4)
  have HOF := Lib.hid (fun W hc hb ho hf => bookOf_any x.ship p.A p.n p.cap p.B p.m p.cap2 b A3 n3 c3 W hc hb ho hf)
  have HPL := Lib.hid (fun W hl hr hid hn => Place_any x p b.id W hl hr hid hn hI.id)
  obtain ⟨A, n, cap, B, m, cap2, D, nd, cd, E, ne, ce, C, nb, cb⟩ := p
  obtain ⟨id, kind, state, gst, lev, cab, cat, frm, upto, til, fol⟩ := b
  simp only at hf hoe hhi HPL HOF HWI
  rw [← hoe] at HOF
  rw [← hhi] at HPL
  have HR := Lib.hid hr
  clear hr
  have HR2 := Lib.hid hr2
  clear hr2
  have HOE := Lib.hid hoe
  clear hoe
  have HHI := Lib.hid hhi
  clear hhi
  have HS := Lib.hid hS
  clear hS
  have HF := Lib.hid hf
  clear hf
  clear hcB hcE hI
  go_enter Tryz.func85, Tryz.ntmps85
  go_upto_region 0 with (fail)
  go_cut [2, 3, 4, 5] (fun p p2 _ _ wx => ∃ g h, p = .pointer (some ⟨g, 0, none⟩) ∧ p2 = .pointer (some ⟨h, 0, none⟩) ∧ Blk wx g (saiA x ⟨A, n, cap, B, m, cap2, D, nd, cd, E, ne, ce, C, nb, cb⟩) 32 ∧ Blk wx h (bkgA ⟨id, kind, state, gst, lev, cab, cat, frm, upto, til, fol⟩ (.slice A3 n3 c3)) 37 ∧ Below w.heap.size w wx)
  case first => as_aux_lemma =>
    go_wp2_with fail
    go_meet
    exact ⟨_, _, rfl, rfl, blk2_0 _ _ _, blk2_1 _ _ _, bel2 _ _ _⟩
  obtain ⟨g, h, rfl, rfl, hG, hH, hbw⟩ := hcut
  have s0 : wc.cell? ⟨g, 0, none⟩ = some (.int .i64 x.ship.legs) := hG.cell rfl
  have s1 : wc.cell? ⟨g, 1, none⟩ = some (.int .i64 x.ship.souls) := hG.cell rfl
  have s2 : wc.cell? ⟨g, 2, none⟩ = some (.slice A n cap) := hG.cell rfl
  have s3 : wc.cell? ⟨g, 3, none⟩ = some (.slice B m cap2) := hG.cell rfl
  have s4 : wc.cell? ⟨g, 4, none⟩ = some (.slice D nd cd) := hG.cell rfl
  have s5 : wc.cell? ⟨g, 5, none⟩ = some (.int .i64 x.fares.alone) := hG.cell rfl
  have s6 : wc.cell? ⟨g, 6, none⟩ = some (.int .i64 x.fares.third) := hG.cell rfl
  have s7 : wc.cell? ⟨g, 7, none⟩ = some (.slice E ne ce) := hG.cell rfl
  have s8 : wc.cell? ⟨g, 8, none⟩ = some (.int .i64 x.fares.down) := hG.cell rfl
  have s9 : wc.cell? ⟨g, 9, none⟩ = some (.int .i64 x.day) := hG.cell rfl
  have s10 : wc.cell? ⟨g, 10, none⟩ = some (.int .i64 x.leaves) := hG.cell rfl
  have s11 : wc.cell? ⟨g, 11, none⟩ = some (.slice C nb cb) := hG.cell rfl
  have s12 : wc.cell? ⟨g, 12, none⟩ = some (.bool x.closed) := hG.cell rfl
  have HCALL := Lib.hid (HCK.out x ⟨A, n, cap, B, m, cap2, D, nd, cd, E, ne, ce, C, nb, cb⟩ wc (HS.out.bel hbw))
  have HH := Lib.hid hH
  clear hH
  go_wp2_with fail
  refine HCALL.out.mono ?_
  rintro e w2 ⟨rfl, hb2⟩
  replace hG := hG.bel hb2
  replace HH := Lib.hid (HH.out.bel hb2)
  replace hbw := hbw.trans (hb2.mono hbw.size)
  clear hb2 s0 s1 s2 s3 s4 s5 s6 s7 s8 s9 s10 s11 s12 HCALL
  rw [← HR.out]
  by_cases h0 : r = 0
  rotate_left
  · have h0' : (r == 0) = false := by simpa using h0
    have h0'' : (r != 0) = true := by simpa using h0
    obtain rfl : cE = r := by rw [HCE.out, if_pos h0]
    obtain rfl : cB = false := by rw [HCB.out, if_pos h0]
    clear h0 hG
    go_wp2_with fail
    go_ret2
    exact ⟨rfl, hbw⟩
  have HOK := Lib.hid (sai_ok (HR.out.symm.trans h0))
  have HCE2 := Lib.hid (HCE.out.trans (if_neg (by rw [h0]; simp)))
  subst h0
  have s0 : w2.cell? ⟨g, 0, none⟩ = some (.int .i64 x.ship.legs) := hG.cell rfl
  have s1 : w2.cell? ⟨g, 1, none⟩ = some (.int .i64 x.ship.souls) := hG.cell rfl
  have s2 : w2.cell? ⟨g, 2, none⟩ = some (.slice A n cap) := hG.cell rfl
  have s3 : w2.cell? ⟨g, 3, none⟩ = some (.slice B m cap2) := hG.cell rfl
  have hH := HH.out
  have b0 : w2.cell? ⟨h, 0, none⟩ = some (.int .i64 id) := hH.cell rfl
  have b1 : w2.cell? ⟨h, 1, none⟩ = some (.int .i64 kind) := hH.cell rfl
  have b2 : w2.cell? ⟨h, 2, none⟩ = some (.int .i64 state) := hH.cell rfl
  have b3 : w2.cell? ⟨h, 3, none⟩ = some (.int .i64 gst) := hH.cell rfl
  have b4 : w2.cell? ⟨h, 4, none⟩ = some (.bool lev) := hH.cell rfl
  have b5 : w2.cell? ⟨h, 5, none⟩ = some (.int .i64 cab) := hH.cell rfl
  have b6 : w2.cell? ⟨h, 6, none⟩ = some (.int .i64 cat) := hH.cell rfl
  have b7 : w2.cell? ⟨h, 7, none⟩ = some (.int .i64 frm) := hH.cell rfl
  have b8 : w2.cell? ⟨h, 8, none⟩ = some (.int .i64 upto) := hH.cell rfl
  have b9 : w2.cell? ⟨h, 9, none⟩ = some (.int .i64 til) := hH.cell rfl
  have b10 : w2.cell? ⟨h, 10, none⟩ = some (.slice A3 n3 c3) := hH.cell rfl
  have HCALL := Lib.hid (HOF.out w2 (HS.out.bel hbw).cats (HS.out.bel hbw).cabs HOK.out.bs.ship (HF.out.bel hbw))
  clear hH
  go_wp2_with fail
  refine HCALL.out.mono ?_
  rintro e w3 ⟨rfl, hb2⟩
  replace hG := hG.bel hb2
  replace HH := Lib.hid (HH.out.bel hb2)
  replace hbw := hbw.trans (hb2.mono hbw.size)
  clear hb2 s0 s1 s2 s3 b0 b1 b2 b3 b4 b5 b6 b7 b8 b9 b10 HCALL
  by_cases h0 : oe = 0
  rotate_left
  · have h0'' : (oe != 0) = true := by simpa using h0
    obtain rfl : cE = oe := by rw [HCE2.out, if_pos h0]
    obtain rfl : cB = false := by rw [HCB.out, if_pos h0]
    clear h0 hG
    go_wp2_with fail
    go_ret2
    exact ⟨rfl, hbw⟩
  have HBK := Lib.hid (bk_ok (HOE.out.symm.trans h0))
  have HCE3 := Lib.hid (HCE2.out.trans (if_neg (by rw [h0]; simp)))
  subst h0
  have s0 : w3.cell? ⟨g, 0, none⟩ = some (.int .i64 x.ship.legs) := hG.cell rfl
  have s1 : w3.cell? ⟨g, 1, none⟩ = some (.int .i64 x.ship.souls) := hG.cell rfl
  have s2 : w3.cell? ⟨g, 2, none⟩ = some (.slice A n cap) := hG.cell rfl
  have s3 : w3.cell? ⟨g, 3, none⟩ = some (.slice B m cap2) := hG.cell rfl
  have s4 : w3.cell? ⟨g, 4, none⟩ = some (.slice D nd cd) := hG.cell rfl
  have s5 : w3.cell? ⟨g, 5, none⟩ = some (.int .i64 x.fares.alone) := hG.cell rfl
  have s6 : w3.cell? ⟨g, 6, none⟩ = some (.int .i64 x.fares.third) := hG.cell rfl
  have s7 : w3.cell? ⟨g, 7, none⟩ = some (.slice E ne ce) := hG.cell rfl
  have s8 : w3.cell? ⟨g, 8, none⟩ = some (.int .i64 x.fares.down) := hG.cell rfl
  have s9 : w3.cell? ⟨g, 9, none⟩ = some (.int .i64 x.day) := hG.cell rfl
  have s10 : w3.cell? ⟨g, 10, none⟩ = some (.int .i64 x.leaves) := hG.cell rfl
  have s11 : w3.cell? ⟨g, 11, none⟩ = some (.slice C nb cb) := hG.cell rfl
  have s12 : w3.cell? ⟨g, 12, none⟩ = some (.bool x.closed) := hG.cell rfl
  have b0 : w3.cell? ⟨h, 0, none⟩ = some (.int .i64 id) := HH.out.cell rfl
  have HIDS := Lib.hid (show ∀ b ∈ x.bks, 1 ≤ b.id ∧ b.id ≤ 999999 from fun b hb => betB_iff.1 (HOK.out.bs.bk b hb).id)
  have HRISE := Lib.hid (rise_of HOK.out.bs.rise)
  have HCALL := Lib.hid (HPL.out w3 (HS.out.bel hbw).bks HRISE.out HIDS.out HOK.out.bs.len)
  have HGG := Lib.hid hG
  clear hG
  go_wp2_with fail
  refine HCALL.out.mono ?_
  rintro e w4 ⟨i, rfl, _, _, hb2⟩
  have hG := HGG.out.bel hb2
  have hH := HH.out.bel hb2
  replace hbw := hbw.trans (hb2.mono hbw.size)
  clear hb2 s0 s1 s2 s3 s4 s5 s6 s7 s8 s9 s10 s11 s12 b0 HCALL HGG HH
  cases hi with
  | true =>
    obtain rfl : cE = 6 := by rw [HCE3.out]; rfl
    obtain rfl : cB = false := by rw [HCB.out]; rfl
    clear hG hH
    go_wp2_with fail
    go_ret2
    exact ⟨rfl, hbw⟩
  | false =>
    obtain rfl : cE = 0 := by rw [HCE3.out]; rfl
    have HCB2 := Lib.hid (show cB = (r2 == 0) by rw [HCB.out]; rfl)
    obtain ⟨W4, hW4⟩ : ∃ V, V = w4 := ⟨_, rfl⟩
    subst hW4
    have HSX := Lib.hid (show ∀ X, Below W4.heap.size W4 X → (fun w' => (w'.cell? ⟨g, 0, none⟩ = some (.int .i64 x.ship.legs) ∧ w'.cell? ⟨g, 1, none⟩ = some (.int .i64 x.ship.souls) ∧ w'.cell? ⟨g, 2, none⟩ = some (.slice A n cap) ∧ w'.cell? ⟨g, 3, none⟩ = some (.slice B m cap2) ∧ w'.cell? ⟨g, 4, none⟩ = some (.slice D nd cd) ∧ w'.cell? ⟨g, 5, none⟩ = some (.int .i64 x.fares.alone) ∧ w'.cell? ⟨g, 6, none⟩ = some (.int .i64 x.fares.third) ∧ w'.cell? ⟨g, 7, none⟩ = some (.slice E ne ce) ∧ w'.cell? ⟨g, 8, none⟩ = some (.int .i64 x.fares.down) ∧ w'.cell? ⟨g, 9, none⟩ = some (.int .i64 x.day) ∧ w'.cell? ⟨g, 10, none⟩ = some (.int .i64 x.leaves) ∧ w'.cell? ⟨g, 11, none⟩ = some (.slice C nb cb) ∧ w'.cell? ⟨g, 12, none⟩ = some (.bool x.closed)) ∧ (w'.cell? ⟨h, 0, none⟩ = some (.int .i64 id) ∧ w'.cell? ⟨h, 1, none⟩ = some (.int .i64 kind) ∧ w'.cell? ⟨h, 2, none⟩ = some (.int .i64 state) ∧ w'.cell? ⟨h, 3, none⟩ = some (.int .i64 gst) ∧ w'.cell? ⟨h, 4, none⟩ = some (.bool lev) ∧ w'.cell? ⟨h, 5, none⟩ = some (.int .i64 cab) ∧ w'.cell? ⟨h, 6, none⟩ = some (.int .i64 cat) ∧ w'.cell? ⟨h, 7, none⟩ = some (.int .i64 frm) ∧ w'.cell? ⟨h, 8, none⟩ = some (.int .i64 upto) ∧ w'.cell? ⟨h, 9, none⟩ = some (.int .i64 til) ∧ w'.cell? ⟨h, 10, none⟩ = some (.slice A3 n3 c3))) X from fun X hX => ⟨⟨(hG.bel hX).cell rfl, (hG.bel hX).cell rfl, (hG.bel hX).cell rfl, (hG.bel hX).cell rfl, (hG.bel hX).cell rfl, (hG.bel hX).cell rfl, (hG.bel hX).cell rfl, (hG.bel hX).cell rfl, (hG.bel hX).cell rfl, (hG.bel hX).cell rfl, (hG.bel hX).cell rfl, (hG.bel hX).cell rfl, (hG.bel hX).cell rfl⟩, ⟨(hH.bel hX).cell rfl, (hH.bel hX).cell rfl, (hH.bel hX).cell rfl, (hH.bel hX).cell rfl, (hH.bel hX).cell rfl, (hH.bel hX).cell rfl, (hH.bel hX).cell rfl, (hH.bel hX).cell rfl, (hH.bel hX).cell rfl, (hH.bel hX).cell rfl, (hH.bel hX).cell rfl⟩⟩)
    have HIB := Lib.hid (show 1 ≤ id ∧ id ≤ 999999 from betB_iff.1 HBK.out.id)
    have HN3 := Lib.hid (show n3 ≤ 1000000000 from by have h1 := check_len HBK.out.fol; have h2 := HF.out.len; simp only at h1 h2; omega)
    have HBW := Lib.hid hbw
    clear hbw
    clear hG hH
    go_wp2_with fail
    have hbx : Below W4.heap.size W4 W4.drew := (Below.refl _ W4).drew
    refine wp_region_held_drew (S := (fun w' => (w'.cell? ⟨g, 0, none⟩ = some (.int .i64 x.ship.legs) ∧ w'.cell? ⟨g, 1, none⟩ = some (.int .i64 x.ship.souls) ∧ w'.cell? ⟨g, 2, none⟩ = some (.slice A n cap) ∧ w'.cell? ⟨g, 3, none⟩ = some (.slice B m cap2) ∧ w'.cell? ⟨g, 4, none⟩ = some (.slice D nd cd) ∧ w'.cell? ⟨g, 5, none⟩ = some (.int .i64 x.fares.alone) ∧ w'.cell? ⟨g, 6, none⟩ = some (.int .i64 x.fares.third) ∧ w'.cell? ⟨g, 7, none⟩ = some (.slice E ne ce) ∧ w'.cell? ⟨g, 8, none⟩ = some (.int .i64 x.fares.down) ∧ w'.cell? ⟨g, 9, none⟩ = some (.int .i64 x.day) ∧ w'.cell? ⟨g, 10, none⟩ = some (.int .i64 x.leaves) ∧ w'.cell? ⟨g, 11, none⟩ = some (.slice C nb cb) ∧ w'.cell? ⟨g, 12, none⟩ = some (.bool x.closed)) ∧ (w'.cell? ⟨h, 0, none⟩ = some (.int .i64 id) ∧ w'.cell? ⟨h, 1, none⟩ = some (.int .i64 kind) ∧ w'.cell? ⟨h, 2, none⟩ = some (.int .i64 state) ∧ w'.cell? ⟨h, 3, none⟩ = some (.int .i64 gst) ∧ w'.cell? ⟨h, 4, none⟩ = some (.bool lev) ∧ w'.cell? ⟨h, 5, none⟩ = some (.int .i64 cab) ∧ w'.cell? ⟨h, 6, none⟩ = some (.int .i64 cat) ∧ w'.cell? ⟨h, 7, none⟩ = some (.int .i64 frm) ∧ w'.cell? ⟨h, 8, none⟩ = some (.int .i64 upto) ∧ w'.cell? ⟨h, 9, none⟩ = some (.int .i64 til) ∧ w'.cell? ⟨h, 10, none⟩ = some (.slice A3 n3 c3)))) (by kernel_rfl) (HSX.out _ hbx) (fun hHeld => ?_)
    refine wpAnyH_take (i := 0) (v := ?v1) (gA rfl) (by kernel_rfl) (by kernel_rfl) (by kernel_rfl) (fun _ _ _ h => h) (Or.inl ⟨rfl, ?y1⟩) (by assumption) ?_
    case y1 => (intro w hSw; (try dsimp only at hSw); go_simp <;> with_reducible rfl)
    simp only [Act.put, List.setIfInBounds_toArray, List.set_cons_zero, List.set_cons_succ]
    refine wpAnyH_take (i := 2) (v := ?v2) (gA rfl) (by kernel_rfl) (by kernel_rfl) (by kernel_rfl) (fun _ _ _ h => h) (Or.inl ⟨rfl, ?y2⟩) (by assumption) ?_
    case y2 => (intro w hSw; (try dsimp only at hSw); go_simp <;> with_reducible rfl)
    simp only [Act.put, List.setIfInBounds_toArray, List.set_cons_zero, List.set_cons_succ]
    refine wpAnyH_ready (rs := [1]) (by kernel_rfl) (by simp) (AllReadyH.cons (gA rfl) (fun K hK => ?_) AllReadyH.nil)
    go_simp
    (go_at_call 118; refine (HOW.out _ (HS.out.bel (HBW.out.trans (hbx.mono HBW.out.size))) HOK.out).mono ?_; rintro e w5 ⟨p5, rfl, hO5, hb5⟩; have hs5 := hbx.size; replace hbx := hbx.trans (hb5.mono hbx.size); have H5 := Lib.hid hO5; have hs6 := hb5.size; clear hO5 hb5)
    go_wp2_with fail
    refine hK.out _ _ ?_ (fun hHeld => ?_)
    · exact HSX.out _ hbx
    clear hK K
    try simp only [Act.put, List.setIfInBounds_toArray, List.set_cons_zero, List.set_cons_succ]
    refine wpAnyH_ready (rs := [3]) (by kernel_rfl) (by simp) (AllReadyH.cons (gA rfl) (fun K hK => ?_) AllReadyH.nil)
    go_simp
    (go_at_call 165; refine (HWI.out p5 _ _ H5.out hs6 HRISE.out HIDS.out HOK.out.bs.len (HF.out.bel (HBW.out.trans (hbx.mono HBW.out.size))) HN3.out HIB.out).mono ?_; rintro e w6 ⟨p6, rfl, hO6, hb6⟩; replace hbx := hbx.trans (hb6.mono hs5); have H6 := Lib.hid hO6; clear hO6 hb6)
    go_wp2_with fail
    refine hK.out _ _ ?_ (fun hHeld => ?_)
    · exact HSX.out _ hbx
    clear hK K
    try simp only [Act.put, List.setIfInBounds_toArray, List.set_cons_zero, List.set_cons_succ]
    refine wpAnyH_ready (rs := [4]) (by kernel_rfl) (by simp) (AllReadyH.cons (gA rfl) (fun K hK => ?_) AllReadyH.nil)
    go_simp
    (go_at_call 24; refine (HCK.out _ p6 _ H6.out.sai).mono ?_; rintro e w7 ⟨rfl, hb7⟩; replace hbx := hbx.trans (hb7.mono hbx.size); rw [← HR2.out]; clear hb7)
    go_wp2_with fail
    refine hK.out _ _ ?_ (fun hHeld => ?_)
    · exact HSX.out _ hbx
    clear hK K
    try simp only [Act.put, List.setIfInBounds_toArray, List.set_cons_zero, List.set_cons_succ]
    refine wpAnyH_take (i := 5) (v := ?v6) (gA rfl) (by kernel_rfl) (by kernel_rfl) (by kernel_rfl) (fun _ _ _ h => h) (Or.inl ⟨rfl, ?y6⟩) (by assumption) ?_
    case y6 => (intro w hSw; (try dsimp only at hSw); go_simp <;> with_reducible rfl)
    simp only [Act.put, List.setIfInBounds_toArray, List.set_cons_zero, List.set_cons_succ]
    refine wpAnyH_take (i := 6) (v := ?v7) (gA rfl) (by kernel_rfl) (by kernel_rfl) (by kernel_rfl) (fun _ _ _ h => h) (Or.inl ⟨rfl, ?y7⟩) (by assumption) ?_
    case y7 => (intro w hSw; (try dsimp only at hSw); go_simp <;> with_reducible rfl)
    simp only [Act.put, List.setIfInBounds_toArray, List.set_cons_zero, List.set_cons_succ]
    refine wpAnyH_take (i := 7) (v := ?v8) (gA rfl) (by kernel_rfl) (by kernel_rfl) (by kernel_rfl) (fun _ _ _ h => h) (Or.inl ⟨rfl, ?y8⟩) (by assumption) ?_
    case y8 => (intro w hSw; (try dsimp only at hSw); go_simp <;> with_reducible rfl)
    simp only [Act.put, List.setIfInBounds_toArray, List.set_cons_zero, List.set_cons_succ]
    refine wpAnyH_done (by kernel_rfl) ?_ _
    go_wp2_with fail
    go_ret2
    exact ⟨by rw [HCB2.out]; rfl, HBW.out.trans (hbx.mono HBW.out.size)⟩
end Go.Proofs.YtoilcdgpeilgaaaGreat
namespace Go.Proofs.YtoilcdgpeilgaaaGreat
open Go.RowKit Go.Shelf
theorem room_ok {x : Sai} (h : roomE x = 0) : twiceB x = false ∧ ¬ x.ship.souls < mx (soulL x.bks x.ship.legs.toNat) ∧ allB (idsL x).length (edgL x) = true := by
  unfold roomE at h
  by_cases h1 : twiceB x = true
  · rw [if_pos h1] at h; omega
  rw [if_neg h1] at h
  by_cases h2 : x.ship.souls < mx (soulL x.bks x.ship.legs.toNat)
  · rw [if_pos h2] at h; omega
  rw [if_neg h2] at h
  by_cases h3 : allB (idsL x).length (edgL x) = true
  · exact ⟨Bool.eq_false_iff.2 h1, h2, h3⟩
  · rw [if_neg h3] at h; omega
theorem edgF_from (x : Sai) : ∀ (l : List Bkg) (i : Nat), ∀ e ∈ edgF x l i, (i : Int) ≤ e.lft
  | [], _, e, he => by simp [edgF] at he
  | b :: l, i, e, he => by
    simp only [edgF, List.mem_append, List.mem_map] at he
    rcases he with ⟨c, _, rfl⟩ | he
    · exact Int.le_refl _
    · have := edgF_from x l (i + 1) e he; omega
theorem of_all {x : Sai} (h : bksE x = 0) : ∀ (i : Nat) (b : Bkg), x.bks[i]? = some b → ofE x.ship b = 0 := by
  unfold bksE at h
  by_cases h1 : 16 < x.bks.length
  · rw [if_pos h1] at h; omega
  rw [if_neg h1] at h
  by_cases h2 : firstE (bkE1 x) x.bks.length ≠ 0
  · rw [if_pos h2] at h; exact absurd h h2
  have h2 : firstE (bkE1 x) x.bks.length = 0 := Decidable.not_not.1 h2
  intro i b hb
  have h3 := firstE_zero h2 i (List.getElem?_eq_some_iff.1 hb).1
  rw [bkE1_at hb] at h3
  by_cases h4 : ofE x.ship b ≠ 0
  · rw [if_pos h4] at h3; exact absurd h3 h4
  · exact Decidable.not_not.1 h4
theorem bks_zero {x : Sai} (h : saiE x = 0) : shipE x.ship = 0 ∧ bksE x = 0 := by
  unfold saiE at h
  by_cases h1 : shipE x.ship ≠ 0
  · rw [if_pos h1] at h; exact absurd h h1
  rw [if_neg h1] at h
  by_cases h2 : fareE x.fares x.ship.cats.length x.ship.legs ≠ 0
  · rw [if_pos h2] at h; exact absurd h h2
  rw [if_neg h2] at h
  by_cases h3 : (betB x.day 0 9999 && betB x.leaves 0 9999) = false
  · rw [if_pos h3] at h; omega
  rw [if_neg h3] at h
  by_cases h4 : bksE x ≠ 0
  · rw [if_pos h4] at h; exact absurd h h4
  · exact ⟨Decidable.not_not.1 h1, Decidable.not_not.1 h4⟩
end Go.Proofs.YtoilcdgpeilgaaaGreat
