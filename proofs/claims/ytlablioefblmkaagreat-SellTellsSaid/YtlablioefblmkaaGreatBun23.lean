/-
  Words, laws and contracts: StockI, StockY, StockX, StockJ.
-/
import Derived.Test.YtlablioefblmkaaGreatBun22
import Derived.BigQuiet
set_option linter.unusedSimpArgs false
set_option linter.unusedVariables false
namespace Go.Proofs.YtlablioefblmkaaGreat
open Go.RowKit Go.Shelf
def mst (l : List Int) : Int := max 0 (mx l)
theorem mst_succ {l : List Int} {k : Nat} {x : Int} (h : l[k]? = some x) : mst (l.take (k + 1)) = max (mst (l.take k)) x := by
  unfold mst
  rw [take_snoc h, mx_snoc]; omega
set_option maxHeartbeats 1000000 in
theorem most_any (A : Option Addr) (n cap : Nat) (l : List Int) (w : World) (h : Sl intC 1 w All A n cap l) (h0 : ∀ x ∈ l, -1000000000000000 ≤ x ∧ x ≤ 1000000000000000) :
    Calls Tryz.prog 148 #[.slice A n cap] w fun e w' => e = .returned (.int .i64 (mst l)) ∧ ∃ q, w' = w.drewN q := by
  have hbd := h.bd
  have HN := Lib.hid h.len
  have HS := Lib.hid h
  have HH := Lib.hid h0
  clear h0
  clear h
  go_enter Tryz.func148, Tryz.ntmps148
  go_wp2_with fail
  go_loopg [3, 4] n (fun gk v i wr => ∃ k : Nat, k ≤ n ∧ n - k ≤ gk ∧ i = .int .i64 k ∧ v = .int .i64 (mst (l.take k)) ∧ wr = w)
  case atStart => exact ⟨0, Nat.zero_le _, by omega, rfl, rfl, rfl⟩
  case round =>
    obtain ⟨k, hk, hgk, rfl, rfl, rfl⟩ := hrel
    obtain ⟨M, hM⟩ : ∃ M, M = mst (l.take k) := ⟨_, rfl⟩
    rw [← hM]
    by_cases hlt : k < n
    · obtain ⟨b, off, y, c0, rfl, hy, ⟨hc, _⟩, g0⟩ := HS.out.at1 hlt
      simp only [List.cons.injEq, and_true] at hc
      subst hc
      have hst := mst_succ hy
      rw [← hM] at hst
      have HST := Lib.hid hst
      clear hst
      have HMM := Lib.hid hM
      clear hM
      clear hy
      have hk0 : (0 : Int) ≤ (k : Int) := Int.natCast_nonneg _
      have hk1 : (k : Int) < (n : Int) := by omega
      by_cases hgt : M < y
      · have HV := Lib.hid (show mst (l.take (k + 1)) = y by rw [HST.out]; omega)
        go_wp2_with fail
        go_roundg (n - (k + 1))
        case measure => omega
        case rel => exact ⟨k + 1, by omega, by omega, by go_num, by rw [HV.out], rfl⟩
      · have HV := Lib.hid (show mst (l.take (k + 1)) = M by rw [HST.out]; omega)
        go_wp2_with fail
        go_roundg (n - (k + 1))
        case measure => omega
        case rel => exact ⟨k + 1, by omega, by omega, by go_num, by rw [HV.out], rfl⟩
    · obtain rfl : k = n := by omega
      have HV := Lib.hid (show M = mst l by rw [hM, List.take_of_length_le (Nat.le_of_eq HN.out)])
      clear hM
      go_wp2_with fail
      go_ret
      exact ⟨retI HV.out, 0, rfl⟩
theorem empty_iff {l : List Bkg} {c : Nat} (hok : SpOk l) : (takB l (c : Int) && decide ((takL l (c : Int)).length = 0)) = emptyB l c := by
  have h1 : (spL l (c : Int)).length = 0 ↔ emptyB l c = true := by
    unfold spL emptyB
    rw [List.length_map, List.length_eq_zero_iff, List.filter_eq_nil_iff]
    simp
  cases hq : spF (spL l (c : Int)) with
  | none =>
    have e1 : takB l (c : Int) = false := by unfold takB; rw [hq]; rfl
    rw [e1, Bool.false_and]
    cases he : emptyB l c with
    | false => rfl
    | true =>
      have := List.eq_nil_of_length_eq_zero (h1.2 he)
      rw [this] at hq
      cases hq
  | some o =>
    obtain ⟨e1, e2⟩ := tak_of hq
    have hp := (spF_some (fun x hx => (spL_ok hok x hx).2.1) hq).1
    rw [e1, e2, Bool.true_and, hp.length_eq]
    cases he : emptyB l c with
    | true => exact decide_eq_true (h1.2 he)
    | false => exact decide_eq_false fun h => by rw [h1.1 h] at he; cases he
set_option maxRecDepth 100000 in
set_option maxHeartbeats 16000000 in
theorem PromisesOf_any (x : Sai) (p : SaiV) (w : World) (h : SaiR w x p) (ho : OkShp x.ship) (hk : ∀ b ∈ x.bks, OkBk x.ship b) (h16 : x.bks.length ≤ 16) :
    Calls Tryz.prog 20 #[.agg (saiA x p)] w fun e w' => ∃ v1 v2 xs1 xs2, e = .returned (.tuple #[v1, v2]) ∧ Own intC 1 3 w' w.heap.size v1 (idsL x) xs1 ∧ Own edgC 2 95 w' w.heap.size v2 (edgL x) xs2 ∧ Below w.heap.size w w' := by
  obtain ⟨A, n, cap, B, m, cap2, D, nd, cd, E, ne, ce, C, nb, cb⟩ := p
  have hl : Sl bkgC 11 w All C nb cb x.bks := h.bks
  have hc : Sl catC 2 w All A n cap x.ship.cats := h.cats
  have hd : Sl cabC 4 w All B m cap2 x.ship.cabs := h.cabs
  have HEL := Lib.hid (fun b v (k : Nat) W h1 h2 h3 h4 h5 => IsEligible_any x.ship A n cap B m cap2 b v k W h1 h2 ho h3 h4 h5)
  have HSF := Lib.hid (fun (c : Int) W hW => SpansOf_any C nb cb x.bks c W hW (spOk_of ho hk))
  have HEM := Lib.hid (fun c : Nat => empty_iff (c := c) (spOk_of ho hk))
  have HN := Lib.hid hl.len
  have hnb : nb ≤ 16 := by rw [← hl.len]; exact h16
  have hm12 : m ≤ 12 := by rw [← hd.len]; exact ho.cabs12
  have HNC := Lib.hid hc.len
  have HM := Lib.hid hd.len
  have HL := Lib.hid hl
  have HC := Lib.hid hc
  have HD := Lib.hid hd
  have HK := Lib.hid hk
  clear hk
  clear h hl hc hd h16
  go_enter Tryz.func20, Tryz.ntmps20
  go_upto_region 0 with (fail)
  go_cut [1, 2, 3] (fun q _ _ wx => ∃ g, q = .pointer (some ⟨g, 0, none⟩) ∧ Blk wx g (saiA x ⟨A, n, cap, B, m, cap2, D, nd, cd, E, ne, ce, C, nb, cb⟩) 32 ∧ Below w.heap.size w wx)
  case first => as_aux_lemma =>
    go_wp2_with fail
    go_meet
    exact ⟨_, rfl, blk1 _ _, bel1 _ _⟩
  obtain ⟨g, rfl, hG, hbw⟩ := hcut
  obtain ⟨W0, hW0⟩ : ∃ W, W = wc := ⟨_, rfl⟩
  subst hW0
  have HGL := Lib.hid hG.lt
  have HG := Lib.hid hG
  clear hG
  have HBW := Lib.hid hbw
  clear hbw
  go_wp2_with fail
  go_loopg [4, 5, 6] nb (fun gk v1 v2 i wr => ∃ (k : Nat) (xs1 xs2 : List Value), k ≤ nb ∧ nb - k ≤ gk ∧ i = .int .i64 k ∧ Own intC 1 3 wr W0.heap.size v1 ((openN x k).map (·.id)) xs1 ∧ Own edgC 2 95 wr W0.heap.size v2 (edgF x (openN x k) 0) xs2 ∧ Apart v1 v2 ∧ Below W0.heap.size W0 wr)
  case atStart => exact ⟨0, [], [], Nat.zero_le _, by omega, rfl, Own.nil _ _ _ _ _, Own.nil _ _ _ _ _, Apart.nilL _, Below.refl _ _⟩
  case round =>
    obtain ⟨k, xs1, xs2, hk, hgk, rfl, hO1, hO2, hap, hb⟩ := hrel
    obtain ⟨A1, n1, c1, rfl, hs1⟩ := hO1.sl intC_good
    obtain ⟨A2, n2, c2, rfl, hs2⟩ := hO2.sl edgC_good
    have hG := HG.out.bel hb
    by_cases hlt : k < nb
    · have hln1 : n1 = (openN x k).length := by have := hs1.len; rw [List.length_map] at this; exact this.symm
      have hbo := HBW.out.trans (hb.mono HBW.out.size)
      obtain ⟨ab, off, ⟨id, kind, state, gst, lev, cab, cat, frm, upto, til, fol⟩, A3, n3, c3, hA, hx, hF, hI, hcel⟩ := (HL.out.bel hbo).bkg hlt
      subst hA
      simp only at hF
      have y0 : wr.cell? ⟨ab, off + k * 11, none⟩ = some (.int .i64 id) := hcel 0 _ rfl
      have y1 : wr.cell? ⟨ab, off + k * 11 + 1, none⟩ = some (.int .i64 kind) := hcel 1 _ rfl
      have y2 : wr.cell? ⟨ab, off + k * 11 + 2, none⟩ = some (.int .i64 state) := hcel 2 _ rfl
      have y3 : wr.cell? ⟨ab, off + k * 11 + 3, none⟩ = some (.int .i64 gst) := hcel 3 _ rfl
      have y4 : wr.cell? ⟨ab, off + k * 11 + 4, none⟩ = some (.bool lev) := hcel 4 _ rfl
      have y5 : wr.cell? ⟨ab, off + k * 11 + 5, none⟩ = some (.int .i64 cab) := hcel 5 _ rfl
      have y6 : wr.cell? ⟨ab, off + k * 11 + 6, none⟩ = some (.int .i64 cat) := hcel 6 _ rfl
      have y7 : wr.cell? ⟨ab, off + k * 11 + 7, none⟩ = some (.int .i64 frm) := hcel 7 _ rfl
      have y8 : wr.cell? ⟨ab, off + k * 11 + 8, none⟩ = some (.int .i64 upto) := hcel 8 _ rfl
      have y9 : wr.cell? ⟨ab, off + k * 11 + 9, none⟩ = some (.int .i64 til) := hcel 9 _ rfl
      have y10 : wr.cell? ⟨ab, off + k * 11 + 10, none⟩ = some (.slice A3 n3 c3) := hcel 10 _ rfl
      clear hcel
      have s11 : wr.cell? ⟨g, 11, none⟩ = some (.slice (some ⟨ab, off, none⟩) nb cb) := hG.cell rfl
      go_upto_region 6 with (fail)
      go_cut [7] (fun p1 wx => ∃ z, p1 = .pointer (some ⟨z, 0, none⟩) ∧ wr.heap.size ≤ z ∧ Blk wx z (bkgA ⟨id, kind, state, gst, lev, cab, cat, frm, upto, til, fol⟩ (.slice A3 n3 c3)) 42 ∧ Below wr.heap.size wr wx)
      case first => as_aux_lemma =>
        go_wp2_with fail
        go_meet
        exact ⟨_, rfl, Nat.le_refl _, blk1 _ _, bel1 _ _⟩
      obtain ⟨z, rfl, hzs, hZ, hbz⟩ := hcut
      clear y0 y1 y2 y3 y4 y5 y6 y7 y8 y9 y10 hs1 hs2 hF s11 hG
      have hl1 := hO1.lt
      have hl2 := hO2.lt
      have hz1 : (Value.slice A1 n1 c1).ownBlock ≠ some z := fun e => by have := (hl1 z e).2; omega
      have hz2 : (Value.slice A2 n2 c2).ownBlock ≠ some z := fun e => by have := (hl2 z e).2; omega
      replace hO1 := hO1.bel hbz
      replace hO2 := hO2.bel hbz
      replace hb := hb.trans (hbz.mono hb.size)
      have hfin := openN_succ hx
      have hopl := openN_len x k
      have HOK := Lib.hid (HK.out _ (List.mem_of_getElem? hx))
      obtain ⟨q, hq⟩ : ∃ q, q = openB ⟨id, kind, state, gst, lev, cab, cat, frm, upto, til, fol⟩ := ⟨_, rfl⟩
      have HCALL := Lib.hid (fun W => isOpen_any ⟨id, kind, state, gst, lev, cab, cat, frm, upto, til, fol⟩ (.slice A3 n3 c3) W)
      rw [← hq] at HCALL hfin
      obtain ⟨ON, hON⟩ : ∃ ON, ON = openN x k := ⟨_, rfl⟩
      rw [← hON] at hO1 hO2 hln1 hopl hfin
      have HFIN := Lib.hid hfin
      clear hfin
      have HQ := Lib.hid hq
      clear hq
      have HLN1 := Lib.hid hln1
      clear hln1
      have hidI := hI.id
      simp only at hidI
      have hidI' := Lib.hid hidI
      have z0 : wc.cell? ⟨z, 0, none⟩ = some (.int .i64 id) := hZ.cell rfl
      have z1 : wc.cell? ⟨z, 1, none⟩ = some (.int .i64 kind) := hZ.cell rfl
      have z2 : wc.cell? ⟨z, 2, none⟩ = some (.int .i64 state) := hZ.cell rfl
      have z3 : wc.cell? ⟨z, 3, none⟩ = some (.int .i64 gst) := hZ.cell rfl
      have z4 : wc.cell? ⟨z, 4, none⟩ = some (.bool lev) := hZ.cell rfl
      have z5 : wc.cell? ⟨z, 5, none⟩ = some (.int .i64 cab) := hZ.cell rfl
      have z6 : wc.cell? ⟨z, 6, none⟩ = some (.int .i64 cat) := hZ.cell rfl
      have z7 : wc.cell? ⟨z, 7, none⟩ = some (.int .i64 frm) := hZ.cell rfl
      have z8 : wc.cell? ⟨z, 8, none⟩ = some (.int .i64 upto) := hZ.cell rfl
      have z9 : wc.cell? ⟨z, 9, none⟩ = some (.int .i64 til) := hZ.cell rfl
      have z10 : wc.cell? ⟨z, 10, none⟩ = some ((.slice A3 n3 c3)) := hZ.cell rfl
      have HO1 := Lib.hid hO1
      clear hO1
      have HO2 := Lib.hid hO2
      clear hO2
      have HAP := Lib.hid hap
      clear hap
      have HZ1 := Lib.hid hz1
      clear hz1
      have HZ2 := Lib.hid hz2
      clear hz2
      clear hx hI hbz hON hl1 hl2 hidI hbo
      go_wp2_with fail
      refine (HCALL.out _).mono ?_
      rintro e w3 ⟨rfl, hb3⟩
      replace hb := hb.trans (hb3.mono hb.size)
      have hZ := hZ.bel hb3
      have hO1 := HO1.out.bel hb3
      have hO2 := HO2.out.bel hb3
      have hzw := hZ.lt
      clear hb3 z0 z1 z2 z3 z4 z5 z6 z7 z8 z9 z10 HCALL HO1 HO2
      cases q
      · have HV := Lib.hid (HFIN.out.trans (by simp : _ = ON))
        have HO1 := Lib.hid hO1
        clear hO1
        have HO2 := Lib.hid hO2
        clear hO2
        clear hZ
        go_wp2_with fail
        go_roundg (nb - (k + 1))
        case measure => omega
        case rel => exact ⟨k + 1, xs1, xs2, by omega, by omega, by go_num, by rw [HV.out]; exact HO1.out, by rw [HV.out]; exact HO2.out, HAP.out, hb⟩
      · have HV := Lib.hid (HFIN.out.trans (by simp : _ = ON ++ [⟨id, kind, state, gst, lev, cab, cat, frm, upto, til, fol⟩]))
        have HCT := Lib.hid (open_cat HOK.out HQ.out.symm)
        obtain ⟨ln, hln⟩ : ∃ ln : Nat, ln = n1 := ⟨_, rfl⟩
        have HLN := Lib.hid (hln.trans HLN1.out)
        have HL1N := Lib.hid hln
        have HO1 := Lib.hid hO1
        clear hO1
        have HO2 := Lib.hid hO2
        clear hO2
        have HZ := Lib.hid hZ
        clear hZ
        have HB := Lib.hid hb
        clear hb
        clear hln
        go_wp2_with fail
        go_loopg [5, 8] m (fun gk2 v2 i wr2 => ∃ (j : Nat) (xs2 : List Value), j ≤ m ∧ m - j ≤ gk2 ∧ i = .int .i64 j ∧ Own intC 1 3 wr2 W0.heap.size (.slice A1 n1 c1) (ON.map (·.id)) xs1 ∧ Own edgC 2 95 wr2 W0.heap.size v2 (edgF x ON 0 ++ toE ON.length (mayN x ⟨id, kind, state, gst, lev, cab, cat, frm, upto, til, fol⟩ j)) xs2 ∧ Apart (.slice A1 n1 c1) v2 ∧ v2.ownBlock ≠ some z ∧ Blk wr2 z (bkgA ⟨id, kind, state, gst, lev, cab, cat, frm, upto, til, fol⟩ (.slice A3 n3 c3)) 42 ∧ Below W0.heap.size W0 wr2)
        case atStart => exact ⟨0, _, Nat.zero_le _, by omega, rfl, HO1.out, by show Own _ _ _ _ _ _ (_ ++ []) _; rw [List.append_nil]; exact HO2.out, HAP.out, HZ2.out, HZ.out, HB.out⟩
        case round =>
          obtain ⟨j, xs2, hj, hgj, rfl, hO1, hO2, hap, hne, hZ, hb⟩ := hrel
          obtain ⟨A4, n4, c4, rfl, hs4⟩ := hO2.sl edgC_good
          have hn4 : n4 ≤ 1000 := by
            have h1 := hs4.len
            have h2 := edgF_len x ON 0
            have h3 := mayN_len x ⟨id, kind, state, gst, lev, cab, cat, frm, upto, til, fol⟩ j
            have h4 : ON.length * x.ship.cabs.length ≤ 16 * 12 := Nat.mul_le_mul (by omega) (by rw [HM.out]; exact hm12)
            rw [List.length_append] at h1
            unfold toE at h1
            rw [List.length_map] at h1
            omega
          have hG := HG.out.bel hb
          have s3 : wr.cell? ⟨g, 3, none⟩ = some (.slice B m cap2) := hG.cell rfl
          have s11 : wr.cell? ⟨g, 11, none⟩ = some (.slice (some ⟨ab, off, none⟩) nb cb) := hG.cell rfl
          by_cases hlj : j < m
          · have hbo := HBW.out.trans (hb.mono HBW.out.size)
            have hsu := mayN_succ x ⟨id, kind, state, gst, lev, cab, cat, frm, upto, til, fol⟩ j
            have hcall := HEL.out ⟨id, kind, state, gst, lev, cab, cat, frm, upto, til, fol⟩ (.slice A3 n3 c3) j
            obtain ⟨f, hf⟩ : ∃ f, f = eligB x.ship ⟨id, kind, state, gst, lev, cab, cat, frm, upto, til, fol⟩ (j : Int) := ⟨_, rfl⟩
            have hem := HEM.out j
            obtain ⟨em, hemq⟩ : ∃ q, q = emptyB x.bks j := ⟨_, rfl⟩
            have hsf := HSF.out (j : Int) wr (HL.out.bel hbo)
            obtain ⟨tb, htb⟩ : ∃ q, q = takB x.bks (j : Int) := ⟨_, rfl⟩
            obtain ⟨tl, htl⟩ : ∃ q, q = takL x.bks (j : Int) := ⟨_, rfl⟩
            rw [← hf] at hcall hsu
            rw [← hemq] at hsu hem
            rw [← htb, ← htl] at hem hsf
            have HEMQ := Lib.hid hem
            clear hem
            have HSU := Lib.hid hsu
            clear hsu
            have HCALL := Lib.hid hcall
            clear hcall
            have HSFC := Lib.hid hsf
            clear hsf
            have HO1 := Lib.hid hO1
            clear hO1
            have HO2 := Lib.hid hO2
            clear hO2
            have HAP := Lib.hid hap
            clear hap
            have HNE := Lib.hid hne
            clear hne
            clear hf hemq htb htl hs4 hG
            have HZ := Lib.hid hZ
            clear hZ
            go_wp2_with fail
            refine HSFC.out.mono ?_
            rintro e w5 ⟨v5, xs5, rfl, hO5, hb5⟩
            obtain ⟨A5, n5, c5, rfl, hs5⟩ := hO5.sl spanC_good
            have hn5 : tl.length = n5 := hs5.len
            replace hb := hb.trans (hb5.mono hb.size)
            replace hbo := hbo.trans (hb5.mono hbo.size)
            have hG := HG.out.bel hb
            have hZ := HZ.out.bel hb5
            have hO1 := HO1.out.bel hb5
            have hO2 := HO2.out.bel hb5
            have HEM2 := Lib.hid HEMQ.out
            rw [hn5] at HEM2
            have HO1' := Lib.hid hO1
            clear hO1
            have HO2' := Lib.hid hO2
            clear hO2
            clear hb5 hO5 hs5 hn5 s3 s11 HO1 HO2 HSFC HEMQ HZ
            have HNO := Lib.hid (show ∀ W2 : World, em = false → Below W0.heap.size W0 W2 → Below w5.heap.size w5 W2 → (mayN x ⟨id, kind, state, gst, lev, cab, cat, frm, upto, til, fol⟩ (j + 1) = mayN x ⟨id, kind, state, gst, lev, cab, cat, frm, upto, til, fol⟩ j) ∧ Own intC 1 3 W2 W0.heap.size (.slice A1 n1 c1) (ON.map (·.id)) xs1 ∧ Own edgC 2 95 W2 W0.heap.size (.slice A4 n4 c4) (edgF x ON 0 ++ toE ON.length (mayN x ⟨id, kind, state, gst, lev, cab, cat, frm, upto, til, fol⟩ j)) xs2 ∧ Blk W2 z (bkgA ⟨id, kind, state, gst, lev, cab, cat, frm, upto, til, fol⟩ (.slice A3 n3 c3)) 42 from fun W2 he _ h2 =>
              ⟨by rw [HSU.out, he]; simp, HO1'.out.bel h2, HO2'.out.bel h2, hZ.bel h2⟩)
            cases tb
            · have HE := Lib.hid (show em = false from by have := HEM2.out; rw [Bool.false_and] at this; exact this.symm)
              clear hG
              have HZZ := Lib.hid hZ
              clear hZ
              go_wp2_with fail
              obtain ⟨p0, p1, p2, p3⟩ := HNO.out w5 HE.out hb (Below.refl _ _)
              go_roundg (m - (j + 1))
              case measure => omega
              case rel => exact ⟨j + 1, xs2, by omega, by omega, by go_num, p1, by rw [p0]; exact p2, HAP.out, HNE.out, p3, hb⟩
            by_cases h5 : n5 = 0
            rotate_left
            · have HE := Lib.hid (show em = false from by have := HEM2.out; rw [decide_eq_false h5, Bool.and_false] at this; exact this.symm)
              have h5' : ((n5 : Int) == 0) = false := by rw [beq_eq_false_iff_ne]; omega
              clear hG h5
              have HZZ := Lib.hid hZ
              clear hZ
              go_wp2_with fail
              obtain ⟨p0, p1, p2, p3⟩ := HNO.out w5 HE.out hb (Below.refl _ _)
              go_roundg (m - (j + 1))
              case measure => omega
              case rel => exact ⟨j + 1, xs2, by omega, by omega, by go_num, p1, by rw [p0]; exact p2, HAP.out, HNE.out, p3, hb⟩
            have HE := Lib.hid (show em = true from by have := HEM2.out; rw [decide_eq_true h5] at this; exact this.symm)
            subst h5
            clear HNO
            have s0 : w5.cell? ⟨g, 0, none⟩ = some (.int .i64 x.ship.legs) := hG.cell rfl
            have s1 : w5.cell? ⟨g, 1, none⟩ = some (.int .i64 x.ship.souls) := hG.cell rfl
            have s2 : w5.cell? ⟨g, 2, none⟩ = some (.slice A n cap) := hG.cell rfl
            have s3 : w5.cell? ⟨g, 3, none⟩ = some (.slice B m cap2) := hG.cell rfl
            have s4 : w5.cell? ⟨g, 4, none⟩ = some (.slice D nd cd) := hG.cell rfl
            have s5 : w5.cell? ⟨g, 5, none⟩ = some (.int .i64 x.fares.alone) := hG.cell rfl
            have s6 : w5.cell? ⟨g, 6, none⟩ = some (.int .i64 x.fares.third) := hG.cell rfl
            have s7 : w5.cell? ⟨g, 7, none⟩ = some (.slice E ne ce) := hG.cell rfl
            have s8 : w5.cell? ⟨g, 8, none⟩ = some (.int .i64 x.fares.down) := hG.cell rfl
            have s9 : w5.cell? ⟨g, 9, none⟩ = some (.int .i64 x.day) := hG.cell rfl
            have s10 : w5.cell? ⟨g, 10, none⟩ = some (.int .i64 x.leaves) := hG.cell rfl
            have s11 : w5.cell? ⟨g, 11, none⟩ = some (.slice (some ⟨ab, off, none⟩) nb cb) := hG.cell rfl
            have s12 : w5.cell? ⟨g, 12, none⟩ = some (.bool x.closed) := hG.cell rfl
            have z0 : w5.cell? ⟨z, 0, none⟩ = some (.int .i64 id) := hZ.cell rfl
            have z1 : w5.cell? ⟨z, 1, none⟩ = some (.int .i64 kind) := hZ.cell rfl
            have z2 : w5.cell? ⟨z, 2, none⟩ = some (.int .i64 state) := hZ.cell rfl
            have z3 : w5.cell? ⟨z, 3, none⟩ = some (.int .i64 gst) := hZ.cell rfl
            have z4 : w5.cell? ⟨z, 4, none⟩ = some (.bool lev) := hZ.cell rfl
            have z5 : w5.cell? ⟨z, 5, none⟩ = some (.int .i64 cab) := hZ.cell rfl
            have z6 : w5.cell? ⟨z, 6, none⟩ = some (.int .i64 cat) := hZ.cell rfl
            have z7 : w5.cell? ⟨z, 7, none⟩ = some (.int .i64 frm) := hZ.cell rfl
            have z8 : w5.cell? ⟨z, 8, none⟩ = some (.int .i64 upto) := hZ.cell rfl
            have z9 : w5.cell? ⟨z, 9, none⟩ = some (.int .i64 til) := hZ.cell rfl
            have z10 : w5.cell? ⟨z, 10, none⟩ = some ((.slice A3 n3 c3)) := hZ.cell rfl
            have hcall := HCALL.out w5 (HC.out.bel hbo) (HD.out.bel hbo) hlj HCT.out.1 (by have := HCT.out.2; rwa [HNC.out] at this)
            have HCALL2 := Lib.hid hcall
            clear hcall
            have HZZ := Lib.hid hZ
            clear hZ
            clear hG HCALL
            go_wp2_with fail
            refine HCALL2.out.mono ?_
            rintro e w6 ⟨rfl, hb6⟩
            replace hb := hb.trans (hb6.mono hb.size)
            have hZ := HZZ.out.bel hb6
            have hO1 := HO1'.out.bel hb6
            have hO2 := HO2'.out.bel hb6
            clear hb6 s0 s1 s2 s3 s4 s5 s6 s7 s8 s9 s10 s11 s12 z0 z1 z2 z3 z4 z5 z6 z7 z8 z9 z10 HO1' HO2' HZZ HCALL2
            cases f
            · have HV2 := Lib.hid (show mayN x ⟨id, kind, state, gst, lev, cab, cat, frm, upto, til, fol⟩ (j + 1) = mayN x ⟨id, kind, state, gst, lev, cab, cat, frm, upto, til, fol⟩ j by rw [HSU.out]; simp)
              have HO1' := Lib.hid hO1
              clear hO1
              have HO2' := Lib.hid hO2
              clear hO2
              have HZ5 := Lib.hid hZ
              clear hZ
              go_wp2_with fail
              go_roundg (m - (j + 1))
              case measure => omega
              case rel => exact ⟨j + 1, xs2, by omega, by omega, by go_num, HO1'.out, by rw [HV2.out]; exact HO2'.out, HAP.out, HNE.out, HZ5.out, hb⟩
            · have HV2 := Lib.hid (show edgF x ON 0 ++ toE ON.length (mayN x ⟨id, kind, state, gst, lev, cab, cat, frm, upto, til, fol⟩ (j + 1)) = (edgF x ON 0 ++ toE ON.length (mayN x ⟨id, kind, state, gst, lev, cab, cat, frm, upto, til, fol⟩ j)) ++ [⟨(ln : Int), (j : Int)⟩] by
                rw [HSU.out, if_pos (by rw [HE.out]; rfl), toE_app, ← List.append_assoc, HLN.out]; rfl)
              have hln2 : ln = n1 := HL1N.out
              have hlnb : ln ≤ 16 := by have := HLN.out; omega
              subst hln2
              have hO1q := hO1.bel (bel1 w6 (.cells #[.int .i64 (ln : Int), .int .i64 (j : Int)] 95))
              have hOq := hO2.bel (bel1 w6 (.cells #[.int .i64 (ln : Int), .int .i64 (j : Int)] 95))
              have hZq := hZ.bel (bel1 w6 (.cells #[.int .i64 (ln : Int), .int .i64 (j : Int)] 95))
              have hsw := hb.size
              have hsq : W0.heap.size ≤ (w6.alloc (.cells #[.int .i64 (ln : Int), .int .i64 (j : Int)] 95)).heap.size := by simp; omega
              have hby2 : ((edgF x ON 0 ++ toE ON.length (mayN x ⟨id, kind, state, gst, lev, cab, cat, frm, upto, til, fol⟩ j)).length + 1) * 16 ≤ 140737488355328 := by
                obtain ⟨_, _, _, he, hs9⟩ := hO2.sl edgC_good
                simp only [Value.slice.injEq] at he
                have := hs9.len
                omega
              have HBQ := Lib.hid (hb.alloc hb.size (.cells #[.int .i64 (ln : Int), .int .i64 (j : Int)] 95))
              have HPOST := Lib.hid (fun (v' : Value) (w' : World) (xs' : List Value) (hown' : Own edgC 2 95 w' W0.heap.size v' ((edgF x ON 0 ++ toE ON.length (mayN x ⟨id, kind, state, gst, lev, cab, cat, frm, upto, til, fol⟩ j)) ++ [⟨(ln : Int), (j : Int)⟩]) xs') (hg' : (w6.alloc (.cells #[.int .i64 (ln : Int), .int .i64 (j : Int)] 95)).grownBy w' (Value.slice A4 n4 c4).ownBlock) (hat : v'.ownBlock = (Value.slice A4 n4 c4).ownBlock ∨ v'.ownBlock = some (w6.alloc (.cells #[.int .i64 (ln : Int), .int .i64 (j : Int)] 95)).heap.size) =>
                (⟨Own.grownF intC_flat hO1q hg' HAP.out, Apart.step HAP.out (fun k hk => (hO1q.lt k hk).2) hat, (show v'.ownBlock ≠ some z from by
                  rcases hat with e | e
                  · rw [e]; exact HNE.out
                  · rw [e]; intro h2; injection h2 with h2; have := hZq.lt; omega), Blk.grown hZq hg' (fun e => HNE.out e.symm), below_app HBQ.out hOq hg' hsq⟩ : Own intC 1 3 w' W0.heap.size (.slice A1 ln c1) (ON.map (·.id)) xs1 ∧ Apart (.slice A1 ln c1) v' ∧ v'.ownBlock ≠ some z ∧ Blk w' z (bkgA ⟨id, kind, state, gst, lev, cab, cat, frm, upto, til, fol⟩ (.slice A3 n3 c3)) 42 ∧ Below W0.heap.size W0 w'))
              have HSLE := Lib.hid (sl_edg w6 All (ln : Int) (j : Int) 95 (.of (by omega) (by omega)) (.of (by omega) (by omega)) trivial)
              have HOQ := Lib.hid hOq
              clear hO1 hO2 hZ hO1q hOq hZq hb
              go_wp2_with (at_builtin; refine list_app (t := 45) (e := 95) (bytes := 16) rfl (.tmp 54) (.tmp 59) rfl edg_elem edgC_good rfl HOQ.out rfl HSLE.out (fun _ _ hc => hc) hby2 (by omega) hsq ?_; intro v' w' xs' hown' hg' hat')
              obtain ⟨p1, p2, p3, p4, p5⟩ := HPOST.out _ _ _ hown' hg' hat'
              go_roundg (m - (j + 1))
              case measure => omega
              case rel => exact ⟨j + 1, xs', by omega, by omega, by go_num, p1, by rw [HV2.out]; exact hown', p2, p3, p4, p5⟩
          · obtain rfl : j = m := by omega
            have HV3 := Lib.hid (show edgF x (openN x (k + 1)) 0 = edgF x ON 0 ++ toE ON.length (mayN x ⟨id, kind, state, gst, lev, cab, cat, frm, upto, til, fol⟩ j) by rw [HV.out, edgF_snoc, Nat.zero_add, mayL_eq, HM.out])
            have HV4 := Lib.hid (show (openN x (k + 1)).map (·.id) = ON.map (·.id) ++ [id] by rw [HV.out, List.map_append]; rfl)
            have z0 : wr.cell? ⟨z, 0, none⟩ = some (.int .i64 id) := hZ.cell rfl
            have hOq := hO1.bel (bel1 wr (.cells #[.int .i64 id] 3))
            have hO2q := hO2.bel (bel1 wr (.cells #[.int .i64 id] 3))
            have hsw := hb.size
            have hsq : W0.heap.size ≤ (wr.alloc (.cells #[.int .i64 id] 3)).heap.size := by simp; omega
            have hby2 : ((ON.map (·.id)).length + 1) * 8 ≤ 140737488355328 := by rw [List.length_map]; omega
            have HBQ := Lib.hid (hb.alloc hb.size (.cells #[.int .i64 id] 3))
            have HPOST := Lib.hid (fun (v' : Value) (w' : World) (xs' : List Value) (hown' : Own intC 1 3 w' W0.heap.size v' (ON.map (·.id) ++ [id]) xs') (hg' : (wr.alloc (.cells #[.int .i64 id] 3)).grownBy w' (Value.slice A1 n1 c1).ownBlock) (hat : v'.ownBlock = (Value.slice A1 n1 c1).ownBlock ∨ v'.ownBlock = some (wr.alloc (.cells #[.int .i64 id] 3)).heap.size) =>
              (⟨Own.grownF edgC_flat hO2q hg' hap.symm, (Apart.step hap.symm (fun k hk => (hO2q.lt k hk).2) hat).symm, below_app HBQ.out hOq hg' hsq⟩ : Own edgC 2 95 w' W0.heap.size (.slice A4 n4 c4) (edgF x ON 0 ++ toE ON.length (mayN x ⟨id, kind, state, gst, lev, cab, cat, frm, upto, til, fol⟩ j)) xs2 ∧ Apart v' (.slice A4 n4 c4) ∧ Below W0.heap.size W0 w'))
            have HSLI := Lib.hid (sl_int wr All id 3 hidI'.out trivial)
            have HOQ := Lib.hid hOq
            clear hO1 hO2 hZ hOq hO2q hb hs4 hap hne hG s11
            go_wp2_with (at_builtin; refine list_app (t := 44) (e := 3) (bytes := 8) rfl (.tmp 61) (.tmp 64) rfl int_elem intC_good rfl HOQ.out rfl HSLI.out (fun _ _ hc => hc) hby2 (by omega) hsq ?_; intro v' w' xs' hown' hg' hat')
            obtain ⟨p1, p2, p3⟩ := HPOST.out _ _ _ hown' hg' hat'
            go_roundg (nb - (k + 1))
            case measure => omega
            case rel => exact ⟨k + 1, xs', xs2, by omega, by omega, by go_num, by rw [HV4.out]; exact hown', by rw [HV3.out]; exact p1, p2, p3⟩
    · obtain rfl : k = nb := by omega
      have s11 : wr.cell? ⟨g, 11, none⟩ = some (.slice C k cb) := hG.cell rfl
      rw [openN_all HN.out] at hO1 hO2
      have HO1 := Lib.hid (hO1.mono intC_good HBW.out.size)
      have HO2 := Lib.hid (hO2.mono edgC_good HBW.out.size)
      clear hO1 hO2 hs1 hs2 hG
      go_wp2_with fail
      go_ret2
      exact ⟨_, _, xs1, xs2, rfl, HO1.out, HO2.out, HBW.out.trans (hb.mono HBW.out.size)⟩
end Go.Proofs.YtlablioefblmkaaGreat
namespace Go.Proofs.YtlablioefblmkaaGreat
open Go.RowKit Go.Shelf
theorem ins_of {l : List Bkg} {b : Bkg} {i : Nat} (hr : Rise l) (hn : hasId l b.id = false) (hi : i ≤ l.length) (hhi : ∀ (q : Nat) (c : Bkg), i ≤ q → l[q]? = some c → b.id < c.id)
    (hlo : ∀ c, 0 < i → l[i - 1]? = some c → c.id ≤ b.id) : l.take i ++ b :: l.drop i = insS l b := by
  have hp : posI l b.id = i := pos_of hi (fun q c hq hc => by
    have hne : c.id ≠ b.id := fun e => by
      have := List.any_eq_false.1 hn c (List.mem_of_getElem? hc)
      simp [e] at this
    have hlt : i - 1 < l.length := by omega
    have h1 := hlo _ (by omega) (List.getElem?_eq_getElem hlt)
    rcases Nat.lt_or_ge q (i - 1) with h | h
    · have := hr q (i - 1) c _ h hc (List.getElem?_eq_getElem hlt)
      omega
    · obtain rfl : q = i - 1 := by omega
      rw [List.getElem?_eq_getElem hlt] at hc; injection hc with hc; subst hc; omega) (fun q c hq hc => by have := hhi q c hq hc; omega)
  unfold insS; rw [hp]
theorem ins_swap {α : Type} {L : List α} {b a : α} {i : Nat} (hi : i + 1 ≤ L.length) (ha : L[i]? = some a) : ((L.take (i + 1) ++ b :: L.drop (i + 1)).set (i + 1) a).set i b = L.take i ++ b :: L.drop i := by
  apply List.ext_getElem?
  intro j
  have e1 : min (i + 1) L.length = i + 1 := by omega
  have e2 : min i L.length = i := by omega
  have hlt : i < L.length := by omega
  simp only [List.getElem?_set, List.getElem?_append, List.length_append, List.length_take, List.length_cons, List.length_drop, List.getElem?_take, List.getElem?_cons, List.getElem?_drop, List.length_set, e1, e2]
  rcases Nat.lt_trichotomy j i with h | h | h
  · have h1 : ¬ i = j := by omega
    have h2 : ¬ i + 1 = j := by omega
    have h3 : j < i + 1 := by omega
    simp only [h1, h2, h3, h, if_true, if_false]
  · subst h
    have h4 : j < j + 1 + (L.length - (j + 1) + 1) := by omega
    have h5 : ¬ j < j := by omega
    simp only [h4, h5, if_true, if_false, Nat.sub_self]
  · rcases Nat.lt_or_ge j (i + 2) with h2 | h2
    · obtain rfl : j = i + 1 := by omega
      have h4 : i + 1 < i + 1 + (L.length - (i + 1) + 1) := by omega
      have h5 : ¬ i = i + 1 := by omega
      have h6 : ¬ i + 1 < i := by omega
      have h7 : ¬ i + 1 - i = 0 := by omega
      simp only [h4, h5, h6, h7, if_true, if_false]
      rw [show i + (i + 1 - i - 1) = i by omega, ha]
    · have h5 : ¬ i = j := by omega
      have h6 : ¬ i + 1 = j := by omega
      have h7 : ¬ j < i + 1 := by omega
      have h8 : ¬ j < i := by omega
      have h9 : ¬ j - (i + 1) = 0 := by omega
      have h10 : ¬ j - i = 0 := by omega
      simp only [h5, h6, h7, h8, h9, h10, if_false]
      congr 1
      omega
end Go.Proofs.YtlablioefblmkaaGreat
namespace Go.Proofs.YtlablioefblmkaaGreat
open Go.RowKit Go.Shelf
theorem rise_pw {l : List Bkg} : Rise l ↔ l.Pairwise (fun a b => a.id < b.id) := by
  constructor
  · intro h
    exact List.pairwise_iff_getElem.2 fun i j hi hj hij => h i j _ _ hij (List.getElem?_eq_getElem hi) (List.getElem?_eq_getElem hj)
  · intro h i j a b hij ha hb
    obtain ⟨hi, rfl⟩ := List.getElem?_eq_some_iff.1 ha
    obtain ⟨hj, rfl⟩ := List.getElem?_eq_some_iff.1 hb
    exact List.pairwise_iff_getElem.1 h i j hi hj hij
end Go.Proofs.YtlablioefblmkaaGreat
namespace Go.Proofs.YtlablioefblmkaaGreat
open Go.RowKit Go.Shelf
set_option maxRecDepth 100000 in
set_option maxHeartbeats 16000000 in
theorem RoomOf_any (x : Sai) (p : SaiV) (w : World) (h : SaiR w x p) (ho : OkShp x.ship) (hk : ∀ b ∈ x.bks, OkBk x.ship b) (h16 : x.bks.length ≤ 16) :
    Calls Tryz.prog 73 #[.agg (saiA x p)] w fun e w' => e = .returned (.int .i64 (roomE x)) ∧ Below w.heap.size w w' := by
  have HOP := Lib.hid (fun W h => PromisesOf_any x p W h ho hk h16)
  have HS := Lib.hid h
  obtain ⟨A, n, cap, B, m, cap2, D, nd, cd, E, ne, ce, C, nb, cb⟩ := p
  have hl : Sl bkgC 11 w All C nb cb x.bks := h.bks
  have hd : Sl cabC 4 w All B m cap2 x.ship.cabs := h.cabs
  have hnb : nb ≤ 16 := by rw [← hl.len]; exact h16
  have hm12 : m ≤ 12 := by rw [← hd.len]; exact ho.cabs12
  have HTK := Lib.hid (fun (c : Int) W hW => SpansOf_any C nb cb x.bks c W hW (spOk_of ho hk))
  obtain ⟨r, hr⟩ : ∃ r, r = roomE x := ⟨_, rfl⟩
  rw [← hr]
  have HR := Lib.hid (show r = if (List.range m).any (fun c => !takB x.bks (c : Int)) = true then 6 else if x.ship.souls < mx (soulL x.bks x.ship.legs.toNat) then 8 else if allB (idsL x).length (edgL x) = true then 0 else 9 by rw [hr, ← hd.len]; rfl)
  have HN := Lib.hid hl.len
  have HM := Lib.hid hd.len
  have HL := Lib.hid hl
  have HOK := Lib.hid ho
  have HK := Lib.hid hk
  clear hk
  have HL16 := Lib.hid h16
  clear h16
  clear h hl hd hr ho
  go_enter Tryz.func73, Tryz.ntmps73
  go_upto_region 0 with (fail)
  go_cut [1, 2] (fun q _ wx => ∃ g, q = .pointer (some ⟨g, 0, none⟩) ∧ Blk wx g (saiA x ⟨A, n, cap, B, m, cap2, D, nd, cd, E, ne, ce, C, nb, cb⟩) 32 ∧ Below w.heap.size w wx)
  case first => as_aux_lemma =>
    go_wp2_with fail
    go_meet
    exact ⟨_, rfl, blk1 _ _, bel1 _ _⟩
  obtain ⟨g, rfl, hG, hbw⟩ := hcut
  obtain ⟨W0, hW0⟩ : ∃ W, W = wc := ⟨_, rfl⟩
  subst hW0
  have HG := Lib.hid hG
  clear hG
  have HBW := Lib.hid hbw
  clear hbw
  go_wp2_with fail
  go_loopg [3] m (fun gk i wr => ∃ k : Nat, k ≤ m ∧ m - k ≤ gk ∧ i = .int .i64 k ∧ Aside (∀ j, j < k → takB x.bks (j : Int) = true) ∧ Below W0.heap.size W0 wr)
  case atStart => exact ⟨0, Nat.zero_le _, by omega, rfl, fun j hj => absurd hj (Nat.not_lt_zero _), Below.refl _ _⟩
  case round =>
    obtain ⟨k, hk, hgk, rfl, HE, hb⟩ := hrel
    have hG := HG.out.bel hb
    have hbo := HBW.out.trans (hb.mono HBW.out.size)
    have s3 : wr.cell? ⟨g, 3, none⟩ = some (.slice B m cap2) := hG.cell rfl
    by_cases hlt : k < m
    · have s11 : wr.cell? ⟨g, 11, none⟩ = some (.slice C nb cb) := hG.cell rfl
      have hcall := HTK.out (k : Int) wr (HL.out.bel hbo)
      obtain ⟨q, hq⟩ : ∃ q, q = takB x.bks (k : Int) := ⟨_, rfl⟩
      rw [← hq] at hcall
      have HCALL := Lib.hid hcall
      clear hcall
      have HQ := Lib.hid hq
      clear hq
      clear hG
      go_wp2_with fail
      refine HCALL.out.mono ?_
      rintro e w2 ⟨v, xs, rfl, hO, hb2⟩
      obtain ⟨A1, n1, c1, rfl, _⟩ := hO.sl spanC_good
      replace hb := hb.trans (hb2.mono hb.size)
      replace hbo := hbo.trans (hb2.mono hbo.size)
      clear hO hb2 s11 s3
      cases q
      · obtain rfl : r = 6 := by rw [HR.out, if_pos (any_range hlt (by show (!takB x.bks (k : Int)) = true; rw [← HQ.out]; rfl))]
        go_wp2_with fail
        go_ret
        exact ⟨rfl, hbo⟩
      · skip
        go_wp2_with fail
        go_roundg (m - (k + 1))
        case measure => omega
        case rel => exact ⟨k + 1, by omega, by omega, by go_num, fun j hj => by
          by_cases e : j = k
          · subst e; exact HQ.out.symm
          · exact HE j (by omega), hb⟩
    · obtain rfl : k = m := by omega
      have HR2 := Lib.hid (HR.out.trans (if_neg (by
        rw [any_range_no (fun i hi => by show (!takB x.bks (i : Int)) = false; rw [HE i hi]; rfl)]; simp)))
      have hlg := shp_legs HOK.out
      obtain ⟨N, hNl⟩ : ∃ N : Nat, x.ship.legs = N := ⟨x.ship.legs.toNat, by omega⟩
      have hNt : x.ship.legs.toNat = N := by omega
      have HAB := Lib.hid (fun W hW => SoulsOf_any N C nb cb x.bks W hW (by rw [← hNt]; exact abOk_of HOK.out HK.out) (by omega) (by omega))
      obtain ⟨sl, hsl⟩ : ∃ q, q = soulL x.bks N := ⟨_, rfl⟩
      rw [← hsl, ← hNl] at HAB
      have HSLN := Lib.hid (show sl.length = N by rw [hsl]; exact soulL_len _ _)
      have HSB := Lib.hid (show ∀ y ∈ sl, 0 ≤ y ∧ y ≤ 4 * nb from fun y hy => by
        rw [hsl] at hy
        obtain ⟨i, hi⟩ := List.getElem?_of_mem hy
        have hlt : i < N := by have := (List.getElem?_eq_some_iff.1 hi).1; rwa [soulL_len] at this
        rw [soulL_get _ _ _ hlt] at hi
        injection hi with hi
        have := soulK_bd (l := x.bks) (fun b hb => (HK.out b hb).gst) i
        have := HN.out
        omega)
      have HN7 := Lib.hid (show 0 < N ∧ N ≤ 7 from by omega)
      obtain ⟨M, hM⟩ : ∃ M, M = mst sl := ⟨_, rfl⟩
      have hso := betB_iff.1 HOK.out.souls
      have hmx : (x.ship.souls < mx sl) = (x.ship.souls < M) := by
        rw [hM]; unfold mst
        exact propext ⟨fun h => by omega, fun h => by omega⟩
      have HR3 := Lib.hid (show r = if x.ship.souls < M then 8 else if allB (idsL x).length (edgL x) = true then 0 else 9 by
        rw [HR2.out, hNt, ← hsl]; simp only [hmx])
      have HMX := Lib.hid hM
      clear hM
      have HCEL := Lib.hid (show ∀ X, Below wr.heap.size wr X → (fun w' => w'.cell? ⟨g, 0, none⟩ = some (.int .i64 x.ship.legs) ∧ w'.cell? ⟨g, 1, none⟩ = some (.int .i64 x.ship.souls) ∧ w'.cell? ⟨g, 11, none⟩ = some (.slice C nb cb)) X from fun X hX => ⟨(hG.bel hX).cell rfl, (hG.bel hX).cell rfl, (hG.bel hX).cell rfl⟩)
      have HLW := Lib.hid (HL.out.bel hbo)
      clear hlg hNl hNt hsl HE HR2 HR hmx hso
      go_upto_region 7 with (fail)
      go_cut [35] (fun t wx => t = .bool (decide (x.ship.souls < M)) ∧ Below wr.heap.size wr wx)
      case first => as_aux_lemma =>
        have hbx : Below wr.heap.size wr wr.drew := (Below.refl _ wr).drew
        clear hG hb hbo s3
        refine wp_region_held_drew (S := (fun w' => w'.cell? ⟨g, 0, none⟩ = some (.int .i64 x.ship.legs) ∧ w'.cell? ⟨g, 1, none⟩ = some (.int .i64 x.ship.souls) ∧ w'.cell? ⟨g, 11, none⟩ = some (.slice C nb cb))) (by kernel_rfl) (HCEL.out _ hbx) (fun hHeld => ?_)
        refine wpAnyH_take (i := 0) (v := ?v1) (gA rfl) (by kernel_rfl) (by kernel_rfl) (by kernel_rfl) (fun _ _ _ h => h) (Or.inl ⟨rfl, ?y1⟩) (by assumption) ?_
        case y1 => (intro w hSw; (try dsimp only at hSw); go_simp <;> with_reducible rfl)
        simp only [Act.put, List.setIfInBounds_toArray, List.set_cons_zero, List.set_cons_succ]
        refine wpAnyH_take (i := 1) (v := ?v2) (gA rfl) (by kernel_rfl) (by kernel_rfl) (by kernel_rfl) (fun _ _ _ h => h) (Or.inl ⟨rfl, ?y2⟩) (by assumption) ?_
        case y2 => (intro w hSw; (try dsimp only at hSw); go_simp <;> with_reducible rfl)
        simp only [Act.put, List.setIfInBounds_toArray, List.set_cons_zero, List.set_cons_succ]
        refine wpAnyH_take (i := 2) (v := ?v3) (gA rfl) (by kernel_rfl) (by kernel_rfl) (by kernel_rfl) (fun _ _ _ h => h) (Or.inl ⟨rfl, ?y3⟩) (by assumption) ?_
        case y3 => (intro w hSw; (try dsimp only at hSw); go_simp <;> with_reducible rfl)
        simp only [Act.put, List.setIfInBounds_toArray, List.set_cons_zero, List.set_cons_succ]
        refine wpAnyH_take (i := 3) (v := ?v4) (gA rfl) (by kernel_rfl) (by kernel_rfl) (by kernel_rfl) (fun _ _ _ h => h) (Or.inl ⟨rfl, ?y4⟩) (by assumption) ?_
        case y4 => (intro w hSw; (try dsimp only at hSw); go_simp <;> with_reducible rfl)
        simp only [Act.put, List.setIfInBounds_toArray, List.set_cons_zero, List.set_cons_succ]
        refine wpAnyH_take (i := 4) (v := ?v5) (gA rfl) (by kernel_rfl) (by kernel_rfl) (by kernel_rfl) (fun _ _ _ h => h) (Or.inl ⟨rfl, ?y5⟩) (by assumption) ?_
        case y5 => (intro w hSw; (try dsimp only at hSw); go_simp <;> with_reducible rfl)
        simp only [Act.put, List.setIfInBounds_toArray, List.set_cons_zero, List.set_cons_succ]
        refine wpAnyH_take (i := 7) (v := ?v6) (gA rfl) (by kernel_rfl) (by kernel_rfl) (by kernel_rfl) (fun _ _ _ h => h) (Or.inl ⟨rfl, ?y6⟩) (by assumption) ?_
        case y6 => (intro w hSw; (try dsimp only at hSw); go_simp <;> with_reducible rfl)
        simp only [Act.put, List.setIfInBounds_toArray, List.set_cons_zero, List.set_cons_succ]
        refine wpAnyH_take (i := 8) (v := ?v7) (gA rfl) (by kernel_rfl) (by kernel_rfl) (by kernel_rfl) (fun _ _ _ h => h) (Or.inl ⟨rfl, ?y7⟩) (by assumption) ?_
        case y7 => (intro w hSw; (try dsimp only at hSw); go_simp <;> with_reducible rfl)
        simp only [Act.put, List.setIfInBounds_toArray, List.set_cons_zero, List.set_cons_succ]
        refine wpAnyH_take (i := 9) (v := ?v8) (gA rfl) (by kernel_rfl) (by kernel_rfl) (by kernel_rfl) (fun _ _ _ h => h) (Or.inl ⟨rfl, ?y8⟩) (by assumption) ?_
        case y8 => (intro w hSw; (try dsimp only at hSw); go_simp <;> with_reducible rfl)
        simp only [Act.put, List.setIfInBounds_toArray, List.set_cons_zero, List.set_cons_succ]
        refine wpAnyH_ready (rs := [5]) (by kernel_rfl) (by simp) (AllReadyH.cons (gA rfl) (fun K hK => ?_) AllReadyH.nil)
        go_simp
        (go_at_call 149; refine (HAB.out _ (HLW.out.bel hbx)).mono ?_; rintro e w3 ⟨G, rfl, hG2, hR, hb3⟩; have hown := hR.own (base := 0) (by omega) (fun y hy => by have := HSB.out y hy; exact .of (by omega) (by omega)) (by have := HSLN.out; have := HN7.out.2; omega); rw [HSLN.out] at hown; obtain ⟨A4, n4, c4, hv4, hs4⟩ := hown.sl intC_good; simp only [Value.slice.injEq] at hv4; obtain ⟨rfl, rfl, rfl⟩ := hv4; have HM4 := Lib.hid (most_any _ _ _ sl w3 (hs4.all intC_good (by omega)) (fun y hy => by have := HSB.out y hy; omega)); rw [← HMX.out] at HM4; replace hbx := hbx.trans (hb3.mono hbx.size); clear hb3 hown hs4 hR)
        go_wp2_with fail
        refine hK.out _ _ ?_ (fun hHeld => ?_)
        · exact HCEL.out _ hbx
        clear hK K
        try simp only [Act.put, List.setIfInBounds_toArray, List.set_cons_zero, List.set_cons_succ]
        refine wpAnyH_ready (rs := [6]) (by kernel_rfl) (by simp) (AllReadyH.cons (gA rfl) (fun K hK => ?_) AllReadyH.nil)
        go_simp
        (go_at_call 148; refine HM4.out.mono ?_; rintro e w4 ⟨rfl, q4, rfl⟩; replace hbx := below_drewN hbx q4)
        go_wp2_with fail
        refine hK.out _ _ ?_ (fun hHeld => ?_)
        · exact HCEL.out _ hbx
        clear hK K
        try simp only [Act.put, List.setIfInBounds_toArray, List.set_cons_zero, List.set_cons_succ]
        refine wpAnyH_take (i := 10) (v := ?v11) (gA rfl) (by kernel_rfl) (by kernel_rfl) (by kernel_rfl) (fun _ _ _ h => h) (Or.inl ⟨rfl, ?y11⟩) (by assumption) ?_
        case y11 => (intro w hSw; (try dsimp only at hSw); go_simp <;> with_reducible rfl)
        simp only [Act.put, List.setIfInBounds_toArray, List.set_cons_zero, List.set_cons_succ]
        refine wpAnyH_done (by kernel_rfl) ?_ _
        go_wp2_with fail
        go_meet
        exact ⟨rfl, hbx⟩
      obtain ⟨rfl, hb1⟩ := hcut
      replace hG := hG.bel hb1
      replace hb := hb.trans (hb1.mono hb.size)
      replace hbo := hbo.trans (hb1.mono hbo.size)
      clear hb1 HCEL HLW HAB s3
      by_cases h8 : x.ship.souls < M
      · obtain rfl : r = 8 := by rw [HR3.out, if_pos h8]
        clear hG
        go_wp2_with fail
        go_ret
        exact ⟨rfl, hbo⟩
      have HR4 := Lib.hid (HR3.out.trans (if_neg h8))
      have h8' : M ≤ x.ship.souls := by omega
      have HCALL := Lib.hid (HOP.out _ (HS.out.bel hbo))
      have s0 : wc.cell? ⟨g, 0, none⟩ = some (.int .i64 x.ship.legs) := hG.cell rfl
      have s1 : wc.cell? ⟨g, 1, none⟩ = some (.int .i64 x.ship.souls) := hG.cell rfl
      have s2 : wc.cell? ⟨g, 2, none⟩ = some (.slice A n cap) := hG.cell rfl
      have s3 : wc.cell? ⟨g, 3, none⟩ = some (.slice B k cap2) := hG.cell rfl
      have s4 : wc.cell? ⟨g, 4, none⟩ = some (.slice D nd cd) := hG.cell rfl
      have s5 : wc.cell? ⟨g, 5, none⟩ = some (.int .i64 x.fares.alone) := hG.cell rfl
      have s6 : wc.cell? ⟨g, 6, none⟩ = some (.int .i64 x.fares.third) := hG.cell rfl
      have s7 : wc.cell? ⟨g, 7, none⟩ = some (.slice E ne ce) := hG.cell rfl
      have s8 : wc.cell? ⟨g, 8, none⟩ = some (.int .i64 x.fares.down) := hG.cell rfl
      have s9 : wc.cell? ⟨g, 9, none⟩ = some (.int .i64 x.day) := hG.cell rfl
      have s10 : wc.cell? ⟨g, 10, none⟩ = some (.int .i64 x.leaves) := hG.cell rfl
      have s11 : wc.cell? ⟨g, 11, none⟩ = some (.slice C nb cb) := hG.cell rfl
      have s12 : wc.cell? ⟨g, 12, none⟩ = some (.bool x.closed) := hG.cell rfl
      have HGG := Lib.hid hG
      clear hG h8
      go_wp2_with fail
      refine HCALL.out.mono ?_
      rintro e w5 ⟨v1, v2, xs1, xs2, rfl, hO1, hO2, hb5⟩
      obtain ⟨A1, n1, c1, rfl, hs1⟩ := hO1.sl intC_good
      obtain ⟨A2, n2, c2, rfl, hs2⟩ := hO2.sl edgC_good
      have hG := HGG.out.bel hb5
      have s3 : w5.cell? ⟨g, 3, none⟩ = some (.slice B k cap2) := hG.cell rfl
      have hn1 : n1 = (idsL x).length := hs1.len.symm
      have hn1' : n1 ≤ 16 := by have := ids_len x; rw [hn1]; have := HL16.out; omega
      have hgr := edgL_ok x
      rw [← hn1, HM.out] at hgr
      have hall := Size_any n1 k A2 n2 c2 (edgL x) w5 (hs2.all edgC_good (by omega)) hn1' (by omega) hgr
      obtain ⟨q, hq⟩ : ∃ q, q = allB n1 (edgL x) := ⟨_, rfl⟩
      have HR5 := Lib.hid (show r = if q = true then 0 else 9 by rw [HR4.out, hq, hn1])
      have HGR := Lib.hid hgr
      clear hgr
      have HQ := Lib.hid hq
      clear hq
      have HALL := Lib.hid hall
      clear hall
      replace hbo := hbo.trans (hb5.mono hbo.size)
      clear hb5 hO1 hO2 hs1 hs2 hn1 s0 s1 s2 s4 s5 s6 s7 s8 s9 s10 s11 s12 hG hb
      go_wp2_with fail
      refine HALL.out.mono ?_
      rintro e w6 ⟨has, no, D, rfl, hA, hb6⟩
      replace hbo := hbo.trans (hb6.mono hbo.size)
      have HQ2 := Lib.hid (show q = decide (no.length = 0) by rw [HQ.out, allB_asked hA HGR.out])
      clear hA
      by_cases h0 : no.length = 0
      · obtain rfl : r = 0 := by rw [HR5.out, HQ2.out, decide_eq_true h0]; rfl
        have h1 : (n1 : Int) - (no.length : Int) = n1 := by omega
        rw [h1]
        clear h1 h0
        go_wp2_with fail
        go_ret
        exact ⟨rfl, hbo⟩
      · obtain rfl : r = 9 := by rw [HR5.out, HQ2.out, decide_eq_false h0]; rfl
        have h1 : (n1 : Int) - (no.length : Int) < n1 := by omega
        obtain ⟨z, hz⟩ : ∃ z, z = (n1 : Int) - (no.length : Int) := ⟨_, rfl⟩
        rw [← hz] at h1
        rw [← hz]
        clear hz h0
        go_wp2_with fail
        go_ret
        exact ⟨rfl, hbo⟩
end Go.Proofs.YtlablioefblmkaaGreat
