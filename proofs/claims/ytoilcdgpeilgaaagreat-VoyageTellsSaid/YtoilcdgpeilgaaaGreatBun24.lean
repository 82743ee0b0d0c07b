/-
  Words, laws and contracts: StockJ, StockU.
-/
import Derived.Test.YtoilcdgpeilgaaaGreatBun17
import Derived.Test.YtoilcdgpeilgaaaGreatBun23
import Derived.BigQuiet
set_option linter.unusedSimpArgs false
set_option linter.unusedVariables false
namespace Go.Proofs.YtoilcdgpeilgaaaGreat
open Go.RowKit Go.Shelf
set_option maxRecDepth 100000 in
set_option maxHeartbeats 16000000 in
theorem RoomOf_any (x : Sai) (p : SaiV) (w : World) (h : SaiR w x p) (ho : OkShp x.ship) (hk : ∀ b ∈ x.bks, OkBk x.ship b) (h16 : x.bks.length ≤ 16) :
    Calls Tryz.prog 109 #[.agg (saiA x p)] w fun e w' => e = .returned (.int .i64 (roomE x)) ∧ Below w.heap.size w w' := by
  have HOP := Lib.hid (fun W h => PromisesOf_any x p W h ho hk h16)
  have HS := Lib.hid h
  obtain ⟨A, n, cap, B, m, cap2, D, nd, cd, E, ne, ce, C, nb, cb⟩ := p
  have hl : Sl bkgC 11 w All C nb cb x.bks := h.bks
  have hd : Sl cabC 4 w All B m cap2 x.ship.cabs := h.cabs
  have hnb : nb ≤ 16 := by rw [← hl.len]; exact h16
  have hm12 : m ≤ 12 := by rw [← hd.len]; exact ho.cabs12
  have HTK := Lib.hid (fun (c : Int) W hW => SpansOf_any C nb cb x.bks c W hW (spOk_of ho hk))
  obtain ⟨r, hr⟩ : ∃ r, r = roomE x := ⟨_, rfl⟩
  rw [← hr]
  have HR := Lib.hid (show r = if (List.range m).any (fun c => !takB x.bks (c : Int)) = true then 6 else if x.ship.souls < mx (soulL x.bks x.ship.legs.toNat) then 8 else if allB (idsL x).length (edgL x) = true then 0 else 9 by rw [hr, ← hd.len]; rfl)
  have HN := Lib.hid hl.len
  have HM := Lib.hid hd.len
  have HL := Lib.hid hl
  have HOK := Lib.hid ho
  have HK := Lib.hid hk
  clear hk
  have HL16 := Lib.hid h16
  clear h16
  clear h hl hd hr ho
  go_enter Tryz.func109, Tryz.ntmps109
  go_upto_region 0 with (fail)
  go_cut [1, 2] (fun q _ wx => ∃ g, q = .pointer (some ⟨g, 0, none⟩) ∧ Blk wx g (saiA x ⟨A, n, cap, B, m, cap2, D, nd, cd, E, ne, ce, C, nb, cb⟩) 32 ∧ Below w.heap.size w wx)
  case first => as_aux_lemma =>
    go_wp2_with fail
    go_meet
    exact ⟨_, rfl, blk1 _ _, bel1 _ _⟩
  obtain ⟨g, rfl, hG, hbw⟩ := hcut
  obtain ⟨W0, hW0⟩ : ∃ W, W = wc := ⟨_, rfl⟩
  subst hW0
  have HG := Lib.hid hG
  clear hG
  have HBW := Lib.hid hbw
  clear hbw
  go_wp2_with fail
  go_loopg [3] m (fun gk i wr => ∃ k : Nat, k ≤ m ∧ m - k ≤ gk ∧ i = .int .i64 k ∧ Aside (∀ j, j < k → takB x.bks (j : Int) = true) ∧ Below W0.heap.size W0 wr)
  case atStart => exact ⟨0, Nat.zero_le _, by omega, rfl, fun j hj => absurd hj (Nat.not_lt_zero _), Below.refl _ _⟩
  case round =>
    obtain ⟨k, hk, hgk, rfl, HE, hb⟩ := hrel
    have hG := HG.out.bel hb
    have hbo := HBW.out.trans (hb.mono HBW.out.size)
    have s3 : wr.cell? ⟨g, 3, none⟩ = some (.slice B m cap2) := hG.cell rfl
    by_cases hlt : k < m
    · have s11 : wr.cell? ⟨g, 11, none⟩ = some (.slice C nb cb) := hG.cell rfl
      have hcall := HTK.out (k : Int) wr (HL.out.bel hbo)
      obtain ⟨q, hq⟩ : ∃ q, q = takB x.bks (k : Int) := ⟨_, rfl⟩
      rw [← hq] at hcall
      have HCALL := Lib.hid hcall
      clear hcall
      have HQ := Lib.hid hq
      clear hq
      clear hG
      go_wp2_with fail
      refine HCALL.out.mono ?_
      rintro e w2 ⟨v, xs, rfl, hO, hb2⟩
      obtain ⟨A1, n1, c1, rfl, _⟩ := hO.sl spanC_good
      replace hb := hb.trans (hb2.mono hb.size)
      replace hbo := hbo.trans (hb2.mono hbo.size)
      clear hO hb2 s11 s3
      cases q
      · obtain rfl : r = 6 := by rw [HR.out, if_pos (any_range hlt (by show (!takB x.bks (k : Int)) = true; rw [← HQ.out]; rfl))]
        go_wp2_with fail
        go_ret
        exact ⟨rfl, hbo⟩
      · skip
        go_wp2_with fail
        go_roundg (m - (k + 1))
        case measure => omega
        case rel => exact ⟨k + 1, by omega, by omega, by go_num, fun j hj => by
          by_cases e : j = k
          · subst e; exact HQ.out.symm
          · exact HE j (by omega), hb⟩
    · obtain rfl : k = m := by omega
      have HR2 := Lib.hid (HR.out.trans (if_neg (by
        rw [any_range_no (fun i hi => by show (!takB x.bks (i : Int)) = false; rw [HE i hi]; rfl)]; simp)))
      have hlg := shp_legs HOK.out
      obtain ⟨N, hNl⟩ : ∃ N : Nat, x.ship.legs = N := ⟨x.ship.legs.toNat, by omega⟩
      have hNt : x.ship.legs.toNat = N := by omega
      have HAB := Lib.hid (fun W hW => SoulsOf_any N C nb cb x.bks W hW (by rw [← hNt]; exact abOk_of HOK.out HK.out) (by omega) (by omega))
      obtain ⟨sl, hsl⟩ : ∃ q, q = soulL x.bks N := ⟨_, rfl⟩
      rw [← hsl, ← hNl] at HAB
      have HSLN := Lib.hid (show sl.length = N by rw [hsl]; exact soulL_len _ _)
      have HSB := Lib.hid (show ∀ y ∈ sl, 0 ≤ y ∧ y ≤ 4 * nb from fun y hy => by
        rw [hsl] at hy
        obtain ⟨i, hi⟩ := List.getElem?_of_mem hy
        have hlt : i < N := by have := (List.getElem?_eq_some_iff.1 hi).1; rwa [soulL_len] at this
        rw [soulL_get _ _ _ hlt] at hi
        injection hi with hi
        have := soulK_bd (l := x.bks) (fun b hb => (HK.out b hb).gst) i
        have := HN.out
        omega)
      have HN7 := Lib.hid (show 0 < N ∧ N ≤ 7 from by omega)
      obtain ⟨M, hM⟩ : ∃ M, M = mst sl := ⟨_, rfl⟩
      have hso := betB_iff.1 HOK.out.souls
      have hmx : (x.ship.souls < mx sl) = (x.ship.souls < M) := by
        rw [hM]; unfold mst
        exact propext ⟨fun h => by omega, fun h => by omega⟩
      have HR3 := Lib.hid (show r = if x.ship.souls < M then 8 else if allB (idsL x).length (edgL x) = true then 0 else 9 by
        rw [HR2.out, hNt, ← hsl]; simp only [hmx])
      have HMX := Lib.hid hM
      clear hM
      have HCEL := Lib.hid (show ∀ X, Below wr.heap.size wr X → (fun w' => w'.cell? ⟨g, 0, none⟩ = some (.int .i64 x.ship.legs) ∧ w'.cell? ⟨g, 1, none⟩ = some (.int .i64 x.ship.souls) ∧ w'.cell? ⟨g, 11, none⟩ = some (.slice C nb cb)) X from fun X hX => ⟨(hG.bel hX).cell rfl, (hG.bel hX).cell rfl, (hG.bel hX).cell rfl⟩)
      have HLW := Lib.hid (HL.out.bel hbo)
      clear hlg hNl hNt hsl HE HR2 HR hmx hso
      go_upto_region 7 with (fail)
      go_cut [35] (fun t wx => t = .bool (decide (x.ship.souls < M)) ∧ Below wr.heap.size wr wx)
      case first => as_aux_lemma =>
        have hbx : Below wr.heap.size wr wr.drew := (Below.refl _ wr).drew
        clear hG hb hbo s3
        refine wp_region_held_drew (S := (fun w' => w'.cell? ⟨g, 0, none⟩ = some (.int .i64 x.ship.legs) ∧ w'.cell? ⟨g, 1, none⟩ = some (.int .i64 x.ship.souls) ∧ w'.cell? ⟨g, 11, none⟩ = some (.slice C nb cb))) (by kernel_rfl) (HCEL.out _ hbx) (fun hHeld => ?_)
        refine wpAnyH_take (i := 0) (v := ?v1) (gA rfl) (by kernel_rfl) (by kernel_rfl) (by kernel_rfl) (fun _ _ _ h => h) (Or.inl ⟨rfl, ?y1⟩) (by assumption) ?_
        case y1 => (intro w hSw; (try dsimp only at hSw); go_simp <;> with_reducible rfl)
        simp only [Act.put, List.setIfInBounds_toArray, List.set_cons_zero, List.set_cons_succ]
        refine wpAnyH_take (i := 1) (v := ?v2) (gA rfl) (by kernel_rfl) (by kernel_rfl) (by kernel_rfl) (fun _ _ _ h => h) (Or.inl ⟨rfl, ?y2⟩) (by assumption) ?_
        case y2 => (intro w hSw; (try dsimp only at hSw); go_simp <;> with_reducible rfl)
        simp only [Act.put, List.setIfInBounds_toArray, List.set_cons_zero, List.set_cons_succ]
        refine wpAnyH_take (i := 2) (v := ?v3) (gA rfl) (by kernel_rfl) (by kernel_rfl) (by kernel_rfl) (fun _ _ _ h => h) (Or.inl ⟨rfl, ?y3⟩) (by assumption) ?_
        case y3 => (intro w hSw; (try dsimp only at hSw); go_simp <;> with_reducible rfl)
        simp only [Act.put, List.setIfInBounds_toArray, List.set_cons_zero, List.set_cons_succ]
        refine wpAnyH_take (i := 3) (v := ?v4) (gA rfl) (by kernel_rfl) (by kernel_rfl) (by kernel_rfl) (fun _ _ _ h => h) (Or.inl ⟨rfl, ?y4⟩) (by assumption) ?_
        case y4 => (intro w hSw; (try dsimp only at hSw); go_simp <;> with_reducible rfl)
        simp only [Act.put, List.setIfInBounds_toArray, List.set_cons_zero, List.set_cons_succ]
        refine wpAnyH_take (i := 4) (v := ?v5) (gA rfl) (by kernel_rfl) (by kernel_rfl) (by kernel_rfl) (fun _ _ _ h => h) (Or.inl ⟨rfl, ?y5⟩) (by assumption) ?_
        case y5 => (intro w hSw; (try dsimp only at hSw); go_simp <;> with_reducible rfl)
        simp only [Act.put, List.setIfInBounds_toArray, List.set_cons_zero, List.set_cons_succ]
        refine wpAnyH_take (i := 7) (v := ?v6) (gA rfl) (by kernel_rfl) (by kernel_rfl) (by kernel_rfl) (fun _ _ _ h => h) (Or.inl ⟨rfl, ?y6⟩) (by assumption) ?_
        case y6 => (intro w hSw; (try dsimp only at hSw); go_simp <;> with_reducible rfl)
        simp only [Act.put, List.setIfInBounds_toArray, List.set_cons_zero, List.set_cons_succ]
        refine wpAnyH_take (i := 8) (v := ?v7) (gA rfl) (by kernel_rfl) (by kernel_rfl) (by kernel_rfl) (fun _ _ _ h => h) (Or.inl ⟨rfl, ?y7⟩) (by assumption) ?_
        case y7 => (intro w hSw; (try dsimp only at hSw); go_simp <;> with_reducible rfl)
        simp only [Act.put, List.setIfInBounds_toArray, List.set_cons_zero, List.set_cons_succ]
        refine wpAnyH_take (i := 9) (v := ?v8) (gA rfl) (by kernel_rfl) (by kernel_rfl) (by kernel_rfl) (fun _ _ _ h => h) (Or.inl ⟨rfl, ?y8⟩) (by assumption) ?_
        case y8 => (intro w hSw; (try dsimp only at hSw); go_simp <;> with_reducible rfl)
        simp only [Act.put, List.setIfInBounds_toArray, List.set_cons_zero, List.set_cons_succ]
        refine wpAnyH_ready (rs := [5]) (by kernel_rfl) (by simp) (AllReadyH.cons (gA rfl) (fun K hK => ?_) AllReadyH.nil)
        go_simp
        (go_at_call 191; refine (HAB.out _ (HLW.out.bel hbx)).mono ?_; rintro e w3 ⟨G, rfl, hG2, hR, hb3⟩; have hown := hR.own (base := 0) (by omega) (fun y hy => by have := HSB.out y hy; exact .of (by omega) (by omega)) (by have := HSLN.out; have := HN7.out.2; omega); rw [HSLN.out] at hown; obtain ⟨A4, n4, c4, hv4, hs4⟩ := hown.sl intC_good; simp only [Value.slice.injEq] at hv4; obtain ⟨rfl, rfl, rfl⟩ := hv4; have HM4 := Lib.hid (most_any _ _ _ sl w3 (hs4.all intC_good (by omega)) (fun y hy => by have := HSB.out y hy; omega)); rw [← HMX.out] at HM4; replace hbx := hbx.trans (hb3.mono hbx.size); clear hb3 hown hs4 hR)
        go_wp2_with fail
        refine hK.out _ _ ?_ (fun hHeld => ?_)
        · exact HCEL.out _ hbx
        clear hK K
        try simp only [Act.put, List.setIfInBounds_toArray, List.set_cons_zero, List.set_cons_succ]
        refine wpAnyH_ready (rs := [6]) (by kernel_rfl) (by simp) (AllReadyH.cons (gA rfl) (fun K hK => ?_) AllReadyH.nil)
        go_simp
        (go_at_call 190; refine HM4.out.mono ?_; rintro e w4 ⟨rfl, q4, rfl⟩; replace hbx := below_drewN hbx q4)
        go_wp2_with fail
        refine hK.out _ _ ?_ (fun hHeld => ?_)
        · exact HCEL.out _ hbx
        clear hK K
        try simp only [Act.put, List.setIfInBounds_toArray, List.set_cons_zero, List.set_cons_succ]
        refine wpAnyH_take (i := 10) (v := ?v11) (gA rfl) (by kernel_rfl) (by kernel_rfl) (by kernel_rfl) (fun _ _ _ h => h) (Or.inl ⟨rfl, ?y11⟩) (by assumption) ?_
        case y11 => (intro w hSw; (try dsimp only at hSw); go_simp <;> with_reducible rfl)
        simp only [Act.put, List.setIfInBounds_toArray, List.set_cons_zero, List.set_cons_succ]
        refine wpAnyH_done (by kernel_rfl) ?_ _
        go_wp2_with fail
        go_meet
        exact ⟨rfl, hbx⟩
      obtain ⟨rfl, hb1⟩ := hcut
      replace hG := hG.bel hb1
      replace hb := hb.trans (hb1.mono hb.size)
      replace hbo := hbo.trans (hb1.mono hbo.size)
      clear hb1 HCEL HLW HAB s3
      by_cases h8 : x.ship.souls < M
      · obtain rfl : r = 8 := by rw [HR3.out, if_pos h8]
        clear hG
        go_wp2_with fail
        go_ret
        exact ⟨rfl, hbo⟩
      have HR4 := Lib.hid (HR3.out.trans (if_neg h8))
      have h8' : M ≤ x.ship.souls := by omega
      have HCALL := Lib.hid (HOP.out _ (HS.out.bel hbo))
      have s0 : wc.cell? ⟨g, 0, none⟩ = some (.int .i64 x.ship.legs) := hG.cell rfl
      have s1 : wc.cell? ⟨g, 1, none⟩ = some (.int .i64 x.ship.souls) := hG.cell rfl
      have s2 : wc.cell? ⟨g, 2, none⟩ = some (.slice A n cap) := hG.cell rfl
      have s3 : wc.cell? ⟨g, 3, none⟩ = some (.slice B k cap2) := hG.cell rfl
      have s4 : wc.cell? ⟨g, 4, none⟩ = some (.slice D nd cd) := hG.cell rfl
      have s5 : wc.cell? ⟨g, 5, none⟩ = some (.int .i64 x.fares.alone) := hG.cell rfl
      have s6 : wc.cell? ⟨g, 6, none⟩ = some (.int .i64 x.fares.third) := hG.cell rfl
      have s7 : wc.cell? ⟨g, 7, none⟩ = some (.slice E ne ce) := hG.cell rfl
      have s8 : wc.cell? ⟨g, 8, none⟩ = some (.int .i64 x.fares.down) := hG.cell rfl
      have s9 : wc.cell? ⟨g, 9, none⟩ = some (.int .i64 x.day) := hG.cell rfl
      have s10 : wc.cell? ⟨g, 10, none⟩ = some (.int .i64 x.leaves) := hG.cell rfl
      have s11 : wc.cell? ⟨g, 11, none⟩ = some (.slice C nb cb) := hG.cell rfl
      have s12 : wc.cell? ⟨g, 12, none⟩ = some (.bool x.closed) := hG.cell rfl
      have HGG := Lib.hid hG
      clear hG h8
      go_wp2_with fail
      refine HCALL.out.mono ?_
      rintro e w5 ⟨v1, v2, xs1, xs2, rfl, hO1, hO2, hb5⟩
      obtain ⟨A1, n1, c1, rfl, hs1⟩ := hO1.sl intC_good
      obtain ⟨A2, n2, c2, rfl, hs2⟩ := hO2.sl edgC_good
      have hG := HGG.out.bel hb5
      have s3 : w5.cell? ⟨g, 3, none⟩ = some (.slice B k cap2) := hG.cell rfl
      have hn1 : n1 = (idsL x).length := hs1.len.symm
      have hn1' : n1 ≤ 16 := by have := ids_len x; rw [hn1]; have := HL16.out; omega
      have hgr := edgL_ok x
      rw [← hn1, HM.out] at hgr
      have hall := Size_any n1 k A2 n2 c2 (edgL x) w5 (hs2.all edgC_good (by omega)) hn1' (by omega) hgr
      obtain ⟨q, hq⟩ : ∃ q, q = allB n1 (edgL x) := ⟨_, rfl⟩
      have HR5 := Lib.hid (show r = if q = true then 0 else 9 by rw [HR4.out, hq, hn1])
      have HGR := Lib.hid hgr
      clear hgr
      have HQ := Lib.hid hq
      clear hq
      have HALL := Lib.hid hall
      clear hall
      replace hbo := hbo.trans (hb5.mono hbo.size)
      clear hb5 hO1 hO2 hs1 hs2 hn1 s0 s1 s2 s4 s5 s6 s7 s8 s9 s10 s11 s12 hG hb
      go_wp2_with fail
      refine HALL.out.mono ?_
      rintro e w6 ⟨has, no, D, rfl, hA, hb6⟩
      replace hbo := hbo.trans (hb6.mono hbo.size)
      have HQ2 := Lib.hid (show q = decide (no.length = 0) by rw [HQ.out, allB_asked hA HGR.out])
      clear hA
      by_cases h0 : no.length = 0
      · obtain rfl : r = 0 := by rw [HR5.out, HQ2.out, decide_eq_true h0]; rfl
        have h1 : (n1 : Int) - (no.length : Int) = n1 := by omega
        rw [h1]
        clear h1 h0
        go_wp2_with fail
        go_ret
        exact ⟨rfl, hbo⟩
      · obtain rfl : r = 9 := by rw [HR5.out, HQ2.out, decide_eq_false h0]; rfl
        have h1 : (n1 : Int) - (no.length : Int) < n1 := by omega
        obtain ⟨z, hz⟩ : ∃ z, z = (n1 : Int) - (no.length : Int) := ⟨_, rfl⟩
        rw [← hz] at h1
        rw [← hz]
        clear hz h0
        go_wp2_with fail
        go_ret
        exact ⟨rfl, hbo⟩
end Go.Proofs.YtoilcdgpeilgaaaGreat
namespace Go.Proofs.YtoilcdgpeilgaaaGreat
open Go.RowKit Go.Shelf
set_option maxRecDepth 100000 in
theorem edg_ne (x y : Edg) (W : World) : (binOp .neq 115 (.agg #[.int .i64 x.lft, .int .i64 x.rgt]) (.agg #[.int .i64 y.lft, .int .i64 y.rgt])).run Tryz.prog W = .ok (.bool (decide (x ≠ y))) W := by
  obtain ⟨a, b⟩ := x
  obtain ⟨c, d⟩ := y
  simp only [Edg.mk.injEq, ne_eq]
  go_simp
  repeat' split
  all_goals simp_all
set_option maxHeartbeats 1000000 in
theorem SameEdges_any (A B : Option Addr) (n cap m cap2 : Nat) (l l2 : List Edg) (w : World) (h : Sl edgC 2 w All A n cap l) (h2 : Sl edgC 2 w All B m cap2 l2) :
    Calls Tryz.prog 50 #[.slice A n cap, .slice B m cap2] w fun e w' => e = .returned (.bool (decide (l = l2))) ∧ ∃ q, w' = w.drewN q := by
  have hbd := h.bd
  have hlen := Lib.hid h.len
  have hlen2 := Lib.hid h2.len
  by_cases hnm : n = m
  · subst hnm
    go_enter Tryz.func50, Tryz.ntmps50
    go_wp2_with fail
    go_loopg [5] n (fun gk i wr => ∃ k q : Nat, k ≤ n ∧ n - k ≤ gk ∧ i = .int .i64 k ∧ Aside (∀ j, j < k → l[j]? = l2[j]?) ∧ wr = w.drewN q)
    case atStart => exact ⟨0, 0, Nat.zero_le _, by omega, rfl, fun j hj => absurd hj (by omega), rfl⟩
    case round =>
      obtain ⟨k, q, hk, hgk, rfl, HE, rfl⟩ := hrel
      by_cases hlt : k < n
      · obtain ⟨b, off, x, c0, c1, rfl, hx, hc, g0, g1⟩ := h.at2 hlt
        obtain ⟨hc, hw⟩ := hc
        simp only [List.cons.injEq, and_true] at hc
        obtain ⟨rfl, rfl⟩ := hc
        obtain ⟨b', off', y, d0, d1, rfl, hy, hd, e0, e1⟩ := h2.at2 hlt
        obtain ⟨hd, hw'⟩ := hd
        simp only [List.cons.injEq, and_true] at hd
        obtain ⟨rfl, rfl⟩ := hd
        have HX := Lib.hid hx
        have HY := Lib.hid hy
        clear hx hy
        have hqn := fun W => edg_ne x y W
        by_cases hxy : x = y
        · have he : (decide (x ≠ y)) = false := by subst hxy; simp
          have HXY := Lib.hid hxy
          clear hxy
          go_wp2_with fail
          go_quiet (fail)
          go_wp2_with fail
          go_roundg (n - (k + 1))
          case measure => omega
          case rel =>
            refine ⟨k + 1, _, by omega, by omega, by go_num, (show Aside _ from fun j hj => ?_), rfl⟩
            by_cases e : j = k
            · subst e; rw [HX.out, HY.out, HXY.out]
            · exact HE.out j (by omega)
        · have he : (decide (x ≠ y)) = true := by simpa using hxy
          have HXY := Lib.hid hxy
          clear hxy
          go_wp2_with fail
          go_quiet (fail)
          go_wp2_with fail
          go_ret
          refine ⟨retB ?_, _, World.drewN_drewN _ _ _⟩
          symm
          rw [decide_eq_false_iff_not]
          intro hll
          subst hll
          rw [HX.out] at HY
          exact HXY.out (by have := HY.out; injection this)
      · obtain rfl : k = n := by omega
        have hll : l = l2 := by
          apply List.ext_getElem?
          intro j
          by_cases hj : j < k
          · exact HE.out j hj
          · rw [List.getElem?_eq_none (by rw [hlen.out]; omega), List.getElem?_eq_none (by rw [hlen2.out]; omega)]
        have HLL := Lib.hid hll
        clear hll
        go_wp2_with fail
        go_ret
        exact ⟨retB (by rw [decide_eq_true HLL.out]), _, rfl⟩
  · have hnm' : ((n : Int) != (m : Int)) = true := by simp; omega
    have hll : ¬ l = l2 := fun e => hnm (by rw [← hlen.out, ← hlen2.out, e])
    have HLL := Lib.hid hll
    clear hll hnm
    go_enter Tryz.func50, Tryz.ntmps50
    go_wp2_with fail
    go_ret
    exact ⟨retB (by rw [decide_eq_false HLL.out]), 0, rfl⟩
set_option maxRecDepth 100000 in
set_option maxHeartbeats 2000000 in
theorem vesselS_any (w : World) : Calls Tryz.prog 128 #[] w fun e w' => ∃ A n cap B m cap2, e = .returned (.agg #[.int .i64 vesselX.legs, .int .i64 vesselX.souls, .slice A n cap, .slice B m cap2]) ∧ Sl catC 2 w' (fun b => w.heap.size ≤ b) A n cap vesselX.cats ∧ Sl cabC 4 w' (fun b => w.heap.size ≤ b) B m cap2 vesselX.cabs ∧ Below w.heap.size w w' := by
  go_enter Tryz.func128, Tryz.ntmps128
  go_wp2_with fail
  refine bodyPost_ret (v := .agg #[.int .i64 3, .int .i64 6, .slice (some ⟨w.heap.size + 1 + 1 + 1, 0, none⟩) 3 3, .slice (some ⟨w.heap.size + 1 + 1 + 1 + 1, 0, none⟩) 3 3]) (by simp [results, Tryz.results128, go_sem]) rfl ?_
  refine ⟨_, _, _, _, _, _, rfl, ?_, ?_, ?_⟩
  · refine Sl.ofBlk (l := vesselX.cats) (((Blk.new3 w _ _ _ _ _).old _)) (by decide) (by first | (show _ ≤ _; omega) | (show _ ≤ _; simp; omega)) fun i x hx => ?_
    rcases i with _ | _ | _ | i
    · obtain rfl : (⟨[73, 78], [1]⟩ : Cat) = x := by simpa [vesselX] using hx
      exact ⟨[strV [73, 78], .slice (some ⟨w.heap.size + 1, 0, none⟩) 1 1], ⟨_, _, _, rfl, Sl.ofInts [1] ((((Blk.new1 w _ _ _).old _).old _).old _) (by decide) (by first | (show _ ≤ _; omega) | (show _ ≤ _; simp; omega)) (by decide), mlen (by decide)⟩, rfl, fun j u hu => by rcases j with _ | _ | j <;> simp_all⟩
    · obtain rfl : (⟨[79, 85, 84], [2]⟩ : Cat) = x := by simpa [vesselX] using hx
      exact ⟨[strV [79, 85, 84], .slice (some ⟨w.heap.size + 1 + 1, 0, none⟩) 1 1], ⟨_, _, _, rfl, Sl.ofInts [2] (((Blk.new2 w _ _ _ _).old _).old _) (by decide) (by first | (show _ ≤ _; omega) | (show _ ≤ _; simp; omega)) (by decide), mlen (by decide)⟩, rfl, fun j u hu => by rcases j with _ | _ | j <;> simp_all⟩
    · obtain rfl : (⟨[83, 85, 73, 84, 69], []⟩ : Cat) = x := by simpa [vesselX] using hx
      exact ⟨[strV [83, 85, 73, 84, 69], .slice none 0 0], ⟨_, _, _, rfl, Sl.nil _ _ _ _, mlen (by decide)⟩, rfl, fun j u hu => by rcases j with _ | _ | j <;> simp_all⟩
    · simp [vesselX] at hx
  · refine Sl.ofBlk (l := vesselX.cabs) (Blk.new4 w _ _ _ _ _ _) (by decide) (by first | (show _ ≤ _; omega) | (show _ ≤ _; simp; omega)) fun i x hx => ?_
    rcases i with _ | _ | _ | i
    · obtain rfl : (⟨[65, 49], 0, 2, false⟩ : Cab) = x := by simpa [vesselX] using hx
      exact ⟨[strV [65, 49], .int .i64 0, .int .i64 2, .bool false], ⟨rfl, mlen (by decide), .of (by decide) (by decide), .of (by decide) (by decide)⟩, rfl, fun j u hu => by rcases j with _ | _ | _ | _ | j <;> simp_all⟩
    · obtain rfl : (⟨[66, 49], 1, 4, true⟩ : Cab) = x := by simpa [vesselX] using hx
      exact ⟨[strV [66, 49], .int .i64 1, .int .i64 4, .bool true], ⟨rfl, mlen (by decide), .of (by decide) (by decide), .of (by decide) (by decide)⟩, rfl, fun j u hu => by rcases j with _ | _ | _ | _ | j <;> simp_all⟩
    · obtain rfl : (⟨[67, 49], 2, 2, false⟩ : Cab) = x := by simpa [vesselX] using hx
      exact ⟨[strV [67, 49], .int .i64 2, .int .i64 2, .bool false], ⟨rfl, mlen (by decide), .of (by decide) (by decide), .of (by decide) (by decide)⟩, rfl, fun j u hu => by rcases j with _ | _ | _ | _ | j <;> simp_all⟩
    · simp [vesselX] at hx
  · exact ((bel3 w _ _ _).alloc (by simp; omega) _).alloc (by simp; omega) _
set_option maxRecDepth 100000 in
set_option maxHeartbeats 2000000 in
theorem tableS_any (w : World) : Calls Tryz.prog 140 #[] w fun e w' => ∃ A n cap B m cap2, e = .returned (.agg #[.slice A n cap, .int .i64 50, .int .i64 33, .slice B m cap2, .int .i64 20]) ∧ Sl (slC intC 1) 1 w' (fun b => w.heap.size ≤ b) A n cap tableX.leg ∧ Sl bandC 2 w' (fun b => w.heap.size ≤ b) B m cap2 tableX.bands ∧ Below w.heap.size w w' := by
  go_enter Tryz.func140, Tryz.ntmps140
  go_wp2_with fail
  refine bodyPost_ret (v := .agg #[.slice (some ⟨w.heap.size + 1 + 1 + 1 + 1, 0, none⟩) 3 3, .int .i64 50, .int .i64 33, .slice (some ⟨w.heap.size + 1 + 1 + 1 + 1 + 1, 0, none⟩) 2 2, .int .i64 20]) (by simp [results, Tryz.results140, go_sem]) rfl ?_
  refine ⟨_, _, _, _, _, _, rfl, ?_, ?_, ?_⟩
  · refine Sl.ofBlk (l := tableX.leg) (((Blk.new4 w _ _ _ _ _ _).old _)) (by decide) (by first | (show _ ≤ _; omega) | (show _ ≤ _; simp; omega)) fun i x hx => ?_
    rcases i with _ | _ | _ | i
    · obtain rfl : [100, 200, 301] = x := by simpa [tableX] using hx
      exact ⟨[.slice (some ⟨w.heap.size + 1, 0, none⟩) 3 3], ⟨_, _, _, rfl, Sl.ofInts [100, 200, 301] (((((Blk.new1 w _ _ _).old _).old _).old _).old _) (by decide) (by first | (show _ ≤ _; omega) | (show _ ≤ _; simp; omega)) (by decide)⟩, rfl, fun j u hu => by rcases j with _ | j <;> simp_all⟩
    · obtain rfl : [150, 250, 350] = x := by simpa [tableX] using hx
      exact ⟨[.slice (some ⟨w.heap.size + 1 + 1, 0, none⟩) 3 3], ⟨_, _, _, rfl, Sl.ofInts [150, 250, 350] ((((Blk.new2 w _ _ _ _).old _).old _).old _) (by decide) (by first | (show _ ≤ _; omega) | (show _ ≤ _; simp; omega)) (by decide)⟩, rfl, fun j u hu => by rcases j with _ | j <;> simp_all⟩
    · obtain rfl : [500, 500, 500] = x := by simpa [tableX] using hx
      exact ⟨[.slice (some ⟨w.heap.size + 1 + 1 + 1, 0, none⟩) 3 3], ⟨_, _, _, rfl, Sl.ofInts [500, 500, 500] (((Blk.new3 w _ _ _ _ _).old _).old _) (by decide) (by first | (show _ ≤ _; omega) | (show _ ≤ _; simp; omega)) (by decide)⟩, rfl, fun j u hu => by rcases j with _ | j <;> simp_all⟩
    · simp [tableX] at hx
  · refine Sl.ofBlk (l := tableX.bands) (Blk.new5 w _ _ _ _ _ _ _) (by decide) (by first | (show _ ≤ _; omega) | (show _ ≤ _; simp; omega)) fun i x hx => ?_
    rcases i with _ | _ | i
    · simp [tableX] at hx; subst hx
      exact ⟨_, ⟨rfl, .of (by decide) (by decide), .of (by decide) (by decide)⟩, rfl, fun j u hu => by rcases j with _ | _ | j <;> simp_all⟩
    · simp [tableX] at hx; subst hx
      exact ⟨_, ⟨rfl, .of (by decide) (by decide), .of (by decide) (by decide)⟩, rfl, fun j u hu => by rcases j with _ | _ | j <;> simp_all⟩
    · simp [tableX] at hx
  · exact ((bel3 w _ _ _).alloc (by simp; omega) _ |>.alloc (by simp; omega) _).alloc (by simp; omega) _
theorem Blk.neTy {w : World} {a z : Nat} {xs ys : Array Value} {t u : TypeId} (h : Blk w a xs t) (h2 : Blk w z ys u) (hne : t ≠ u) : a ≠ z := fun e => by
  subst e
  have h : w.heap[a]? = some (.cells xs t (0, 0)) := h
  have h2 : w.heap[a]? = some (.cells ys u (0, 0)) := h2
  rw [h] at h2
  simp only [Option.some.injEq, Obj.cells.injEq] at h2
  exact hne h2.2.1
theorem newOf {n : Nat} {a w : World} (_ : Below n a w) (cs : Array Value) (t : TypeId) : Blk (w.alloc (.cells cs t)) w.heap.size cs t := Blk.new w cs t
def namedF : Bkg := { namedX with fol := [⟨1, 1, 1200⟩] }
def promisedF : Bkg := { promisedX with fol := [⟨1, 1, 1202⟩] }
def cruiseX : Sai := ⟨vesselX, tableX, 2, 40, [namedF, promisedF], false⟩
theorem sl_entryU {w : World} {e : Nat} {a b c : Int} (h : Blk w e #[.int .i64 a, .int .i64 b, .int .i64 c] 57) (ha : InI a) (hb : InI b) (hc : InI c) : Sl entryC 3 w All (some ⟨e, 0, none⟩) 1 1 [⟨a, b, c⟩] := by
  refine Sl.ofBlk (l := ([⟨a, b, c⟩] : List Entry)) h (by simp) trivial fun i x hx => ?_
  rcases i with _ | i
  · obtain rfl : (⟨a, b, c⟩ : Entry) = x := by simpa using hx
    exact ⟨[.int .i64 a, .int .i64 b, .int .i64 c], ⟨rfl, ha, hb, hc⟩, rfl, fun j u hu => by rcases j with _ | _ | _ | j <;> simp_all⟩
  · simp at hx
theorem bk_inF {b : Bkg} {f : List Entry} (h : BkIn b) : BkIn { b with fol := f } := ⟨h.id, h.kind, h.state, h.gst, h.cab, h.cat, h.frm, h.upto, h.til⟩
theorem keptRow {n : Nat} {a w : World} (_ : Below n a w) (z : Nat) (us : Array Value) : Kept (fun k => k = z) w (w.setRow z us) := (Kept.refl (fun k => k = z) w).setRow (.inl rfl) us
theorem sl_cruise {w : World} {q e1 e2 : Nat} (hL : Blk w q #[.int .i64 7, .int .i64 1, .int .i64 2, .int .i64 3, .bool false, .int .i64 1, .int .i64 0, .int .i64 1, .int .i64 3, .int .i64 0, .slice (some ⟨e1, 0, none⟩) 1 1, .int .i64 9, .int .i64 2, .int .i64 1, .int .i64 2, .bool false, .int .i64 (-1), .int .i64 0, .int .i64 0, .int .i64 3, .int .i64 4, .slice (some ⟨e2, 0, none⟩) 1 1] 37) (h1 : Blk w e1 #[.int .i64 1, .int .i64 1, .int .i64 1200] 57) (h2 : Blk w e2 #[.int .i64 1, .int .i64 1, .int .i64 1202] 57) : Sl bkgC 11 w All (some ⟨q, 0, none⟩) 2 2 [namedF, promisedF] := by
  refine Sl.ofBlk (l := [namedF, promisedF]) hL (by decide) trivial fun i x hx => ?_
  rcases i with _ | _ | i
  · obtain rfl : namedF = x := by simpa using hx
    exact ⟨[.int .i64 7, .int .i64 1, .int .i64 2, .int .i64 3, .bool false, .int .i64 1, .int .i64 0, .int .i64 1, .int .i64 3, .int .i64 0, .slice (some ⟨e1, 0, none⟩) 1 1], ⟨_, _, _, rfl, sl_entryU h1 (.of (by decide) (by decide)) (.of (by decide) (by decide)) (.of (by decide) (by decide)), bk_inF (bookX_in namedX (by simp [bookX])).1⟩, rfl, fun j u hu => by rcases j with _ | _ | _ | _ | _ | _ | _ | _ | _ | _ | _ | j <;> simp_all⟩
  · obtain rfl : promisedF = x := by simpa using hx
    exact ⟨[.int .i64 9, .int .i64 2, .int .i64 1, .int .i64 2, .bool false, .int .i64 (-1), .int .i64 0, .int .i64 0, .int .i64 3, .int .i64 4, .slice (some ⟨e2, 0, none⟩) 1 1], ⟨_, _, _, rfl, sl_entryU h2 (.of (by decide) (by decide)) (.of (by decide) (by decide)) (.of (by decide) (by decide)), bk_inF (bookX_in promisedX (by simp [bookX])).1⟩, rfl, fun j u hu => by rcases j with _ | _ | _ | _ | _ | _ | _ | _ | _ | _ | _ | j <;> simp_all⟩
  · simp at hx
theorem cruise_end {w W4 w6 : World} {A : Option Addr} {n cap : Nat} {B : Option Addr} {m cap2 : Nat} {D : Option Addr} {nd cd : Nat} {E : Option Addr} {ne ce z q e1 e2 : Nat} {zs : Array Value} (hz : w.heap.size ≤ z) (hb : Below w.heap.size w W4) (hbx : Below W4.heap.size W4 w6)
    (hL : Blk w6 q #[.int .i64 7, .int .i64 1, .int .i64 2, .int .i64 3, .bool false, .int .i64 1, .int .i64 0, .int .i64 1, .int .i64 3, .int .i64 0, .slice (some ⟨e1, 0, none⟩) 1 1, .int .i64 9, .int .i64 2, .int .i64 1, .int .i64 2, .bool false, .int .i64 (-1), .int .i64 0, .int .i64 0, .int .i64 3, .int .i64 4, .slice (some ⟨e2, 0, none⟩) 1 1] 37) (hc : Sl catC 2 w6 (fun b => b ≠ z) A n cap vesselX.cats) (hd : Sl cabC 4 w6 (fun b => b ≠ z) B m cap2 vesselX.cabs) (hf : Sl (slC intC 1) 1 w6 (fun b => b ≠ z) D nd cd tableX.leg) (hg : Sl bandC 2 w6 (fun b => b ≠ z) E ne ce tableX.bands)
    (h1 : Blk W4 e1 #[.int .i64 1, .int .i64 1, .int .i64 1200] 57) (h2 : Blk W4 e2 #[.int .i64 1, .int .i64 1, .int .i64 1202] 57) (hZ : Blk W4 z zs 32) (us : Array Value) :
    SaiR (w6.setRow z us) cruiseX ⟨A, n, cap, B, m, cap2, D, nd, cd, E, ne, ce, some ⟨q, 0, none⟩, 2, 2⟩ ∧ Below w.heap.size w (w6.setRow z us) := by
  have hK := keptRow hbx z us
  have hZ6 := hZ.bel hbx
  have h1 := h1.bel hbx
  have h2 := h2.bel hbx
  exact ⟨⟨(hc.kept hK (fun b _ hb e => hb e)).all catC_good (by omega), (hd.kept hK (fun b _ hb e => hb e)).all cabC_good (by omega), ⟨(hf.keep (S' := All) (slC_good intC_good (by omega)) (by omega) (fun b hb hlt => ⟨hK.block b hlt hb, trivial⟩)), (hg.kept hK (fun b _ hb e => hb e)).all bandC_good (by omega), .of (by decide) (by decide), .of (by decide) (by decide), .of (by decide) (by decide)⟩,
    sl_cruise (hL.rowOther (hL.neTy hZ6 (by decide)) _) (h1.rowOther (h1.neTy hZ6 (by decide)) _) (h2.rowOther (h2.neTy hZ6 (by decide)) _)⟩, (hb.trans (hbx.mono hb.size)).trans (hK.below (B := w.heap.size) (Nat.le_trans hb.size hbx.size) (fun k hk e => by omega))⟩
set_option maxRecDepth 100000 in
set_option maxHeartbeats 4000000 in
theorem cruise_any (w : World) : Calls Tryz.prog 83 #[] w fun e w' => ∃ p, e = .returned (.agg (saiA cruiseX p)) ∧ SaiR w' cruiseX p ∧ Below w.heap.size w w' := by
  go_enter Tryz.func83, Tryz.ntmps83
  go_wp2_with fail
  refine (namedL_any _).mono ?_
  rintro e w1 ⟨rfl, hb1⟩
  have hZ := (Blk.new w #[.int .i64 0, .int .i64 0, .slice none 0 0, .slice none 0 0, .slice none 0 0, .int .i64 0, .int .i64 0, .slice none 0 0, .int .i64 0, .int .i64 0, .int .i64 0, .slice none 0 0, .bool false] 32).bel hb1
  have hb := (bel1 w (.cells #[.int .i64 0, .int .i64 0, .slice none 0 0, .slice none 0 0, .slice none 0 0, .int .i64 0, .int .i64 0, .slice none 0 0, .int .i64 0, .int .i64 0, .int .i64 0, .slice none 0 0, .bool false] 32)).trans (hb1.mono (by simp))
  clear hb1
  go_wp2_with fail
  refine (promisedL_any _).mono ?_
  rintro e w2 ⟨rfl, hb1⟩
  replace hZ := hZ.bel hb1
  replace hb := hb.trans (hb1.mono hb.size)
  clear hb1
  have hs := hb.size
  have hzl := hZ.lt
  go_upto_region 3 with (fail)
  go_cut [0, 1, 2] (fun p p1 p2 wx => ∃ z a b e e', p = .pointer (some ⟨z, 0, none⟩) ∧ p1 = .pointer (some ⟨a, 0, none⟩) ∧ p2 = .pointer (some ⟨b, 0, none⟩) ∧ a ≠ b ∧ a ≠ z ∧ b ≠ z ∧ w.heap.size ≤ z ∧ w.heap.size ≤ a ∧ w.heap.size ≤ b ∧ Blk wx z #[.int .i64 0, .int .i64 0, .slice none 0 0, .slice none 0 0, .slice none 0 0, .int .i64 0, .int .i64 0, .slice none 0 0, .int .i64 0, .int .i64 0, .int .i64 0, .slice none 0 0, .bool false] 32 ∧ Blk wx a (bkgA namedX (.slice (some ⟨e, 0, none⟩) 1 1)) 37 ∧ Blk wx b (bkgA promisedX (.slice (some ⟨e', 0, none⟩) 1 1)) 37 ∧ Blk wx e #[.int .i64 1, .int .i64 1, .int .i64 1200] 57 ∧ Blk wx e' #[.int .i64 1, .int .i64 1, .int .i64 1202] 57 ∧ Below w.heap.size w wx)
  case first =>
    go_wp2_with fail
    go_meet
    exact ⟨_, _, _, _, _, rfl, rfl, rfl, by omega, by omega, by omega, Nat.le_refl _, by omega, by omega, ((((hZ.old _).old _).old _).old _), (((Blk.new w2 _ _).old _).old _).old _, ((Blk.new1 w2 _ _ _).old _).old _, (Blk.new2 w2 _ _ _ _).old _, Blk.new3 w2 _ _ _ _ _, (((hb.alloc hb.size _).alloc (by simp; omega) _).alloc (by simp; omega) _).alloc (by simp; omega) _⟩
  obtain ⟨z, a, b, e1, e2, rfl, rfl, rfl, hab, haz, hbz, hz, ha, hbb, hZ, hA, hB, hE1, hE2, hb⟩ := hcut
  obtain ⟨W4, hW4⟩ : ∃ V, V = wc := ⟨_, rfl⟩
  subst hW4
  have hzl := hZ.lt
  have HSX := Lib.hid (show ∀ X, Blk X a (bkgA namedX (.slice (some ⟨e1, 0, none⟩) 1 1)) 37 → Blk X b (bkgA promisedX (.slice (some ⟨e2, 0, none⟩) 1 1)) 37 → (fun w' => (w'.cell? ⟨a, 0, none⟩ = some (.int .i64 7) ∧ w'.cell? ⟨a, 1, none⟩ = some (.int .i64 1) ∧ w'.cell? ⟨a, 2, none⟩ = some (.int .i64 2) ∧ w'.cell? ⟨a, 3, none⟩ = some (.int .i64 3) ∧ w'.cell? ⟨a, 4, none⟩ = some (.bool false) ∧ w'.cell? ⟨a, 5, none⟩ = some (.int .i64 1) ∧ w'.cell? ⟨a, 6, none⟩ = some (.int .i64 0) ∧ w'.cell? ⟨a, 7, none⟩ = some (.int .i64 1) ∧ w'.cell? ⟨a, 8, none⟩ = some (.int .i64 3) ∧ w'.cell? ⟨a, 9, none⟩ = some (.int .i64 0) ∧ w'.cell? ⟨a, 10, none⟩ = some (.slice (some ⟨e1, 0, none⟩) 1 1)) ∧ (w'.cell? ⟨b, 0, none⟩ = some (.int .i64 9) ∧ w'.cell? ⟨b, 1, none⟩ = some (.int .i64 2) ∧ w'.cell? ⟨b, 2, none⟩ = some (.int .i64 1) ∧ w'.cell? ⟨b, 3, none⟩ = some (.int .i64 2) ∧ w'.cell? ⟨b, 4, none⟩ = some (.bool false) ∧ w'.cell? ⟨b, 5, none⟩ = some (.int .i64 (-1)) ∧ w'.cell? ⟨b, 6, none⟩ = some (.int .i64 0) ∧ w'.cell? ⟨b, 7, none⟩ = some (.int .i64 0) ∧ w'.cell? ⟨b, 8, none⟩ = some (.int .i64 3) ∧ w'.cell? ⟨b, 9, none⟩ = some (.int .i64 4) ∧ w'.cell? ⟨b, 10, none⟩ = some (.slice (some ⟨e2, 0, none⟩) 1 1))) X from fun X hX hY => ⟨⟨hX.cell rfl, hX.cell rfl, hX.cell rfl, hX.cell rfl, hX.cell rfl, hX.cell rfl, hX.cell rfl, hX.cell rfl, hX.cell rfl, hX.cell rfl, hX.cell rfl⟩, ⟨hY.cell rfl, hY.cell rfl, hY.cell rfl, hY.cell rfl, hY.cell rfl, hY.cell rfl, hY.cell rfl, hY.cell rfl, hY.cell rfl, hY.cell rfl, hY.cell rfl⟩⟩)
  have HA := Lib.hid (fun X (hX : Below W4.heap.size W4 X) => HSX.out X (hA.bel hX) (hB.bel hX))
  have HZ := Lib.hid hZ
  clear hZ
  have HB := Lib.hid hb
  clear hb
  have HE1 := Lib.hid hE1
  clear hE1
  have HE2 := Lib.hid hE2
  clear hE2
  have HAA := Lib.hid hA
  clear hA
  have HBB := Lib.hid hB
  clear hB
  go_wp2_with fail
  have hbx : Below W4.heap.size W4 W4.drew := (Below.refl _ W4).drew
  refine wp_region_held_drew (S := (fun w' => (w'.cell? ⟨a, 0, none⟩ = some (.int .i64 7) ∧ w'.cell? ⟨a, 1, none⟩ = some (.int .i64 1) ∧ w'.cell? ⟨a, 2, none⟩ = some (.int .i64 2) ∧ w'.cell? ⟨a, 3, none⟩ = some (.int .i64 3) ∧ w'.cell? ⟨a, 4, none⟩ = some (.bool false) ∧ w'.cell? ⟨a, 5, none⟩ = some (.int .i64 1) ∧ w'.cell? ⟨a, 6, none⟩ = some (.int .i64 0) ∧ w'.cell? ⟨a, 7, none⟩ = some (.int .i64 1) ∧ w'.cell? ⟨a, 8, none⟩ = some (.int .i64 3) ∧ w'.cell? ⟨a, 9, none⟩ = some (.int .i64 0) ∧ w'.cell? ⟨a, 10, none⟩ = some (.slice (some ⟨e1, 0, none⟩) 1 1)) ∧ (w'.cell? ⟨b, 0, none⟩ = some (.int .i64 9) ∧ w'.cell? ⟨b, 1, none⟩ = some (.int .i64 2) ∧ w'.cell? ⟨b, 2, none⟩ = some (.int .i64 1) ∧ w'.cell? ⟨b, 3, none⟩ = some (.int .i64 2) ∧ w'.cell? ⟨b, 4, none⟩ = some (.bool false) ∧ w'.cell? ⟨b, 5, none⟩ = some (.int .i64 (-1)) ∧ w'.cell? ⟨b, 6, none⟩ = some (.int .i64 0) ∧ w'.cell? ⟨b, 7, none⟩ = some (.int .i64 0) ∧ w'.cell? ⟨b, 8, none⟩ = some (.int .i64 3) ∧ w'.cell? ⟨b, 9, none⟩ = some (.int .i64 4) ∧ w'.cell? ⟨b, 10, none⟩ = some (.slice (some ⟨e2, 0, none⟩) 1 1)))) (by kernel_rfl) (HA.out _ hbx) (fun hHeld => ?_)
  refine wpAnyH_take (i := 2) (v := ?v9) (gA rfl) (by kernel_rfl) (by kernel_rfl) (by kernel_rfl) (fun _ _ _ h => h) (Or.inl ⟨rfl, ?y9⟩) (by assumption) ?_
  case y9 => (intro w hSw; (try dsimp only at hSw); go_simp <;> with_reducible rfl)
  simp only [Act.put, List.setIfInBounds_toArray, List.set_cons_zero, List.set_cons_succ]
  refine wpAnyH_take (i := 3) (v := ?v10) (gA rfl) (by kernel_rfl) (by kernel_rfl) (by kernel_rfl) (fun _ _ _ h => h) (Or.inl ⟨rfl, ?y10⟩) (by assumption) ?_
  case y10 => (intro w hSw; (try dsimp only at hSw); go_simp <;> with_reducible rfl)
  simp only [Act.put, List.setIfInBounds_toArray, List.set_cons_zero, List.set_cons_succ]
  refine wpAnyH_ready (rs := [0, 4]) (by kernel_rfl) (by simp) ?_
  refine AllReadyH.cons (gA rfl) (fun K hK => ?_) ?m_1
  case m_1 =>
    refine AllReadyH.cons (gA rfl) (fun K hK => ?_) AllReadyH.nil
    go_simp
    refine hK.out _ _ ?_ (fun hHeld => ?_)
    · exact HA.out _ (hbx.alloc hbx.size (.cells #[.int .i64 7, .int .i64 1, .int .i64 2, .int .i64 3, .bool false, .int .i64 1, .int .i64 0, .int .i64 1, .int .i64 3, .int .i64 0, .slice (some ⟨e1, 0, none⟩) 1 1, .int .i64 9, .int .i64 2, .int .i64 1, .int .i64 2, .bool false, .int .i64 (-1), .int .i64 0, .int .i64 0, .int .i64 3, .int .i64 4, .slice (some ⟨e2, 0, none⟩) 1 1] 37))
    clear hK K
    try simp only [Act.put, List.setIfInBounds_toArray, List.set_cons_zero, List.set_cons_succ]
    ((try replace hc := hc.bel (bel1 _ (.cells #[.int .i64 7, .int .i64 1, .int .i64 2, .int .i64 3, .bool false, .int .i64 1, .int .i64 0, .int .i64 1, .int .i64 3, .int .i64 0, .slice (some ⟨e1, 0, none⟩) 1 1, .int .i64 9, .int .i64 2, .int .i64 1, .int .i64 2, .bool false, .int .i64 (-1), .int .i64 0, .int .i64 0, .int .i64 3, .int .i64 4, .slice (some ⟨e2, 0, none⟩) 1 1] 37))); (try replace hd := hd.bel (bel1 _ (.cells #[.int .i64 7, .int .i64 1, .int .i64 2, .int .i64 3, .bool false, .int .i64 1, .int .i64 0, .int .i64 1, .int .i64 3, .int .i64 0, .slice (some ⟨e1, 0, none⟩) 1 1, .int .i64 9, .int .i64 2, .int .i64 1, .int .i64 2, .bool false, .int .i64 (-1), .int .i64 0, .int .i64 0, .int .i64 3, .int .i64 4, .slice (some ⟨e2, 0, none⟩) 1 1] 37))); (try replace hf := hf.bel (bel1 _ (.cells #[.int .i64 7, .int .i64 1, .int .i64 2, .int .i64 3, .bool false, .int .i64 1, .int .i64 0, .int .i64 1, .int .i64 3, .int .i64 0, .slice (some ⟨e1, 0, none⟩) 1 1, .int .i64 9, .int .i64 2, .int .i64 1, .int .i64 2, .bool false, .int .i64 (-1), .int .i64 0, .int .i64 0, .int .i64 3, .int .i64 4, .slice (some ⟨e2, 0, none⟩) 1 1] 37))); (try replace hg := hg.bel (bel1 _ (.cells #[.int .i64 7, .int .i64 1, .int .i64 2, .int .i64 3, .bool false, .int .i64 1, .int .i64 0, .int .i64 1, .int .i64 3, .int .i64 0, .slice (some ⟨e1, 0, none⟩) 1 1, .int .i64 9, .int .i64 2, .int .i64 1, .int .i64 2, .bool false, .int .i64 (-1), .int .i64 0, .int .i64 0, .int .i64 3, .int .i64 4, .slice (some ⟨e2, 0, none⟩) 1 1] 37))); have hL := newOf hbx #[.int .i64 7, .int .i64 1, .int .i64 2, .int .i64 3, .bool false, .int .i64 1, .int .i64 0, .int .i64 1, .int .i64 3, .int .i64 0, .slice (some ⟨e1, 0, none⟩) 1 1, .int .i64 9, .int .i64 2, .int .i64 1, .int .i64 2, .bool false, .int .i64 (-1), .int .i64 0, .int .i64 0, .int .i64 3, .int .i64 4, .slice (some ⟨e2, 0, none⟩) 1 1] 37; replace hbx := hbx.alloc hbx.size (.cells #[.int .i64 7, .int .i64 1, .int .i64 2, .int .i64 3, .bool false, .int .i64 1, .int .i64 0, .int .i64 1, .int .i64 3, .int .i64 0, .slice (some ⟨e1, 0, none⟩) 1 1, .int .i64 9, .int .i64 2, .int .i64 1, .int .i64 2, .bool false, .int .i64 (-1), .int .i64 0, .int .i64 0, .int .i64 3, .int .i64 4, .slice (some ⟨e2, 0, none⟩) 1 1] 37))
    refine wpAnyH_ready (rs := [0]) (by kernel_rfl) (by simp) ?_
    refine AllReadyH.cons (gA rfl) (fun K hK => ?_) AllReadyH.nil
    go_simp
    (go_at_call 128; refine (vesselS_any _).mono ?_; rintro e w5 ⟨A, n, cap, B, m, cap2, rfl, hc, hd, hb5⟩; (try replace hL := hL.bel hb5); replace hc := hc.keep (S' := fun b => b ≠ z) catC_good (by omega) (fun b hb _ => ⟨rfl, Ne.symm (Nat.ne_of_lt (Nat.lt_of_lt_of_le hzl (Nat.le_trans hbx.size hb)))⟩); replace hd := hd.keep (S' := fun b => b ≠ z) cabC_good (by omega) (fun b hb _ => ⟨rfl, Ne.symm (Nat.ne_of_lt (Nat.lt_of_lt_of_le hzl (Nat.le_trans hbx.size hb)))⟩); replace hbx := hbx.trans (hb5.mono hbx.size); clear hb5)
    go_wp2_with fail
    refine hK.out _ _ ?_ (fun hHeld => ?_)
    · exact HA.out _ hbx
    clear hK K
    try simp only [Act.put, List.setIfInBounds_toArray, List.set_cons_zero, List.set_cons_succ]
    refine wpAnyH_ready (rs := [1]) (by kernel_rfl) (by simp) ?_
    refine AllReadyH.cons (gA rfl) (fun K hK => ?_) AllReadyH.nil
    go_simp
    (go_at_call 140; refine (tableS_any _).mono ?_; rintro e w6 ⟨D, nd, cd, E, ne, ce, rfl, hf, hg, hb6⟩; (try replace hL := hL.bel hb6); replace hc := hc.bel hb6; replace hd := hd.bel hb6; replace hf := hf.keep (S' := fun b => b ≠ z) (slC_good intC_good (by omega)) (by omega) (fun b hb _ => ⟨rfl, Ne.symm (Nat.ne_of_lt (Nat.lt_of_lt_of_le hzl (Nat.le_trans hbx.size hb)))⟩); replace hg := hg.keep (S' := fun b => b ≠ z) bandC_good (by omega) (fun b hb _ => ⟨rfl, Ne.symm (Nat.ne_of_lt (Nat.lt_of_lt_of_le hzl (Nat.le_trans hbx.size hb)))⟩); replace hbx := hbx.trans (hb6.mono hbx.size); clear hb6)
    go_wp2_with fail
    refine hK.out _ _ ?_ (fun hHeld => ?_)
    · exact HA.out _ hbx
    clear hK K
    try simp only [Act.put, List.setIfInBounds_toArray, List.set_cons_zero, List.set_cons_succ]
    have hZ6 := HZ.out.bel hbx
    have hA6 := HAA.out.bel hbx
    have hB6 := HBB.out.bel hbx
    refine wpAnyH_take (i := 5) (v := ?v11) (gA rfl) (by kernel_rfl) (by kernel_rfl) (by kernel_rfl) (fun _ _ _ h => h) (Or.inl ⟨rfl, ?y11⟩) (by assumption) ?_
    case y11 => (intro w hSw; (try dsimp only at hSw); go_simp <;> with_reducible rfl)
    simp only [Act.put, List.setIfInBounds_toArray, List.set_cons_zero, List.set_cons_succ]
    refine wpAnyH_ready (rs := [6]) (by kernel_rfl) (by simp) (AllReadyH.cons (gA rfl) (fun K hK => ?_) AllReadyH.nil)
    (refine wp_store_row 32 (.tmp 0) (.tmp 16) rfl z (saiA cruiseX ⟨A, n, cap, B, m, cap2, D, nd, cd, E, ne, ce, some ⟨_, 0, none⟩, 2, 2⟩) rfl rfl 32 _ hZ6 (by kernel_rfl) rfl (by simp [Value.oneCell']) ?_)
    refine hK.out _ _ ?_ (fun hHeld => ?_)
    · exact HSX.out _ (hA6.rowOther haz _) (hB6.rowOther hbz _)
    clear hK K
    try simp only [Act.put, List.setIfInBounds_toArray, List.set_cons_zero, List.set_cons_succ]
    refine wpAnyH_done (by kernel_rfl) ?_ _
    go_wp2_with fail
    refine bodyPost_ret (v := .agg (saiA cruiseX ⟨A, n, cap, B, m, cap2, D, nd, cd, E, ne, ce, some ⟨_, 0, none⟩, 2, 2⟩)) ((hZ6.row _).ret (k := 0) (by kernel_rfl) rfl Tryz.underlying32 (by kernel_rfl) (by kernel_rfl)) rfl ?_
    exact ⟨_, rfl, cruise_end hz HB.out hbx hL hc hd hf hg HE1.out HE2.out HZ.out _⟩
  go_simp
  (go_at_call 128; refine (vesselS_any _).mono ?_; rintro e w5 ⟨A, n, cap, B, m, cap2, rfl, hc, hd, hb5⟩; (try replace hL := hL.bel hb5); replace hc := hc.keep (S' := fun b => b ≠ z) catC_good (by omega) (fun b hb _ => ⟨rfl, Ne.symm (Nat.ne_of_lt (Nat.lt_of_lt_of_le hzl (Nat.le_trans hbx.size hb)))⟩); replace hd := hd.keep (S' := fun b => b ≠ z) cabC_good (by omega) (fun b hb _ => ⟨rfl, Ne.symm (Nat.ne_of_lt (Nat.lt_of_lt_of_le hzl (Nat.le_trans hbx.size hb)))⟩); replace hbx := hbx.trans (hb5.mono hbx.size); clear hb5)
  go_wp2_with fail
  refine hK.out _ _ ?_ (fun hHeld => ?_)
  · exact HA.out _ hbx
  clear hK K
  try simp only [Act.put, List.setIfInBounds_toArray, List.set_cons_zero, List.set_cons_succ]
  refine wpAnyH_ready (rs := [1, 4]) (by kernel_rfl) (by simp) ?_
  refine AllReadyH.cons (gA rfl) (fun K hK => ?_) ?m_5
  case m_5 =>
    refine AllReadyH.cons (gA rfl) (fun K hK => ?_) AllReadyH.nil
    go_simp
    refine hK.out _ _ ?_ (fun hHeld => ?_)
    · exact HA.out _ (hbx.alloc hbx.size (.cells #[.int .i64 7, .int .i64 1, .int .i64 2, .int .i64 3, .bool false, .int .i64 1, .int .i64 0, .int .i64 1, .int .i64 3, .int .i64 0, .slice (some ⟨e1, 0, none⟩) 1 1, .int .i64 9, .int .i64 2, .int .i64 1, .int .i64 2, .bool false, .int .i64 (-1), .int .i64 0, .int .i64 0, .int .i64 3, .int .i64 4, .slice (some ⟨e2, 0, none⟩) 1 1] 37))
    clear hK K
    try simp only [Act.put, List.setIfInBounds_toArray, List.set_cons_zero, List.set_cons_succ]
    ((try replace hc := hc.bel (bel1 _ (.cells #[.int .i64 7, .int .i64 1, .int .i64 2, .int .i64 3, .bool false, .int .i64 1, .int .i64 0, .int .i64 1, .int .i64 3, .int .i64 0, .slice (some ⟨e1, 0, none⟩) 1 1, .int .i64 9, .int .i64 2, .int .i64 1, .int .i64 2, .bool false, .int .i64 (-1), .int .i64 0, .int .i64 0, .int .i64 3, .int .i64 4, .slice (some ⟨e2, 0, none⟩) 1 1] 37))); (try replace hd := hd.bel (bel1 _ (.cells #[.int .i64 7, .int .i64 1, .int .i64 2, .int .i64 3, .bool false, .int .i64 1, .int .i64 0, .int .i64 1, .int .i64 3, .int .i64 0, .slice (some ⟨e1, 0, none⟩) 1 1, .int .i64 9, .int .i64 2, .int .i64 1, .int .i64 2, .bool false, .int .i64 (-1), .int .i64 0, .int .i64 0, .int .i64 3, .int .i64 4, .slice (some ⟨e2, 0, none⟩) 1 1] 37))); (try replace hf := hf.bel (bel1 _ (.cells #[.int .i64 7, .int .i64 1, .int .i64 2, .int .i64 3, .bool false, .int .i64 1, .int .i64 0, .int .i64 1, .int .i64 3, .int .i64 0, .slice (some ⟨e1, 0, none⟩) 1 1, .int .i64 9, .int .i64 2, .int .i64 1, .int .i64 2, .bool false, .int .i64 (-1), .int .i64 0, .int .i64 0, .int .i64 3, .int .i64 4, .slice (some ⟨e2, 0, none⟩) 1 1] 37))); (try replace hg := hg.bel (bel1 _ (.cells #[.int .i64 7, .int .i64 1, .int .i64 2, .int .i64 3, .bool false, .int .i64 1, .int .i64 0, .int .i64 1, .int .i64 3, .int .i64 0, .slice (some ⟨e1, 0, none⟩) 1 1, .int .i64 9, .int .i64 2, .int .i64 1, .int .i64 2, .bool false, .int .i64 (-1), .int .i64 0, .int .i64 0, .int .i64 3, .int .i64 4, .slice (some ⟨e2, 0, none⟩) 1 1] 37))); have hL := newOf hbx #[.int .i64 7, .int .i64 1, .int .i64 2, .int .i64 3, .bool false, .int .i64 1, .int .i64 0, .int .i64 1, .int .i64 3, .int .i64 0, .slice (some ⟨e1, 0, none⟩) 1 1, .int .i64 9, .int .i64 2, .int .i64 1, .int .i64 2, .bool false, .int .i64 (-1), .int .i64 0, .int .i64 0, .int .i64 3, .int .i64 4, .slice (some ⟨e2, 0, none⟩) 1 1] 37; replace hbx := hbx.alloc hbx.size (.cells #[.int .i64 7, .int .i64 1, .int .i64 2, .int .i64 3, .bool false, .int .i64 1, .int .i64 0, .int .i64 1, .int .i64 3, .int .i64 0, .slice (some ⟨e1, 0, none⟩) 1 1, .int .i64 9, .int .i64 2, .int .i64 1, .int .i64 2, .bool false, .int .i64 (-1), .int .i64 0, .int .i64 0, .int .i64 3, .int .i64 4, .slice (some ⟨e2, 0, none⟩) 1 1] 37))
    refine wpAnyH_ready (rs := [1]) (by kernel_rfl) (by simp) ?_
    refine AllReadyH.cons (gA rfl) (fun K hK => ?_) AllReadyH.nil
    go_simp
    (go_at_call 140; refine (tableS_any _).mono ?_; rintro e w6 ⟨D, nd, cd, E, ne, ce, rfl, hf, hg, hb6⟩; (try replace hL := hL.bel hb6); replace hc := hc.bel hb6; replace hd := hd.bel hb6; replace hf := hf.keep (S' := fun b => b ≠ z) (slC_good intC_good (by omega)) (by omega) (fun b hb _ => ⟨rfl, Ne.symm (Nat.ne_of_lt (Nat.lt_of_lt_of_le hzl (Nat.le_trans hbx.size hb)))⟩); replace hg := hg.keep (S' := fun b => b ≠ z) bandC_good (by omega) (fun b hb _ => ⟨rfl, Ne.symm (Nat.ne_of_lt (Nat.lt_of_lt_of_le hzl (Nat.le_trans hbx.size hb)))⟩); replace hbx := hbx.trans (hb6.mono hbx.size); clear hb6)
    go_wp2_with fail
    refine hK.out _ _ ?_ (fun hHeld => ?_)
    · exact HA.out _ hbx
    clear hK K
    try simp only [Act.put, List.setIfInBounds_toArray, List.set_cons_zero, List.set_cons_succ]
    have hZ6 := HZ.out.bel hbx
    have hA6 := HAA.out.bel hbx
    have hB6 := HBB.out.bel hbx
    refine wpAnyH_take (i := 5) (v := ?v13) (gA rfl) (by kernel_rfl) (by kernel_rfl) (by kernel_rfl) (fun _ _ _ h => h) (Or.inl ⟨rfl, ?y13⟩) (by assumption) ?_
    case y13 => (intro w hSw; (try dsimp only at hSw); go_simp <;> with_reducible rfl)
    simp only [Act.put, List.setIfInBounds_toArray, List.set_cons_zero, List.set_cons_succ]
    refine wpAnyH_ready (rs := [6]) (by kernel_rfl) (by simp) (AllReadyH.cons (gA rfl) (fun K hK => ?_) AllReadyH.nil)
    (refine wp_store_row 32 (.tmp 0) (.tmp 16) rfl z (saiA cruiseX ⟨A, n, cap, B, m, cap2, D, nd, cd, E, ne, ce, some ⟨_, 0, none⟩, 2, 2⟩) rfl rfl 32 _ hZ6 (by kernel_rfl) rfl (by simp [Value.oneCell']) ?_)
    refine hK.out _ _ ?_ (fun hHeld => ?_)
    · exact HSX.out _ (hA6.rowOther haz _) (hB6.rowOther hbz _)
    clear hK K
    try simp only [Act.put, List.setIfInBounds_toArray, List.set_cons_zero, List.set_cons_succ]
    refine wpAnyH_done (by kernel_rfl) ?_ _
    go_wp2_with fail
    refine bodyPost_ret (v := .agg (saiA cruiseX ⟨A, n, cap, B, m, cap2, D, nd, cd, E, ne, ce, some ⟨_, 0, none⟩, 2, 2⟩)) ((hZ6.row _).ret (k := 0) (by kernel_rfl) rfl Tryz.underlying32 (by kernel_rfl) (by kernel_rfl)) rfl ?_
    exact ⟨_, rfl, cruise_end hz HB.out hbx hL hc hd hf hg HE1.out HE2.out HZ.out _⟩
  go_simp
  (go_at_call 140; refine (tableS_any _).mono ?_; rintro e w6 ⟨D, nd, cd, E, ne, ce, rfl, hf, hg, hb6⟩; (try replace hL := hL.bel hb6); replace hc := hc.bel hb6; replace hd := hd.bel hb6; replace hf := hf.keep (S' := fun b => b ≠ z) (slC_good intC_good (by omega)) (by omega) (fun b hb _ => ⟨rfl, Ne.symm (Nat.ne_of_lt (Nat.lt_of_lt_of_le hzl (Nat.le_trans hbx.size hb)))⟩); replace hg := hg.keep (S' := fun b => b ≠ z) bandC_good (by omega) (fun b hb _ => ⟨rfl, Ne.symm (Nat.ne_of_lt (Nat.lt_of_lt_of_le hzl (Nat.le_trans hbx.size hb)))⟩); replace hbx := hbx.trans (hb6.mono hbx.size); clear hb6)
  go_wp2_with fail
  refine hK.out _ _ ?_ (fun hHeld => ?_)
  · exact HA.out _ hbx
  clear hK K
  try simp only [Act.put, List.setIfInBounds_toArray, List.set_cons_zero, List.set_cons_succ]
  refine wpAnyH_ready (rs := [4]) (by kernel_rfl) (by simp) ?_
  refine AllReadyH.cons (gA rfl) (fun K hK => ?_) AllReadyH.nil
  go_simp
  refine hK.out _ _ ?_ (fun hHeld => ?_)
  · exact HA.out _ (hbx.alloc hbx.size (.cells #[.int .i64 7, .int .i64 1, .int .i64 2, .int .i64 3, .bool false, .int .i64 1, .int .i64 0, .int .i64 1, .int .i64 3, .int .i64 0, .slice (some ⟨e1, 0, none⟩) 1 1, .int .i64 9, .int .i64 2, .int .i64 1, .int .i64 2, .bool false, .int .i64 (-1), .int .i64 0, .int .i64 0, .int .i64 3, .int .i64 4, .slice (some ⟨e2, 0, none⟩) 1 1] 37))
  clear hK K
  try simp only [Act.put, List.setIfInBounds_toArray, List.set_cons_zero, List.set_cons_succ]
  ((try replace hc := hc.bel (bel1 _ (.cells #[.int .i64 7, .int .i64 1, .int .i64 2, .int .i64 3, .bool false, .int .i64 1, .int .i64 0, .int .i64 1, .int .i64 3, .int .i64 0, .slice (some ⟨e1, 0, none⟩) 1 1, .int .i64 9, .int .i64 2, .int .i64 1, .int .i64 2, .bool false, .int .i64 (-1), .int .i64 0, .int .i64 0, .int .i64 3, .int .i64 4, .slice (some ⟨e2, 0, none⟩) 1 1] 37))); (try replace hd := hd.bel (bel1 _ (.cells #[.int .i64 7, .int .i64 1, .int .i64 2, .int .i64 3, .bool false, .int .i64 1, .int .i64 0, .int .i64 1, .int .i64 3, .int .i64 0, .slice (some ⟨e1, 0, none⟩) 1 1, .int .i64 9, .int .i64 2, .int .i64 1, .int .i64 2, .bool false, .int .i64 (-1), .int .i64 0, .int .i64 0, .int .i64 3, .int .i64 4, .slice (some ⟨e2, 0, none⟩) 1 1] 37))); (try replace hf := hf.bel (bel1 _ (.cells #[.int .i64 7, .int .i64 1, .int .i64 2, .int .i64 3, .bool false, .int .i64 1, .int .i64 0, .int .i64 1, .int .i64 3, .int .i64 0, .slice (some ⟨e1, 0, none⟩) 1 1, .int .i64 9, .int .i64 2, .int .i64 1, .int .i64 2, .bool false, .int .i64 (-1), .int .i64 0, .int .i64 0, .int .i64 3, .int .i64 4, .slice (some ⟨e2, 0, none⟩) 1 1] 37))); (try replace hg := hg.bel (bel1 _ (.cells #[.int .i64 7, .int .i64 1, .int .i64 2, .int .i64 3, .bool false, .int .i64 1, .int .i64 0, .int .i64 1, .int .i64 3, .int .i64 0, .slice (some ⟨e1, 0, none⟩) 1 1, .int .i64 9, .int .i64 2, .int .i64 1, .int .i64 2, .bool false, .int .i64 (-1), .int .i64 0, .int .i64 0, .int .i64 3, .int .i64 4, .slice (some ⟨e2, 0, none⟩) 1 1] 37))); have hL := newOf hbx #[.int .i64 7, .int .i64 1, .int .i64 2, .int .i64 3, .bool false, .int .i64 1, .int .i64 0, .int .i64 1, .int .i64 3, .int .i64 0, .slice (some ⟨e1, 0, none⟩) 1 1, .int .i64 9, .int .i64 2, .int .i64 1, .int .i64 2, .bool false, .int .i64 (-1), .int .i64 0, .int .i64 0, .int .i64 3, .int .i64 4, .slice (some ⟨e2, 0, none⟩) 1 1] 37; replace hbx := hbx.alloc hbx.size (.cells #[.int .i64 7, .int .i64 1, .int .i64 2, .int .i64 3, .bool false, .int .i64 1, .int .i64 0, .int .i64 1, .int .i64 3, .int .i64 0, .slice (some ⟨e1, 0, none⟩) 1 1, .int .i64 9, .int .i64 2, .int .i64 1, .int .i64 2, .bool false, .int .i64 (-1), .int .i64 0, .int .i64 0, .int .i64 3, .int .i64 4, .slice (some ⟨e2, 0, none⟩) 1 1] 37))
  have hZ6 := HZ.out.bel hbx
  have hA6 := HAA.out.bel hbx
  have hB6 := HBB.out.bel hbx
  refine wpAnyH_take (i := 5) (v := ?v15) (gA rfl) (by kernel_rfl) (by kernel_rfl) (by kernel_rfl) (fun _ _ _ h => h) (Or.inl ⟨rfl, ?y15⟩) (by assumption) ?_
  case y15 => (intro w hSw; (try dsimp only at hSw); go_simp <;> with_reducible rfl)
  simp only [Act.put, List.setIfInBounds_toArray, List.set_cons_zero, List.set_cons_succ]
  refine wpAnyH_ready (rs := [6]) (by kernel_rfl) (by simp) (AllReadyH.cons (gA rfl) (fun K hK => ?_) AllReadyH.nil)
  (refine wp_store_row 32 (.tmp 0) (.tmp 16) rfl z (saiA cruiseX ⟨A, n, cap, B, m, cap2, D, nd, cd, E, ne, ce, some ⟨_, 0, none⟩, 2, 2⟩) rfl rfl 32 _ hZ6 (by kernel_rfl) rfl (by simp [Value.oneCell']) ?_)
  refine hK.out _ _ ?_ (fun hHeld => ?_)
  · exact HSX.out _ (hA6.rowOther haz _) (hB6.rowOther hbz _)
  clear hK K
  try simp only [Act.put, List.setIfInBounds_toArray, List.set_cons_zero, List.set_cons_succ]
  refine wpAnyH_done (by kernel_rfl) ?_ _
  go_wp2_with fail
  refine bodyPost_ret (v := .agg (saiA cruiseX ⟨A, n, cap, B, m, cap2, D, nd, cd, E, ne, ce, some ⟨_, 0, none⟩, 2, 2⟩)) ((hZ6.row _).ret (k := 0) (by kernel_rfl) rfl Tryz.underlying32 (by kernel_rfl) (by kernel_rfl)) rfl ?_
  exact ⟨_, rfl, cruise_end hz HB.out hbx hL hc hd hf hg HE1.out HE2.out HZ.out _⟩
end Go.Proofs.YtoilcdgpeilgaaaGreat
