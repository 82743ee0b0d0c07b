/-
  Words, laws and contracts: StockJ.
-/
import Derived.Test.YtlablioefblmkaaGreatBun28
set_option linter.unusedSimpArgs false
set_option linter.unusedVariables false
namespace Go.Proofs.YtlablioefblmkaaGreat
open Go.RowKit Go.Shelf
set_option maxRecDepth 100000 in
set_option maxHeartbeats 16000000 in
theorem RoomOf_any (x : Sai) (p : SaiV) (w : World) (h : SaiR w x p) (ho : OkShp x.ship) (hk : ∀ b ∈ x.bks, OkBk x.ship b) (h16 : x.bks.length ≤ 16) :
    Calls Tryz.prog 73 #[.agg (saiA x p)] w fun e w' => e = .returned (.int .i64 (roomE x)) ∧ Below w.heap.size w w' := by
  have HOP := Lib.hid (fun W h => PromisesOf_any x p W h ho hk h16)
  have HS := Lib.hid h
  obtain ⟨A, n, cap, B, m, cap2, D, nd, cd, E, ne, ce, C, nb, cb⟩ := p
  have hl : Sl bkgC 11 w All C nb cb x.bks := h.bks
  have hd : Sl cabC 4 w All B m cap2 x.ship.cabs := h.cabs
  have hnb : nb ≤ 16 := by rw [← hl.len]; exact h16
  have hm12 : m ≤ 12 := by rw [← hd.len]; exact ho.cabs12
  have HTK := Lib.hid (fun (c : Int) W hW => SpansOf_any C nb cb x.bks c W hW (spOk_of ho hk))
  obtain ⟨r, hr⟩ : ∃ r, r = roomE x := ⟨_, rfl⟩
  rw [← hr]
  have HR := Lib.hid (show r = if (List.range m).any (fun c => !takB x.bks (c : Int)) = true then 6 else if x.ship.souls < mx (soulL x.bks x.ship.legs.toNat) then 8 else if allB (idsL x).length (edgL x) = true then 0 else 9 by rw [hr, ← hd.len]; rfl)
  have HN := Lib.hid hl.len
  have HM := Lib.hid hd.len
  have HL := Lib.hid hl
  have HOK := Lib.hid ho
  have HK := Lib.hid hk
  clear hk
  have HL16 := Lib.hid h16
  clear h16
  clear h hl hd hr ho
  go_enter Tryz.func73, Tryz.ntmps73
  go_upto_region 0 with (fail)
  go_cut [1, 2] (fun q _ wx => ∃ g, q = .pointer (some ⟨g, 0, none⟩) ∧ Blk wx g (saiA x ⟨A, n, cap, B, m, cap2, D, nd, cd, E, ne, ce, C, nb, cb⟩) 32 ∧ Below w.heap.size w wx)
  case first => as_aux_lemma =>
    go_wp2_with fail
    go_meet
    exact ⟨_, rfl, blk1 _ _, bel1 _ _⟩
  obtain ⟨g, rfl, hG, hbw⟩ := hcut
  obtain ⟨W0, hW0⟩ : ∃ W, W = wc := ⟨_, rfl⟩
  subst hW0
  have HG := Lib.hid hG
  clear hG
  have HBW := Lib.hid hbw
  clear hbw
  go_wp2_with fail
  go_loopg [3] m (fun gk i wr => ∃ k : Nat, k ≤ m ∧ m - k ≤ gk ∧ i = .int .i64 k ∧ Aside (∀ j, j < k → takB x.bks (j : Int) = true) ∧ Below W0.heap.size W0 wr)
  case atStart => exact ⟨0, Nat.zero_le _, by omega, rfl, fun j hj => absurd hj (Nat.not_lt_zero _), Below.refl _ _⟩
  case round =>
    obtain ⟨k, hk, hgk, rfl, HE, hb⟩ := hrel
    have hG := HG.out.bel hb
    have hbo := HBW.out.trans (hb.mono HBW.out.size)
    have s3 : wr.cell? ⟨g, 3, none⟩ = some (.slice B m cap2) := hG.cell rfl
    by_cases hlt : k < m
    · have s11 : wr.cell? ⟨g, 11, none⟩ = some (.slice C nb cb) := hG.cell rfl
      have hcall := HTK.out (k : Int) wr (HL.out.bel hbo)
      obtain ⟨q, hq⟩ : ∃ q, q = takB x.bks (k : Int) := ⟨_, rfl⟩
      rw [← hq] at hcall
      have HCALL := Lib.hid hcall
      clear hcall
      have HQ := Lib.hid hq
      clear hq
      clear hG
      go_wp2_with fail
      refine HCALL.out.mono ?_
      rintro e w2 ⟨v, xs, rfl, hO, hb2⟩
      obtain ⟨A1, n1, c1, rfl, _⟩ := hO.sl spanC_good
      replace hb := hb.trans (hb2.mono hb.size)
      replace hbo := hbo.trans (hb2.mono hbo.size)
      clear hO hb2 s11 s3
      cases q
      · obtain rfl : r = 6 := by rw [HR.out, if_pos (any_range hlt (by show (!takB x.bks (k : Int)) = true; rw [← HQ.out]; rfl))]
        go_wp2_with fail
        go_ret
        exact ⟨rfl, hbo⟩
      · skip
        go_wp2_with fail
        go_roundg (m - (k + 1))
        case measure => omega
        case rel => exact ⟨k + 1, by omega, by omega, by go_num, fun j hj => by
          by_cases e : j = k
          · subst e; exact HQ.out.symm
          · exact HE j (by omega), hb⟩
    · obtain rfl : k = m := by omega
      have HR2 := Lib.hid (HR.out.trans (if_neg (by
        rw [any_range_no (fun i hi => by show (!takB x.bks (i : Int)) = false; rw [HE i hi]; rfl)]; simp)))
      have hlg := shp_legs HOK.out
      obtain ⟨N, hNl⟩ : ∃ N : Nat, x.ship.legs = N := ⟨x.ship.legs.toNat, by omega⟩
      have hNt : x.ship.legs.toNat = N := by omega
      have HAB := Lib.hid (fun W hW => SoulsOf_any N C nb cb x.bks W hW (by rw [← hNt]; exact abOk_of HOK.out HK.out) (by omega) (by omega))
      obtain ⟨sl, hsl⟩ : ∃ q, q = soulL x.bks N := ⟨_, rfl⟩
      rw [← hsl, ← hNl] at HAB
      have HSLN := Lib.hid (show sl.length = N by rw [hsl]; exact soulL_len _ _)
      have HSB := Lib.hid (show ∀ y ∈ sl, 0 ≤ y ∧ y ≤ 4 * nb from fun y hy => by
        rw [hsl] at hy
        obtain ⟨i, hi⟩ := List.getElem?_of_mem hy
        have hlt : i < N := by have := (List.getElem?_eq_some_iff.1 hi).1; rwa [soulL_len] at this
        rw [soulL_get _ _ _ hlt] at hi
        injection hi with hi
        have := soulK_bd (l := x.bks) (fun b hb => (HK.out b hb).gst) i
        have := HN.out
        omega)
      have HN7 := Lib.hid (show 0 < N ∧ N ≤ 7 from by omega)
      obtain ⟨M, hM⟩ : ∃ M, M = mst sl := ⟨_, rfl⟩
      have hso := betB_iff.1 HOK.out.souls
      have hmx : (x.ship.souls < mx sl) = (x.ship.souls < M) := by
        rw [hM]; unfold mst
        exact propext ⟨fun h => by omega, fun h => by omega⟩
      have HR3 := Lib.hid (show r = if x.ship.souls < M then 8 else if allB (idsL x).length (edgL x) = true then 0 else 9 by
        rw [HR2.out, hNt, ← hsl]; simp only [hmx])
      have HMX := Lib.hid hM
      clear hM
      have HCEL := Lib.hid (show ∀ X, Below wr.heap.size wr X → (fun w' => w'.cell? ⟨g, 0, none⟩ = some (.int .i64 x.ship.legs) ∧ w'.cell? ⟨g, 1, none⟩ = some (.int .i64 x.ship.souls) ∧ w'.cell? ⟨g, 11, none⟩ = some (.slice C nb cb)) X from fun X hX => ⟨(hG.bel hX).cell rfl, (hG.bel hX).cell rfl, (hG.bel hX).cell rfl⟩)
      have HLW := Lib.hid (HL.out.bel hbo)
      clear hlg hNl hNt hsl HE HR2 HR hmx hso
      go_upto_region 7 with (fail)
      go_cut [35] (fun t wx => t = .bool (decide (x.ship.souls < M)) ∧ Below wr.heap.size wr wx)
      case first => as_aux_lemma =>
        have hbx : Below wr.heap.size wr wr.drew := (Below.refl _ wr).drew
        clear hG hb hbo s3
        refine wp_region_held_drew (S := (fun w' => w'.cell? ⟨g, 0, none⟩ = some (.int .i64 x.ship.legs) ∧ w'.cell? ⟨g, 1, none⟩ = some (.int .i64 x.ship.souls) ∧ w'.cell? ⟨g, 11, none⟩ = some (.slice C nb cb))) (by kernel_rfl) (HCEL.out _ hbx) (fun hHeld => ?_)
        refine wpAnyH_take (i := 0) (oi := ?o_1) (v := ?v_1) ?h_1 (by kernel_rfl) (by kernel_rfl) (by kernel_rfl) ?q_1 (Or.inl ⟨?w_1, ?y_1⟩) (by assumption) ?_
        case h_1 => (simp only [List.getElem?_toArray, List.getElem?_cons_zero]; rfl)
        case q_1 => exact fun _ _ _ h => h
        case w_1 => rfl
        case y_1 => (intro w hSw; (try dsimp only at hSw); first | (go_simp; done) | (go_simp; with_reducible rfl))
        simp only [Act.put, List.setIfInBounds_toArray, List.set_cons_zero, List.set_cons_succ]
        refine wpAnyH_take (i := 1) (oi := ?o_2) (v := ?v_2) ?h_2 (by kernel_rfl) (by kernel_rfl) (by kernel_rfl) ?q_2 (Or.inl ⟨?w_2, ?y_2⟩) (by assumption) ?_
        case h_2 => (simp only [List.getElem?_toArray, List.getElem?_cons_succ, List.getElem?_cons_zero]; rfl)
        case q_2 => exact fun _ _ _ h => h
        case w_2 => rfl
        case y_2 => (intro w hSw; (try dsimp only at hSw); first | (go_simp; done) | (go_simp; with_reducible rfl))
        simp only [Act.put, List.setIfInBounds_toArray, List.set_cons_zero, List.set_cons_succ]
        refine wpAnyH_take (i := 2) (oi := ?o_3) (v := ?v_3) ?h_3 (by kernel_rfl) (by kernel_rfl) (by kernel_rfl) ?q_3 (Or.inl ⟨?w_3, ?y_3⟩) (by assumption) ?_
        case h_3 => (simp only [List.getElem?_toArray, List.getElem?_cons_succ, List.getElem?_cons_zero]; rfl)
        case q_3 => exact fun _ _ _ h => h
        case w_3 => rfl
        case y_3 => (intro w hSw; (try dsimp only at hSw); first | (go_simp; done) | (go_simp; with_reducible rfl))
        simp only [Act.put, List.setIfInBounds_toArray, List.set_cons_zero, List.set_cons_succ]
        refine wpAnyH_take (i := 3) (oi := ?o_4) (v := ?v_4) ?h_4 (by kernel_rfl) (by kernel_rfl) (by kernel_rfl) ?q_4 (Or.inl ⟨?w_4, ?y_4⟩) (by assumption) ?_
        case h_4 => (simp only [List.getElem?_toArray, List.getElem?_cons_succ, List.getElem?_cons_zero]; rfl)
        case q_4 => exact fun _ _ _ h => h
        case w_4 => rfl
        case y_4 => (intro w hSw; (try dsimp only at hSw); first | (go_simp; done) | (go_simp; with_reducible rfl))
        simp only [Act.put, List.setIfInBounds_toArray, List.set_cons_zero, List.set_cons_succ]
        refine wpAnyH_take (i := 4) (oi := ?o_5) (v := ?v_5) ?h_5 (by kernel_rfl) (by kernel_rfl) (by kernel_rfl) ?q_5 (Or.inl ⟨?w_5, ?y_5⟩) (by assumption) ?_
        case h_5 => (simp only [List.getElem?_toArray, List.getElem?_cons_succ, List.getElem?_cons_zero]; rfl)
        case q_5 => exact fun _ _ _ h => h
        case w_5 => rfl
        case y_5 => (intro w hSw; (try dsimp only at hSw); first | (go_simp; done) | (go_simp; with_reducible rfl))
        simp only [Act.put, List.setIfInBounds_toArray, List.set_cons_zero, List.set_cons_succ]
        refine wpAnyH_take (i := 7) (oi := ?o_6) (v := ?v_6) ?h_6 (by kernel_rfl) (by kernel_rfl) (by kernel_rfl) ?q_6 (Or.inl ⟨?w_6, ?y_6⟩) (by assumption) ?_
        case h_6 => (simp only [List.getElem?_toArray, List.getElem?_cons_succ, List.getElem?_cons_zero]; rfl)
        case q_6 => exact fun _ _ _ h => h
        case w_6 => rfl
        case y_6 => (intro w hSw; (try dsimp only at hSw); first | (go_simp; done) | (go_simp; with_reducible rfl))
        simp only [Act.put, List.setIfInBounds_toArray, List.set_cons_zero, List.set_cons_succ]
        refine wpAnyH_take (i := 8) (oi := ?o_7) (v := ?v_7) ?h_7 (by kernel_rfl) (by kernel_rfl) (by kernel_rfl) ?q_7 (Or.inl ⟨?w_7, ?y_7⟩) (by assumption) ?_
        case h_7 => (simp only [List.getElem?_toArray, List.getElem?_cons_succ, List.getElem?_cons_zero]; rfl)
        case q_7 => exact fun _ _ _ h => h
        case w_7 => rfl
        case y_7 => (intro w hSw; (try dsimp only at hSw); first | (go_simp; done) | (go_simp; with_reducible rfl))
        simp only [Act.put, List.setIfInBounds_toArray, List.set_cons_zero, List.set_cons_succ]
        refine wpAnyH_take (i := 9) (oi := ?o_8) (v := ?v_8) ?h_8 (by kernel_rfl) (by kernel_rfl) (by kernel_rfl) ?q_8 (Or.inl ⟨?w_8, ?y_8⟩) (by assumption) ?_
        case h_8 => (simp only [List.getElem?_toArray, List.getElem?_cons_succ, List.getElem?_cons_zero]; rfl)
        case q_8 => exact fun _ _ _ h => h
        case w_8 => rfl
        case y_8 => (intro w hSw; (try dsimp only at hSw); first | (go_simp; done) | (go_simp; with_reducible rfl))
        simp only [Act.put, List.setIfInBounds_toArray, List.set_cons_zero, List.set_cons_succ]
        refine wpAnyH_ready (rs := [5]) (by kernel_rfl) (by simp) ?_
        refine AllReadyH.cons (o := ?o_9) ?h_9 (fun K hK => ?_) AllReadyH.nil
        case h_9 => (simp only [List.getElem?_toArray, List.getElem?_cons_succ, List.getElem?_cons_zero]; rfl)
        go_simp
        (go_at_call 149; refine (HAB.out _ (HLW.out.bel hbx)).mono ?_; rintro e w3 ⟨G, rfl, hG2, hR, hb3⟩; have hown := hR.own (base := 0) (by omega) (fun y hy => by have := HSB.out y hy; exact .of (by omega) (by omega)) (by have := HSLN.out; have := HN7.out.2; omega); rw [HSLN.out] at hown; obtain ⟨A4, n4, c4, hv4, hs4⟩ := hown.sl intC_good; simp only [Value.slice.injEq] at hv4; obtain ⟨rfl, rfl, rfl⟩ := hv4; have HM4 := Lib.hid (most_any _ _ _ sl w3 (hs4.all intC_good (by omega)) (fun y hy => by have := HSB.out y hy; omega)); rw [← HMX.out] at HM4; replace hbx := hbx.trans (hb3.mono hbx.size); clear hb3 hown hs4 hR)
        go_wp2_with fail
        refine hK.out _ _ ?_ (fun hHeld => ?_)
        · exact HCEL.out _ hbx
        clear hK K
        try simp only [Act.put, List.setIfInBounds_toArray, List.set_cons_zero, List.set_cons_succ]
        refine wpAnyH_ready (rs := [6]) (by kernel_rfl) (by simp) ?_
        refine AllReadyH.cons (o := ?o_10) ?h_10 (fun K hK => ?_) AllReadyH.nil
        case h_10 => (simp only [List.getElem?_toArray, List.getElem?_cons_succ, List.getElem?_cons_zero]; rfl)
        go_simp
        (go_at_call 148; refine HM4.out.mono ?_; rintro e w4 ⟨rfl, q4, rfl⟩; replace hbx := below_drewN hbx q4)
        go_wp2_with fail
        refine hK.out _ _ ?_ (fun hHeld => ?_)
        · exact HCEL.out _ hbx
        clear hK K
        try simp only [Act.put, List.setIfInBounds_toArray, List.set_cons_zero, List.set_cons_succ]
        refine wpAnyH_take (i := 10) (oi := ?o_11) (v := ?v_11) ?h_11 (by kernel_rfl) (by kernel_rfl) (by kernel_rfl) ?q_11 (Or.inl ⟨?w_11, ?y_11⟩) (by assumption) ?_
        case h_11 => (simp only [List.getElem?_toArray, List.getElem?_cons_succ, List.getElem?_cons_zero]; rfl)
        case q_11 => exact fun _ _ _ h => h
        case w_11 => rfl
        case y_11 => (intro w hSw; (try dsimp only at hSw); first | (go_simp; done) | (go_simp; with_reducible rfl))
        simp only [Act.put, List.setIfInBounds_toArray, List.set_cons_zero, List.set_cons_succ]
        refine wpAnyH_done (by kernel_rfl) ?_ _
        go_wp2_with fail
        go_meet
        exact ⟨rfl, hbx⟩
      obtain ⟨rfl, hb1⟩ := hcut
      replace hG := hG.bel hb1
      replace hb := hb.trans (hb1.mono hb.size)
      replace hbo := hbo.trans (hb1.mono hbo.size)
      clear hb1 HCEL HLW HAB s3
      by_cases h8 : x.ship.souls < M
      · obtain rfl : r = 8 := by rw [HR3.out, if_pos h8]
        clear hG
        go_wp2_with fail
        go_ret
        exact ⟨rfl, hbo⟩
      have HR4 := Lib.hid (HR3.out.trans (if_neg h8))
      have h8' : M ≤ x.ship.souls := by omega
      have HCALL := Lib.hid (HOP.out _ (HS.out.bel hbo))
      have s0 : wc.cell? ⟨g, 0, none⟩ = some (.int .i64 x.ship.legs) := hG.cell rfl
      have s1 : wc.cell? ⟨g, 1, none⟩ = some (.int .i64 x.ship.souls) := hG.cell rfl
      have s2 : wc.cell? ⟨g, 2, none⟩ = some (.slice A n cap) := hG.cell rfl
      have s3 : wc.cell? ⟨g, 3, none⟩ = some (.slice B k cap2) := hG.cell rfl
      have s4 : wc.cell? ⟨g, 4, none⟩ = some (.slice D nd cd) := hG.cell rfl
      have s5 : wc.cell? ⟨g, 5, none⟩ = some (.int .i64 x.fares.alone) := hG.cell rfl
      have s6 : wc.cell? ⟨g, 6, none⟩ = some (.int .i64 x.fares.third) := hG.cell rfl
      have s7 : wc.cell? ⟨g, 7, none⟩ = some (.slice E ne ce) := hG.cell rfl
      have s8 : wc.cell? ⟨g, 8, none⟩ = some (.int .i64 x.fares.down) := hG.cell rfl
      have s9 : wc.cell? ⟨g, 9, none⟩ = some (.int .i64 x.day) := hG.cell rfl
      have s10 : wc.cell? ⟨g, 10, none⟩ = some (.int .i64 x.leaves) := hG.cell rfl
      have s11 : wc.cell? ⟨g, 11, none⟩ = some (.slice C nb cb) := hG.cell rfl
      have s12 : wc.cell? ⟨g, 12, none⟩ = some (.bool x.closed) := hG.cell rfl
      have HGG := Lib.hid hG
      clear hG h8
      go_wp2_with fail
      refine HCALL.out.mono ?_
      rintro e w5 ⟨v1, v2, xs1, xs2, rfl, hO1, hO2, hb5⟩
      obtain ⟨A1, n1, c1, rfl, hs1⟩ := hO1.sl intC_good
      obtain ⟨A2, n2, c2, rfl, hs2⟩ := hO2.sl edgC_good
      have hG := HGG.out.bel hb5
      have s3 : w5.cell? ⟨g, 3, none⟩ = some (.slice B k cap2) := hG.cell rfl
      have hn1 : n1 = (idsL x).length := hs1.len.symm
      have hn1' : n1 ≤ 16 := by have := ids_len x; rw [hn1]; have := HL16.out; omega
      have hgr := edgL_ok x
      rw [← hn1, HM.out] at hgr
      have hall := Size_any n1 k A2 n2 c2 (edgL x) w5 (hs2.all edgC_good (by omega)) hn1' (by omega) hgr
      obtain ⟨q, hq⟩ : ∃ q, q = allB n1 (edgL x) := ⟨_, rfl⟩
      have HR5 := Lib.hid (show r = if q = true then 0 else 9 by rw [HR4.out, hq, hn1])
      have HGR := Lib.hid hgr
      clear hgr
      have HQ := Lib.hid hq
      clear hq
      have HALL := Lib.hid hall
      clear hall
      replace hbo := hbo.trans (hb5.mono hbo.size)
      clear hb5 hO1 hO2 hs1 hs2 hn1 s0 s1 s2 s4 s5 s6 s7 s8 s9 s10 s11 s12 hG hb
      go_wp2_with fail
      refine HALL.out.mono ?_
      rintro e w6 ⟨has, no, D, rfl, hA, hb6⟩
      replace hbo := hbo.trans (hb6.mono hbo.size)
      have HQ2 := Lib.hid (show q = decide (no.length = 0) by rw [HQ.out, allB_asked hA HGR.out])
      clear hA
      by_cases h0 : no.length = 0
      · obtain rfl : r = 0 := by rw [HR5.out, HQ2.out, decide_eq_true h0]; rfl
        have h1 : (n1 : Int) - (no.length : Int) = n1 := by omega
        rw [h1]
        clear h1 h0
        go_wp2_with fail
        go_ret
        exact ⟨rfl, hbo⟩
      · obtain rfl : r = 9 := by rw [HR5.out, HQ2.out, decide_eq_false h0]; rfl
        have h1 : (n1 : Int) - (no.length : Int) < n1 := by omega
        obtain ⟨z, hz⟩ : ∃ z, z = (n1 : Int) - (no.length : Int) := ⟨_, rfl⟩
        rw [← hz] at h1
        rw [← hz]
        clear hz h0
        go_wp2_with fail
        go_ret
        exact ⟨rfl, hbo⟩
end Go.Proofs.YtlablioefblmkaaGreat
