/-
  Words, laws and contracts: StockV, StockW, StockX, StockY.
-/
import Derived.Test.YtlablioefblmkaaGreatBun17
import Derived.Test.YtlablioefblmkaaGreatBun29
import Derived.BigQuiet
set_option linter.unusedSimpArgs false
set_option linter.unusedVariables false
namespace Go.Proofs.YtlablioefblmkaaGreat
open Go.RowKit Go.Shelf
theorem namedF_of : ofE vesselX namedF = 0 := by decide
theorem promisedF_of : ofE vesselX promisedF = 0 := by decide
theorem cruise_ids : idsL cruiseX = [9] := by decide
theorem cruise_edg : edgL cruiseX = [⟨0, 0⟩, ⟨0, 2⟩] := by decide
theorem cruise_all : allB 1 [⟨0, 0⟩, ⟨0, 2⟩] = true := allB_true ⟨[(0, 0)], ⟨by decide, by decide, by decide⟩, rfl⟩
theorem table_e : fareE tableX 3 3 = 0 := by decide
theorem cruise_souls : soulL cruiseX.bks 3 = [2, 5, 5] := by decide
theorem cruise_bad : cruiseX.bks.any (badB cruiseX.closed) = false := by decide
theorem cruise_b0 : bkE1 cruiseX 0 = 0 := by unfold bkE1; rw [show cruiseX.bks.getD 0 default = namedF from rfl, show cruiseX.ship = vesselX from rfl, namedF_of]; simp
theorem cruise_b1 : bkE1 cruiseX 1 = 0 := by
  unfold bkE1
  rw [show cruiseX.bks.getD 1 default = promisedF from rfl, show cruiseX.ship = vesselX from rfl, promisedF_of, show cruiseX.bks.getD (1 - 1) default = namedF from rfl]
  decide
theorem cruise_bks : bksE cruiseX = 0 := by
  unfold bksE
  rw [if_neg (by decide), show cruiseX.bks.length = 2 from rfl, show firstE (bkE1 cruiseX) 2 = 0 from firstE_succ (firstE_succ rfl cruise_b0) cruise_b1, if_neg (by simp), cruise_bad]
  decide
theorem cruise_tak1 : takL cruiseX.bks 1 = [⟨1, 3⟩] := by
  show takL [namedF, promisedF] 1 = _
  exact (tak_of (by decide)).2
theorem cruise_tak (c : Nat) (hc : c < 3) : takB cruiseX.bks (c : Int) = true := by
  rcases c with _ | _ | _ | c
  · exact (tak_of (show spF (spL cruiseX.bks 0) = some [] by decide)).1
  · exact (tak_of (show spF (spL cruiseX.bks 1) = some [⟨1, 3⟩] by decide)).1
  · exact (tak_of (show spF (spL cruiseX.bks 2) = some [] by decide)).1
  · omega
theorem cruise_room : roomE cruiseX = 0 := by
  unfold roomE
  rw [if_neg (by
    unfold twiceB
    simp only [List.any_eq_true, not_exists, not_and, List.mem_range]
    intro c hc
    rw [cruise_tak c hc]; simp), show cruiseX.ship.legs.toNat = 3 from rfl, cruise_souls, if_neg (by decide), cruise_ids, cruise_edg, show ([9] : List Int).length = 1 from rfl, cruise_all]
  rfl
theorem cruise_e : saiE cruiseX = 0 := by
  unfold saiE
  rw [show shipE cruiseX.ship = 0 from vessel_e, if_neg (by simp), show fareE cruiseX.fares cruiseX.ship.cats.length cruiseX.ship.legs = 0 from table_e, if_neg (by simp), if_neg (by decide), cruise_bks, if_neg (by simp), cruise_room]
  rfl
theorem cruise_gaps : gapsL [⟨1, 3⟩] 3 = [⟨0, 1⟩] := by decide
theorem cruise_not {b : Bkg} (hm : vesselX.souls < mx (soulL (insS cruiseX.bks b) 3)) : (saiE (withS cruiseX b) == 0) = false := by
  have h : saiE (withS cruiseX b) ≠ 0 := by
    unfold saiE
    rw [show shipE (withS cruiseX b).ship = 0 from vessel_e, if_neg (by simp), show fareE (withS cruiseX b).fares (withS cruiseX b).ship.cats.length (withS cruiseX b).ship.legs = 0 from table_e, if_neg (by simp), if_neg (by
      show ¬ (betB cruiseX.day 0 9999 && betB cruiseX.leaves 0 9999) = false
      decide)]
    by_cases h1 : bksE (withS cruiseX b) = 0
    · rw [h1, if_neg (by simp)]
      unfold roomE
      by_cases h2 : twiceB (withS cruiseX b) = true
      · rw [if_pos h2]; decide
      · have h3 : (withS cruiseX b).ship.souls < mx (soulL (withS cruiseX b).bks (withS cruiseX b).ship.legs.toNat) := hm
        rw [if_neg h2, if_pos h3]; decide
    · rw [if_pos h1]; exact h1
  simpa using h
def lateX (g : Int) : Bkg := ⟨10, 2, 1, g, false, -1, 0, 0, 3, 4, []⟩
theorem late_e {g : Int} (h : ofE vesselX (lateX g) = 0) : couldE cruiseX (lateX g) = 0 := by
  unfold couldE
  rw [cruise_e, if_neg (by simp), show ofE cruiseX.ship (lateX g) = 0 from h, if_neg (by simp), if_neg (by
    show ¬ hasId [namedF, promisedF] 10 = true
    decide)]
theorem late_b {g : Int} (h : ofE vesselX (lateX g) = 0) (hm : vesselX.souls < mx (soulL (insS cruiseX.bks (lateX g)) 3)) : couldB cruiseX (lateX g) = false := by
  unfold couldB
  rw [late_e h, if_neg (by simp), cruise_not hm]
theorem late2 : couldE cruiseX (lateX 2) = 0 ∧ couldB cruiseX (lateX 2) = false := ⟨late_e (by decide), late_b (by decide) (by decide)⟩
theorem late4 : couldE cruiseX (lateX 4) = 0 ∧ couldB cruiseX (lateX 4) = false := ⟨late_e (by decide), late_b (by decide) (by decide)⟩
theorem lateX_in {g : Int} (h : InI g) : BkIn (lateX g) := ⟨.of (by show _ ≤ (10 : Int); decide) (by show (10 : Int) ≤ _; decide), .of (by show _ ≤ (2 : Int); decide) (by show (2 : Int) ≤ _; decide), .of (by show _ ≤ (1 : Int); decide) (by show (1 : Int) ≤ _; decide), h, .of (by show _ ≤ (-1 : Int); decide) (by show (-1 : Int) ≤ _; decide), .of (by show _ ≤ (0 : Int); decide) (by show (0 : Int) ≤ _; decide), .of (by show _ ≤ (0 : Int); decide) (by show (0 : Int) ≤ _; decide), .of (by show _ ≤ (3 : Int); decide) (by show (3 : Int) ≤ _; decide), .of (by show _ ≤ (4 : Int); decide) (by show (4 : Int) ≤ _; decide)⟩
theorem cruise_free : freeE cruiseX 1 = 0 := by
  unfold freeE
  rw [cruise_e, if_neg (by simp), if_neg (by decide)]
set_option maxRecDepth 100000 in
set_option maxHeartbeats 8000000 in
theorem stockBegun_any (w : World) : Calls Tryz.prog 12 #[] w fun e w' => e = .returned (.bool true) ∧ Below w.heap.size w w' := by
  have hPR := fun p W h => Promises_any cruiseX p W h
  have hFR := fun p W h => stockFree_any cruiseX p 1 W h
  have hC2 := fun p W h => Could_any cruiseX p (lateX 2) none 0 0 W h (Sl.nil _ _ _ _) (lateX_in (.of (by decide) (by decide)))
  have hC4 := fun p W h => Could_any cruiseX p (lateX 4) none 0 0 W h (Sl.nil _ _ _ _) (lateX_in (.of (by decide) (by decide)))
  have hCK := fun p W h => saiCheck_any cruiseX p W h
  simp only [cruise_e, okL_zero, cruise_ids, cruise_edg] at hPR
  simp only [cruise_free, okL_zero, show takL cruiseX.bks 1 = [⟨1, 3⟩] from cruise_tak1, show gapsL [⟨1, 3⟩] cruiseX.ship.legs = [⟨0, 1⟩] from cruise_gaps] at hFR
  rw [late2.1, late2.2] at hC2
  rw [late4.1, late4.2] at hC4
  rw [cruise_e] at hCK
  have HPR := Lib.hid hPR
  clear hPR
  have HFR := Lib.hid hFR
  clear hFR
  have HC2 := Lib.hid hC2
  clear hC2
  have HC4 := Lib.hid hC4
  clear hC4
  have HCK := Lib.hid hCK
  clear hCK
  go_enter Tryz.func12, Tryz.ntmps12
  go_wp2_with fail
  refine (cruise_any _).mono ?_
  rintro e w1 ⟨p1, rfl, hS, hb⟩
  go_wp2_with fail
  refine (HPR.out p1 _ hS).mono ?_
  rintro e w2 ⟨v1, v2, xs1, xs2, rfl, hO1, hO2, hb2⟩
  obtain ⟨A1, n1, c1, rfl, _⟩ := hO1.sl intC_good
  obtain ⟨A2, n2, c2, rfl, _⟩ := hO2.sl edgC_good
  replace hb := hb.trans (hb2.mono hb.size)
  clear hb2 hS
  go_wp2_with fail
  refine (cruise_any _).mono ?_
  rintro e w3 ⟨p3, rfl, hS, hb2⟩
  replace hO1 := hO1.bel hb2
  replace hO2 := hO2.bel hb2
  replace hb := hb.trans (hb2.mono hb.size)
  clear hb2
  go_wp2_with fail
  refine (HFR.out p3 _ hS).mono ?_
  rintro e w4 ⟨v3, xs3, rfl, hO3, hb2⟩
  obtain ⟨A3, n3, c3, rfl, _⟩ := hO3.sl spanC_good
  replace hO1 := hO1.bel hb2
  replace hO2 := hO2.bel hb2
  replace hb := hb.trans (hb2.mono hb.size)
  clear hb2 hS
  go_wp2_with fail
  refine (promisedL_any _).mono ?_
  rintro e w5 ⟨rfl, hb2⟩
  replace hO1 := hO1.bel hb2
  replace hO2 := hO2.bel hb2
  replace hO3 := hO3.bel hb2
  replace hb := hb.trans (hb2.mono hb.size)
  clear hb2
  go_upto_region 4 with (fail)
  go_cut [6] (fun p wx => ∃ h, p = .pointer (some ⟨h, 0, none⟩) ∧ w5.heap.size ≤ h ∧ Blk wx h #[.int .i64 10, .int .i64 2, .int .i64 1, .int .i64 2, .bool false, .int .i64 (-1), .int .i64 0, .int .i64 0, .int .i64 3, .int .i64 4, .slice none 0 0] 42 ∧ Below w5.heap.size w5 wx)
  case first => as_aux_lemma =>
    go_wp2_with fail
    go_meet
    exact ⟨_, rfl, Nat.le_refl _, blk1 _ _, bel1 _ _⟩
  obtain ⟨h, rfl, hh, hH, hb2⟩ := hcut
  have hn1 := fun k hk => (hO1.lt k hk).2
  have hn2 := fun k hk => (hO2.lt k hk).2
  have hn3 := fun k hk => (hO3.lt k hk).2
  replace hO1 := hO1.bel hb2
  replace hO2 := hO2.bel hb2
  replace hO3 := hO3.bel hb2
  have hwh := hb.size
  replace hb := hb.trans (hb2.mono hb.size)
  clear hb2
  have HN := Lib.hid (show (Value.slice A1 n1 c1).ownBlock ≠ some h ∧ (Value.slice A2 n2 c2).ownBlock ≠ some h ∧ (Value.slice A3 n3 c3).ownBlock ≠ some h from ⟨fun e => by have := hn1 h e; omega, fun e => by have := hn2 h e; omega, fun e => by have := hn3 h e; omega⟩)
  clear hn1 hn2 hn3
  obtain ⟨W6, hW6⟩ : ∃ V, V = wc := ⟨_, rfl⟩
  subst hW6
  have HSH := Lib.hid (show ∀ X, Below W6.heap.size W6 X → (fun w' => w'.cell? ⟨h, 0, none⟩ = some (.int .i64 10) ∧ w'.cell? ⟨h, 1, none⟩ = some (.int .i64 2) ∧ w'.cell? ⟨h, 2, none⟩ = some (.int .i64 1) ∧ w'.cell? ⟨h, 3, none⟩ = some (.int .i64 2) ∧ w'.cell? ⟨h, 4, none⟩ = some (.bool false) ∧ w'.cell? ⟨h, 5, none⟩ = some (.int .i64 (-1)) ∧ w'.cell? ⟨h, 6, none⟩ = some (.int .i64 0) ∧ w'.cell? ⟨h, 7, none⟩ = some (.int .i64 0) ∧ w'.cell? ⟨h, 8, none⟩ = some (.int .i64 3) ∧ w'.cell? ⟨h, 9, none⟩ = some (.int .i64 4) ∧ w'.cell? ⟨h, 10, none⟩ = some (.slice none 0 0)) X from fun X hX => ⟨(hH.bel hX).cell rfl, (hH.bel hX).cell rfl, (hH.bel hX).cell rfl, (hH.bel hX).cell rfl, (hH.bel hX).cell rfl, (hH.bel hX).cell rfl, (hH.bel hX).cell rfl, (hH.bel hX).cell rfl, (hH.bel hX).cell rfl, (hH.bel hX).cell rfl, (hH.bel hX).cell rfl⟩)
  have HO1 := Lib.hid hO1
  clear hO1
  have HO2 := Lib.hid hO2
  clear hO2
  have HO3 := Lib.hid hO3
  clear hO3
  have HB := Lib.hid hb
  clear hb
  have HH := Lib.hid hH
  clear hH
  have hbx : Below W6.heap.size W6 W6.drew := (Below.refl _ W6).drew
  go_upto_region 5 with (fail)
  refine wp_region_held_drew (S := (fun w' => w'.cell? ⟨h, 0, none⟩ = some (.int .i64 10) ∧ w'.cell? ⟨h, 1, none⟩ = some (.int .i64 2) ∧ w'.cell? ⟨h, 2, none⟩ = some (.int .i64 1) ∧ w'.cell? ⟨h, 3, none⟩ = some (.int .i64 2) ∧ w'.cell? ⟨h, 4, none⟩ = some (.bool false) ∧ w'.cell? ⟨h, 5, none⟩ = some (.int .i64 (-1)) ∧ w'.cell? ⟨h, 6, none⟩ = some (.int .i64 0) ∧ w'.cell? ⟨h, 7, none⟩ = some (.int .i64 0) ∧ w'.cell? ⟨h, 8, none⟩ = some (.int .i64 3) ∧ w'.cell? ⟨h, 9, none⟩ = some (.int .i64 4) ∧ w'.cell? ⟨h, 10, none⟩ = some (.slice none 0 0))) (by kernel_rfl) (HSH.out _ hbx) (fun hHeld => ?_)
  refine wpAnyH_take (i := 1) (oi := ?o_1) (v := ?v_1) ?h_1 (by kernel_rfl) (by kernel_rfl) (by kernel_rfl) ?q_1 (Or.inl ⟨?w_1, ?y_1⟩) (by assumption) ?_
  case h_1 => (simp only [List.getElem?_toArray, List.getElem?_cons_succ, List.getElem?_cons_zero]; rfl)
  case q_1 => exact fun _ _ _ h => h
  case w_1 => rfl
  case y_1 => (intro w hSw; (try dsimp only at hSw); first | (go_simp; done) | (go_simp; with_reducible rfl))
  simp only [Act.put, List.setIfInBounds_toArray, List.set_cons_zero, List.set_cons_succ]
  refine wpAnyH_ready (rs := [0]) (by kernel_rfl) (by simp) ?_
  refine AllReadyH.cons (o := ?o_2) ?h_2 (fun K hK => ?_) AllReadyH.nil
  case h_2 => (simp only [List.getElem?_toArray, List.getElem?_cons_zero]; rfl)
  go_simp
  (go_at_call 54; refine (cruise_any _).mono ?_; rintro e w7 ⟨p7, rfl, hS, hb2⟩; replace hbx := hbx.trans (hb2.mono hbx.size); clear hb2)
  go_wp2_with fail
  refine hK.out _ _ ?_ (fun hHeld => ?_)
  · exact HSH.out _ hbx
  clear hK K
  try simp only [Act.put, List.setIfInBounds_toArray, List.set_cons_zero, List.set_cons_succ]
  refine wpAnyH_ready (rs := [2]) (by kernel_rfl) (by simp) ?_
  refine AllReadyH.cons (o := ?o_3) ?h_3 (fun K hK => ?_) AllReadyH.nil
  case h_3 => (simp only [List.getElem?_toArray, List.getElem?_cons_succ, List.getElem?_cons_zero]; rfl)
  go_simp
  (go_at_call 14; refine (HC2.out p7 _ hS).mono ?_; rintro e w8 ⟨rfl, hb2⟩; replace hbx := hbx.trans (hb2.mono hbx.size); clear hb2 hS)
  go_wp2_with fail
  refine hK.out _ _ ?_ (fun hHeld => ?_)
  · exact HSH.out _ hbx
  clear hK K
  try simp only [Act.put, List.setIfInBounds_toArray, List.set_cons_zero, List.set_cons_succ]
  refine wpAnyH_take (i := 3) (oi := ?o_4) (v := ?v_4) ?h_4 (by kernel_rfl) (by kernel_rfl) (by kernel_rfl) ?q_4 (Or.inl ⟨?w_4, ?y_4⟩) (by assumption) ?_
  case h_4 => (simp only [List.getElem?_toArray, List.getElem?_cons_succ, List.getElem?_cons_zero]; rfl)
  case q_4 => exact fun _ _ _ h => h
  case w_4 => rfl
  case y_4 => (intro w hSw; (try dsimp only at hSw); first | (go_simp; done) | (go_simp; with_reducible rfl))
  simp only [Act.put, List.setIfInBounds_toArray, List.set_cons_zero, List.set_cons_succ]
  refine wpAnyH_take (i := 4) (oi := ?o_5) (v := ?v_5) ?h_5 (by kernel_rfl) (by kernel_rfl) (by kernel_rfl) ?q_5 (Or.inl ⟨?w_5, ?y_5⟩) (by assumption) ?_
  case h_5 => (simp only [List.getElem?_toArray, List.getElem?_cons_succ, List.getElem?_cons_zero]; rfl)
  case q_5 => exact fun _ _ _ h => h
  case w_5 => rfl
  case y_5 => (intro w hSw; (try dsimp only at hSw); first | (go_simp; done) | (go_simp; with_reducible rfl))
  simp only [Act.put, List.setIfInBounds_toArray, List.set_cons_zero, List.set_cons_succ]
  refine wpAnyH_take (i := 5) (oi := ?o_6) (v := ?v_6) ?h_6 (by kernel_rfl) (by kernel_rfl) (by kernel_rfl) ?q_6 (Or.inl ⟨?w_6, ?y_6⟩) (by assumption) ?_
  case h_6 => (simp only [List.getElem?_toArray, List.getElem?_cons_succ, List.getElem?_cons_zero]; rfl)
  case q_6 => exact fun _ _ _ h => h
  case w_6 => rfl
  case y_6 => (intro w hSw; (try dsimp only at hSw); first | (go_simp; done) | (go_simp; with_reducible rfl))
  simp only [Act.put, List.setIfInBounds_toArray, List.set_cons_zero, List.set_cons_succ]
  refine wpAnyH_take (i := 6) (oi := ?o_7) (v := ?v_7) ?h_7 (by kernel_rfl) (by kernel_rfl) (by kernel_rfl) ?q_7 (Or.inl ⟨?w_7, ?y_7⟩) (by assumption) ?_
  case h_7 => (simp only [List.getElem?_toArray, List.getElem?_cons_succ, List.getElem?_cons_zero]; rfl)
  case q_7 => exact fun _ _ _ h => h
  case w_7 => rfl
  case y_7 => (intro w hSw; (try dsimp only at hSw); first | (go_simp; done) | (go_simp; with_reducible rfl))
  simp only [Act.put, List.setIfInBounds_toArray, List.set_cons_zero, List.set_cons_succ]
  refine wpAnyH_take (i := 7) (oi := ?o_8) (v := ?v_8) ?h_8 (by kernel_rfl) (by kernel_rfl) (by kernel_rfl) ?q_8 (Or.inl ⟨?w_8, ?y_8⟩) (by assumption) ?_
  case h_8 => (simp only [List.getElem?_toArray, List.getElem?_cons_succ, List.getElem?_cons_zero]; rfl)
  case q_8 => exact fun _ _ _ h => h
  case w_8 => rfl
  case y_8 => (intro w hSw; (try dsimp only at hSw); first | (go_simp; done) | (go_simp; with_reducible rfl))
  simp only [Act.put, List.setIfInBounds_toArray, List.set_cons_zero, List.set_cons_succ]
  refine wpAnyH_done (by kernel_rfl) ?_ _
  have hH := HH.out.bel hbx
  have hO1 := HO1.out.bel hbx
  have hO2 := HO2.out.bel hbx
  have hO3 := HO3.out.bel hbx
  have hb := HB.out.trans (hbx.mono HB.out.size)
  clear HO1 HO2 HO3 HB HH HSH hbx hHeld
  have f3 := hH.free 3
  have h3 : w8.cell? ⟨h, 3, none⟩ = some (.int .i64 2) := hH.cell rfl
  go_upto_region 6 with (fail)
  go_cut [6] (fun p wx => p = .pointer (some ⟨h, 0, none⟩) ∧ wx = w8.setCell ⟨h, 3, none⟩ (.int .i64 4))
  case first => as_aux_lemma =>
    go_wp2_with fail
    go_meet
    exact ⟨rfl, rfl⟩
  obtain ⟨rfl, rfl⟩ := hcut
  have p1 := own_setCell_flat intC_flat hO1 (a := ⟨h, 3, none⟩) HN.out.1 (.int .i64 4)
  have p2 := own_setCell_flat edgC_flat hO2 (a := ⟨h, 3, none⟩) HN.out.2.1 (.int .i64 4)
  have p3 := own_setCell_flat spanC_flat hO3 (a := ⟨h, 3, none⟩) HN.out.2.2 (.int .i64 4)
  have p4 : Blk (w8.setCell ⟨h, 3, none⟩ (.int .i64 4)) h #[.int .i64 10, .int .i64 2, .int .i64 1, .int .i64 4, .bool false, .int .i64 (-1), .int .i64 0, .int .i64 0, .int .i64 3, .int .i64 4, .slice none 0 0] 42 := hH.set (j := 3) (.int .i64 4)
  have p5 := hb.trans (((Kept.refl (fun k => k = h) w8).setCell (p := ⟨h, 3, none⟩) (.inl rfl) (.int .i64 4)).below (B := w.heap.size) hb.size (fun k hk e => by omega))
  clear f3 h3 hH hO1 hO2 hO3 hb
  obtain ⟨W9, hW9⟩ : ∃ V, V = w8.setCell ⟨h, 3, none⟩ (.int .i64 4) := ⟨_, rfl⟩
  rw [← hW9] at p1 p2 p3 p4 p5 ⊢
  clear hW9
  have HSH := Lib.hid (show ∀ X, Below W9.heap.size W9 X → (fun w' => w'.cell? ⟨h, 0, none⟩ = some (.int .i64 10) ∧ w'.cell? ⟨h, 1, none⟩ = some (.int .i64 2) ∧ w'.cell? ⟨h, 2, none⟩ = some (.int .i64 1) ∧ w'.cell? ⟨h, 3, none⟩ = some (.int .i64 4) ∧ w'.cell? ⟨h, 4, none⟩ = some (.bool false) ∧ w'.cell? ⟨h, 5, none⟩ = some (.int .i64 (-1)) ∧ w'.cell? ⟨h, 6, none⟩ = some (.int .i64 0) ∧ w'.cell? ⟨h, 7, none⟩ = some (.int .i64 0) ∧ w'.cell? ⟨h, 8, none⟩ = some (.int .i64 3) ∧ w'.cell? ⟨h, 9, none⟩ = some (.int .i64 4) ∧ w'.cell? ⟨h, 10, none⟩ = some (.slice none 0 0)) X from fun X hX => ⟨(p4.bel hX).cell rfl, (p4.bel hX).cell rfl, (p4.bel hX).cell rfl, (p4.bel hX).cell rfl, (p4.bel hX).cell rfl, (p4.bel hX).cell rfl, (p4.bel hX).cell rfl, (p4.bel hX).cell rfl, (p4.bel hX).cell rfl, (p4.bel hX).cell rfl, (p4.bel hX).cell rfl⟩)
  have HO1 := Lib.hid p1
  clear p1
  have HO2 := Lib.hid p2
  clear p2
  have HO3 := Lib.hid p3
  clear p3
  have HB := Lib.hid p5
  clear p5
  clear p4
  have hbx : Below W9.heap.size W9 W9.drew := (Below.refl _ W9).drew
  go_upto_region 7 with (fail)
  refine wp_region_held_drew (S := (fun w' => w'.cell? ⟨h, 0, none⟩ = some (.int .i64 10) ∧ w'.cell? ⟨h, 1, none⟩ = some (.int .i64 2) ∧ w'.cell? ⟨h, 2, none⟩ = some (.int .i64 1) ∧ w'.cell? ⟨h, 3, none⟩ = some (.int .i64 4) ∧ w'.cell? ⟨h, 4, none⟩ = some (.bool false) ∧ w'.cell? ⟨h, 5, none⟩ = some (.int .i64 (-1)) ∧ w'.cell? ⟨h, 6, none⟩ = some (.int .i64 0) ∧ w'.cell? ⟨h, 7, none⟩ = some (.int .i64 0) ∧ w'.cell? ⟨h, 8, none⟩ = some (.int .i64 3) ∧ w'.cell? ⟨h, 9, none⟩ = some (.int .i64 4) ∧ w'.cell? ⟨h, 10, none⟩ = some (.slice none 0 0))) (by kernel_rfl) (HSH.out _ hbx) (fun hHeld => ?_)
  refine wpAnyH_take (i := 1) (oi := ?o_9) (v := ?v_9) ?h_9 (by kernel_rfl) (by kernel_rfl) (by kernel_rfl) ?q_9 (Or.inl ⟨?w_9, ?y_9⟩) (by assumption) ?_
  case h_9 => (simp only [List.getElem?_toArray, List.getElem?_cons_succ, List.getElem?_cons_zero]; rfl)
  case q_9 => exact fun _ _ _ h => h
  case w_9 => rfl
  case y_9 => (intro w hSw; (try dsimp only at hSw); first | (go_simp; done) | (go_simp; with_reducible rfl))
  simp only [Act.put, List.setIfInBounds_toArray, List.set_cons_zero, List.set_cons_succ]
  refine wpAnyH_ready (rs := [0]) (by kernel_rfl) (by simp) ?_
  refine AllReadyH.cons (o := ?o_10) ?h_10 (fun K hK => ?_) AllReadyH.nil
  case h_10 => (simp only [List.getElem?_toArray, List.getElem?_cons_zero]; rfl)
  go_simp
  (go_at_call 54; refine (cruise_any _).mono ?_; rintro e w10 ⟨p10, rfl, hS, hb2⟩; replace hbx := hbx.trans (hb2.mono hbx.size); clear hb2)
  go_wp2_with fail
  refine hK.out _ _ ?_ (fun hHeld => ?_)
  · exact HSH.out _ hbx
  clear hK K
  try simp only [Act.put, List.setIfInBounds_toArray, List.set_cons_zero, List.set_cons_succ]
  refine wpAnyH_ready (rs := [2]) (by kernel_rfl) (by simp) ?_
  refine AllReadyH.cons (o := ?o_11) ?h_11 (fun K hK => ?_) AllReadyH.nil
  case h_11 => (simp only [List.getElem?_toArray, List.getElem?_cons_succ, List.getElem?_cons_zero]; rfl)
  go_simp
  (go_at_call 14; refine (HC4.out p10 _ hS).mono ?_; rintro e w11 ⟨rfl, hb2⟩; replace hbx := hbx.trans (hb2.mono hbx.size); clear hb2 hS)
  go_wp2_with fail
  refine hK.out _ _ ?_ (fun hHeld => ?_)
  · exact HSH.out _ hbx
  clear hK K
  try simp only [Act.put, List.setIfInBounds_toArray, List.set_cons_zero, List.set_cons_succ]
  refine wpAnyH_take (i := 3) (oi := ?o_12) (v := ?v_12) ?h_12 (by kernel_rfl) (by kernel_rfl) (by kernel_rfl) ?q_12 (Or.inl ⟨?w_12, ?y_12⟩) (by assumption) ?_
  case h_12 => (simp only [List.getElem?_toArray, List.getElem?_cons_succ, List.getElem?_cons_zero]; rfl)
  case q_12 => exact fun _ _ _ h => h
  case w_12 => rfl
  case y_12 => (intro w hSw; (try dsimp only at hSw); first | (go_simp; done) | (go_simp; with_reducible rfl))
  simp only [Act.put, List.setIfInBounds_toArray, List.set_cons_zero, List.set_cons_succ]
  refine wpAnyH_take (i := 4) (oi := ?o_13) (v := ?v_13) ?h_13 (by kernel_rfl) (by kernel_rfl) (by kernel_rfl) ?q_13 (Or.inl ⟨?w_13, ?y_13⟩) (by assumption) ?_
  case h_13 => (simp only [List.getElem?_toArray, List.getElem?_cons_succ, List.getElem?_cons_zero]; rfl)
  case q_13 => exact fun _ _ _ h => h
  case w_13 => rfl
  case y_13 => (intro w hSw; (try dsimp only at hSw); first | (go_simp; done) | (go_simp; with_reducible rfl))
  simp only [Act.put, List.setIfInBounds_toArray, List.set_cons_zero, List.set_cons_succ]
  refine wpAnyH_take (i := 5) (oi := ?o_14) (v := ?v_14) ?h_14 (by kernel_rfl) (by kernel_rfl) (by kernel_rfl) ?q_14 (Or.inl ⟨?w_14, ?y_14⟩) (by assumption) ?_
  case h_14 => (simp only [List.getElem?_toArray, List.getElem?_cons_succ, List.getElem?_cons_zero]; rfl)
  case q_14 => exact fun _ _ _ h => h
  case w_14 => rfl
  case y_14 => (intro w hSw; (try dsimp only at hSw); first | (go_simp; done) | (go_simp; with_reducible rfl))
  simp only [Act.put, List.setIfInBounds_toArray, List.set_cons_zero, List.set_cons_succ]
  refine wpAnyH_take (i := 6) (oi := ?o_15) (v := ?v_15) ?h_15 (by kernel_rfl) (by kernel_rfl) (by kernel_rfl) ?q_15 (Or.inl ⟨?w_15, ?y_15⟩) (by assumption) ?_
  case h_15 => (simp only [List.getElem?_toArray, List.getElem?_cons_succ, List.getElem?_cons_zero]; rfl)
  case q_15 => exact fun _ _ _ h => h
  case w_15 => rfl
  case y_15 => (intro w hSw; (try dsimp only at hSw); first | (go_simp; done) | (go_simp; with_reducible rfl))
  simp only [Act.put, List.setIfInBounds_toArray, List.set_cons_zero, List.set_cons_succ]
  refine wpAnyH_take (i := 7) (oi := ?o_16) (v := ?v_16) ?h_16 (by kernel_rfl) (by kernel_rfl) (by kernel_rfl) ?q_16 (Or.inl ⟨?w_16, ?y_16⟩) (by assumption) ?_
  case h_16 => (simp only [List.getElem?_toArray, List.getElem?_cons_succ, List.getElem?_cons_zero]; rfl)
  case q_16 => exact fun _ _ _ h => h
  case w_16 => rfl
  case y_16 => (intro w hSw; (try dsimp only at hSw); first | (go_simp; done) | (go_simp; with_reducible rfl))
  simp only [Act.put, List.setIfInBounds_toArray, List.set_cons_zero, List.set_cons_succ]
  refine wpAnyH_done (by kernel_rfl) ?_ _
  have hs1 := HO1.out.bel hbx
  have hs2 := HO2.out.bel hbx
  have hs3 := HO3.out.bel hbx
  have hb := HB.out.trans (hbx.mono HB.out.size)
  clear HO1 HO2 HO3 HB HSH hbx hHeld
  obtain ⟨_, _, _, hv, hs1⟩ := hs1.sl intC_good
  simp only [Value.slice.injEq] at hv
  obtain ⟨rfl, rfl, rfl⟩ := hv
  obtain ⟨_, _, _, hv, hs2⟩ := hs2.sl edgC_good
  simp only [Value.slice.injEq] at hv
  obtain ⟨rfl, rfl, rfl⟩ := hv
  obtain ⟨_, _, _, hv, hs3⟩ := hs3.sl spanC_good
  simp only [Value.slice.injEq] at hv
  obtain ⟨rfl, rfl, rfl⟩ := hv
  replace hs1 := hs1.all intC_good (by omega)
  replace hs2 := hs2.all edgC_good (by omega)
  replace hs3 := hs3.all spanC_good (by omega)
  go_wp2_with fail
  refine (cruise_any _).mono ?_
  rintro e w12 ⟨p12, rfl, hS, hb2⟩
  replace hs1 := hs1.bel hb2
  replace hs2 := hs2.bel hb2
  replace hs3 := hs3.bel hb2
  replace hb := hb.trans (hb2.mono hb.size)
  clear hb2
  go_wp2_with fail
  refine (HCK.out p12 _ hS).mono ?_
  rintro e w13 ⟨rfl, hb2⟩
  replace hs1 := hs1.bel hb2
  replace hs2 := hs2.bel hb2
  replace hs3 := hs3.bel hb2
  replace hb := hb.trans (hb2.mono hb.size)
  clear hb2 hS
  go_wp2_with fail
  have q1 : Sl intC 1 (w13.alloc (.cells #[.int .i64 9] 3)) All (some ⟨w13.heap.size, 0, none⟩) 1 1 [9] := Sl.ofInts [9] (Blk.new w13 _ _) (by decide) trivial (by decide)
  replace hs1 := hs1.bel (bel1 w13 (.cells #[.int .i64 9] 3))
  replace hs2 := hs2.bel (bel1 w13 (.cells #[.int .i64 9] 3))
  replace hs3 := hs3.bel (bel1 w13 (.cells #[.int .i64 9] 3))
  replace hb := hb.alloc hb.size (.cells #[.int .i64 9] 3)
  refine (SameInts_any _ _ _ _ _ _ [9] [9] _ hs1 q1).mono ?_
  rintro e w14 ⟨rfl, k, hk⟩
  have hb2 : Below (w13.alloc (.cells #[.int .i64 9] 3)).heap.size (w13.alloc (.cells #[.int .i64 9] 3)) w14 := by rw [hk]; exact below_drewN (Below.refl _ _) _
  replace hs2 := hs2.bel hb2
  replace hs3 := hs3.bel hb2
  replace hb := hb.trans (hb2.mono hb.size)
  clear hb2 q1 hs1 hk
  have hd1 : decide (([9] : List Int) = [9]) = true := by decide
  go_wp2_with fail
  have q1 : Sl edgC 2 (w14.alloc (.cells #[.int .i64 0, .int .i64 0, .int .i64 0, .int .i64 2] 95)) All (some ⟨w14.heap.size, 0, none⟩) 2 2 [⟨0, 0⟩, ⟨0, 2⟩] := Sl.ofEdgs [⟨0, 0⟩, ⟨0, 2⟩] (Blk.new w14 _ _) (by decide) trivial rfl (fun x hx => by simp only [List.mem_cons, List.not_mem_nil, or_false] at hx; rcases hx with rfl | rfl <;> exact ⟨.of (by decide) (by decide), .of (by decide) (by decide)⟩)
  replace hs2 := hs2.bel (bel1 w14 (.cells #[.int .i64 0, .int .i64 0, .int .i64 0, .int .i64 2] 95))
  replace hs3 := hs3.bel (bel1 w14 (.cells #[.int .i64 0, .int .i64 0, .int .i64 0, .int .i64 2] 95))
  replace hb := hb.alloc hb.size (.cells #[.int .i64 0, .int .i64 0, .int .i64 0, .int .i64 2] 95)
  refine (SameEdges_any _ _ _ _ _ _ [⟨0, 0⟩, ⟨0, 2⟩] [⟨0, 0⟩, ⟨0, 2⟩] _ hs2 q1).mono ?_
  rintro e w15 ⟨rfl, k, hk⟩
  have hb2 : Below (w14.alloc (.cells #[.int .i64 0, .int .i64 0, .int .i64 0, .int .i64 2] 95)).heap.size (w14.alloc (.cells #[.int .i64 0, .int .i64 0, .int .i64 0, .int .i64 2] 95)) w15 := by rw [hk]; exact below_drewN (Below.refl _ _) _
  replace hs3 := hs3.bel hb2
  replace hb := hb.trans (hb2.mono hb.size)
  clear hb2 q1 hs2 hk
  have hd2 : decide (([⟨0, 0⟩, ⟨0, 2⟩] : List Edg) = [⟨0, 0⟩, ⟨0, 2⟩]) = true := by decide
  go_wp2_with fail
  have q1 : Sl spanC 2 (w15.alloc (.cells #[.int .i64 0, .int .i64 1] 39)) All (some ⟨w15.heap.size, 0, none⟩) 1 1 [⟨0, 1⟩] := Sl.ofSpans [⟨0, 1⟩] (Blk.new w15 _ _) (by decide) trivial rfl (fun x hx => by simp only [List.mem_singleton] at hx; subst hx; exact ⟨.of (by decide) (by decide), .of (by decide) (by decide)⟩)
  replace hs3 := hs3.bel (bel1 w15 (.cells #[.int .i64 0, .int .i64 1] 39))
  replace hb := hb.alloc hb.size (.cells #[.int .i64 0, .int .i64 1] 39)
  refine (SameSpans_any _ _ _ _ _ _ [⟨0, 1⟩] [⟨0, 1⟩] _ hs3 q1).mono ?_
  rintro e w16 ⟨rfl, k, hk⟩
  have hb2 : Below (w15.alloc (.cells #[.int .i64 0, .int .i64 1] 39)).heap.size (w15.alloc (.cells #[.int .i64 0, .int .i64 1] 39)) w16 := by rw [hk]; exact below_drewN (Below.refl _ _) _
  replace hb := hb.trans (hb2.mono hb.size)
  clear hb2 q1 hs3 hk
  have hd3 : decide (([⟨0, 1⟩] : List Span) = [⟨0, 1⟩]) = true := by decide
  go_wp2_with fail
  go_ret
  exact ⟨rfl, hb⟩
end Go.Proofs.YtlablioefblmkaaGreat
namespace Go.Proofs.YtlablioefblmkaaGreat
open Go.RowKit Go.Shelf
theorem room_ok {x : Sai} (h : roomE x = 0) : twiceB x = false ∧ ¬ x.ship.souls < mx (soulL x.bks x.ship.legs.toNat) ∧ allB (idsL x).length (edgL x) = true := by
  unfold roomE at h
  by_cases h1 : twiceB x = true
  · rw [if_pos h1] at h; omega
  rw [if_neg h1] at h
  by_cases h2 : x.ship.souls < mx (soulL x.bks x.ship.legs.toNat)
  · rw [if_pos h2] at h; omega
  rw [if_neg h2] at h
  by_cases h3 : allB (idsL x).length (edgL x) = true
  · exact ⟨Bool.eq_false_iff.2 h1, h2, h3⟩
  · rw [if_neg h3] at h; omega
theorem edgF_from (x : Sai) : ∀ (l : List Bkg) (i : Nat), ∀ e ∈ edgF x l i, (i : Int) ≤ e.lft
  | [], _, e, he => by simp [edgF] at he
  | b :: l, i, e, he => by
    simp only [edgF, List.mem_append, List.mem_map] at he
    rcases he with ⟨c, _, rfl⟩ | he
    · exact Int.le_refl _
    · have := edgF_from x l (i + 1) e he; omega
theorem mayL_nodup (x : Sai) (b : Bkg) : (mayL x b).Nodup := by
  unfold mayL
  exact List.pairwise_map.2 ((List.Pairwise.filter _ List.nodup_range).imp fun h e => h (Int.ofNat.inj e))
theorem edgF_nodup (x : Sai) : ∀ (l : List Bkg) (i : Nat), (edgF x l i).Nodup
  | [], _ => by simp [edgF]
  | b :: l, i => by
    simp only [edgF]
    refine List.nodup_append.2 ⟨List.pairwise_map.2 ((mayL_nodup x b).imp fun h e => h (by simpa using e)), edgF_nodup x l (i + 1), fun e he e' he' => ?_⟩
    rintro rfl
    obtain ⟨c, _, rfl⟩ := List.mem_map.1 he
    have := edgF_from x l (i + 1) _ he'
    simp only at this
    omega
theorem edgL_gr {x : Sai} (hn : (idsL x).length ≤ 16) (hm : x.ship.cabs.length ≤ 16) : grE (idsL x).length x.ship.cabs.length (edgL x) = 0 := by
  unfold grE
  rw [if_neg (by unfold sidesB; rw [betB_true (by omega) (by omega), betB_true (by omega) (by omega)]; simp)]
  refine firstE_none fun i hi => ?_
  have hx : (edgL x)[i]? = some ((edgL x)[i]) := List.getElem?_eq_getElem hi
  obtain ⟨h1, h2, h3, h4⟩ := edgL_ok x _ (List.getElem_mem hi)
  rw [edgE_at hx, if_neg (by unfold inE; rw [betB_true (by omega) (by omega), betB_true (by omega) (by omega)]; simp), if_neg (by
    intro hc
    have hc := List.contains_iff_mem.1 hc
    obtain ⟨j, hj, e⟩ := List.getElem_of_mem hc
    rw [List.getElem_take] at e
    have hjl : j < i := by rw [List.length_take] at hj; omega
    exact (List.pairwise_iff_getElem.1 (show (edgL x).Nodup from edgF_nodup x _ 0) j i (by omega) hi hjl) e)]
theorem kept_size {x : Sai} {ml : List Edg} (h : roomE x = 0) (hn : (idsL x).length ≤ 16) (hm : x.ship.cabs.length ≤ 16) (hk : MostOk (idsL x).length x.ship.cabs.length (edgL x) ml) : ml.length = (idsL x).length := by
  obtain ⟨_, has, no, D, ha, e⟩ := hk.2 _ _ rfl rfl (edgL_gr hn hm)
  have h1 := allB_asked ha (edgL_ok x)
  rw [(room_ok h).2.2] at h1
  have := of_decide_eq_true h1.symm
  omega
theorem idsL_len (x : Sai) : (idsL x).length ≤ x.bks.length := by
  unfold idsL openL
  rw [List.length_map]
  exact List.length_filter_le _ _
theorem of_all {x : Sai} (h : bksE x = 0) : ∀ (i : Nat) (b : Bkg), x.bks[i]? = some b → ofE x.ship b = 0 := by
  unfold bksE at h
  by_cases h1 : 16 < x.bks.length
  · rw [if_pos h1] at h; omega
  rw [if_neg h1] at h
  by_cases h2 : firstE (bkE1 x) x.bks.length ≠ 0
  · rw [if_pos h2] at h; exact absurd h h2
  have h2 : firstE (bkE1 x) x.bks.length = 0 := Decidable.not_not.1 h2
  intro i b hb
  have h3 := firstE_zero h2 i (List.getElem?_eq_some_iff.1 hb).1
  rw [bkE1_at hb] at h3
  by_cases h4 : ofE x.ship b ≠ 0
  · rw [if_pos h4] at h3; exact absurd h3 h4
  · exact Decidable.not_not.1 h4
theorem bks_zero {x : Sai} (h : saiE x = 0) : shipE x.ship = 0 ∧ bksE x = 0 := by
  unfold saiE at h
  by_cases h1 : shipE x.ship ≠ 0
  · rw [if_pos h1] at h; exact absurd h h1
  rw [if_neg h1] at h
  by_cases h2 : fareE x.fares x.ship.cats.length x.ship.legs ≠ 0
  · rw [if_pos h2] at h; exact absurd h h2
  rw [if_neg h2] at h
  by_cases h3 : (betB x.day 0 9999 && betB x.leaves 0 9999) = false
  · rw [if_pos h3] at h; omega
  rw [if_neg h3] at h
  by_cases h4 : bksE x ≠ 0
  · rw [if_pos h4] at h; exact absurd h h4
  · exact ⟨Decidable.not_not.1 h1, Decidable.not_not.1 h4⟩
theorem all_zero {x : Sai} (h : saiE x = 0) : allE x.ship x.bks = 0 := by
  obtain ⟨h1, h2⟩ := bks_zero h
  unfold allE
  rw [if_neg (by rw [h1]; simp)]
  refine firstE_none fun i hi => ?_
  have hx : x.bks[i]? = some x.bks[i] := List.getElem?_eq_getElem hi
  rw [List.getD_eq_getElem?_getD, hx]
  exact of_all h2 i _ hx
theorem kept_souls {x : Sai} (h : roomE x = 0) : ∀ s ∈ soulL x.bks x.ship.legs.toNat, s ≤ x.ship.souls := fun s hs => by
  have := (room_ok h).2.1
  have := mx_ge hs
  omega
theorem kept_sulE {x : Sai} (h : saiE x = 0) : sulE x.ship x.bks = 0 ∨ sulE x.ship x.bks = 2 := by
  unfold sulE
  rw [all_zero h, if_neg (by simp)]
  split
  · exact .inr rfl
  · exact .inl rfl
theorem cab_lt {x : Shp} {b : Bkg} (h : kindE x b = 0) : b.cab < x.cabs.length := by
  unfold kindE at h
  by_cases h1 : b.kind = 2
  · rw [if_pos h1] at h
    unfold promE at h
    by_cases h2 : betB b.cat 0 ((x.cats.length : Int) - 1) = false
    · rw [if_pos h2] at h; omega
    rw [if_neg h2] at h
    by_cases h3 : b.frm ≠ 0 ∨ b.upto ≠ x.legs
    · rw [if_pos h3] at h; omega
    rw [if_neg h3] at h
    by_cases h4 : betB b.cab (-1) ((x.cabs.length : Int) - 1) = false
    · rw [if_pos h4] at h; omega
    have := betB_iff.1 (not_false_of h4)
    omega
  · rw [if_neg h1] at h
    unfold namedE at h
    by_cases h4 : betB b.cab 0 ((x.cabs.length : Int) - 1) = false
    · rw [if_pos h4] at h; omega
    have := betB_iff.1 (not_false_of h4)
    omega
theorem sp_seven {f u : Int} (h : 0 ≤ f) (h2 : f < u) (h3 : u ≤ 7) : spanE ⟨f, u⟩ 7 = 0 := by
  unfold spanE
  rw [if_neg (by simp only [not_or]; exact ⟨by decide, by omega, by omega⟩), if_neg (by show ¬ u ≤ f; omega)]
theorem kept_apart {x : Sai} (ho : OkBs x) (h2 : twiceB x = false) {i j : Nat} {a b : Bkg} (hji : j < i) (hi : x.bks[i]? = some a) (hj : x.bks[j]? = some b) (hl : a.state ≠ 3) (hl2 : b.state ≠ 3) (hc : 0 ≤ a.cab) (he : a.cab = b.cab) :
    meetsE ⟨a.frm, a.upto⟩ ⟨b.frm, b.upto⟩ = 0 ∧ meetB ⟨a.frm, a.upto⟩ ⟨b.frm, b.upto⟩ = false := by
  have ha := ho.bk a (List.mem_of_getElem? hi)
  have hb := ho.bk b (List.mem_of_getElem? hj)
  have sa := bk_span ho.ship ha
  have sb := bk_span ho.ship hb
  have hlegs : x.ship.legs ≤ 7 := (span_ok ha.span).2.1
  refine ⟨?_, ?_⟩
  · unfold meetsE
    rw [sp_seven sa.1 sa.2.1 (by omega), if_neg (by simp), sp_seven sb.1 sb.2.1 (by omega)]
  · have hlt := cab_lt ha.kindE
    have htk : takB x.bks ((a.cab.toNat : Nat) : Int) = true := by
      unfold twiceB at h2
      have := List.any_eq_false.1 h2 a.cab.toNat (List.mem_range.2 (by omega))
      simpa using this
    rw [show ((a.cab.toNat : Nat) : Int) = a.cab by omega] at htk
    unfold takB at htk
    obtain ⟨out, hout⟩ := Option.isSome_iff_exists.1 htk
    have hok := spOk_of ho.ship ho.bk
    obtain ⟨hp, hpw⟩ := spF_some (fun s hs => by
      unfold spL at hs
      obtain ⟨q, hq, rfl⟩ := List.mem_map.1 hs
      exact (bk_span ho.ship (ho.bk q (List.mem_filter.1 hq).1)).2.1) hout
    have hpw2 : out.Pairwise (fun s t => meetB s t = false) := hpw.imp fun {s t} h => by unfold meetB; simp; omega
    have hls : (spL x.bks a.cab).Pairwise (fun s t => meetB s t = false) := (hp.pairwise_iff (fun {s t} h => by unfold meetB at h ⊢; simp at h ⊢; omega)).1 hpw2
    unfold spL at hls
    have hls := List.pairwise_filter.1 (List.pairwise_map.1 hls)
    obtain ⟨hil, rfl⟩ := List.getElem?_eq_some_iff.1 hi
    obtain ⟨hjl, rfl⟩ := List.getElem?_eq_some_iff.1 hj
    have := List.pairwise_iff_getElem.1 hls j i hjl hil hji (by unfold hasB liveB; simp [hl2, he]) (by unfold hasB liveB; simp [hl])
    unfold meetB at this ⊢
    simp at this ⊢
    omega
end Go.Proofs.YtlablioefblmkaaGreat
namespace Go.Proofs.YtlablioefblmkaaGreat
open Go.RowKit Go.Shelf
def bksS (x : Sai) (l : List Bkg) : Sai := { x with bks := l }
theorem less_sub (l : List Bkg) (k : Nat) : (lessL l k).Sublist l := by
  unfold lessL
  conv => rhs; rw [← List.take_append_drop k l]
  exact List.Sublist.append (List.Sublist.refl _) (List.drop_sublist_drop_left l (Nat.le_succ k))
theorem rise_pw {l : List Bkg} : Rise l ↔ l.Pairwise (fun a b => a.id < b.id) := by
  constructor
  · intro h
    exact List.pairwise_iff_getElem.2 fun i j hi hj hij => h i j _ _ hij (List.getElem?_eq_getElem hi) (List.getElem?_eq_getElem hj)
  · intro h i j a b hij ha hb
    obtain ⟨hi, rfl⟩ := List.getElem?_eq_some_iff.1 ha
    obtain ⟨hj, rfl⟩ := List.getElem?_eq_some_iff.1 hb
    exact List.pairwise_iff_getElem.1 h i j hi hj hij
theorem bksE_sub {x : Sai} {l : List Bkg} (ho : OkBs x) (he : ∀ b ∈ x.bks, ofE x.ship b = 0) (hs : l.Sublist x.bks) : bksE (bksS x l) = 0 := by
  have hr : l.Pairwise (fun a b => a.id < b.id) := (rise_pw.1 (rise_of ho.rise)).sublist hs
  have hlen := hs.length_le
  have h16 := ho.len
  unfold bksE
  rw [show (bksS x l).bks = l from rfl, if_neg (show ¬ 16 < l.length by omega), show firstE (bkE1 (bksS x l)) l.length = 0 from firstE_none fun i hi => by
    have hx : (bksS x l).bks[i]? = some l[i] := List.getElem?_eq_getElem hi
    rw [bkE1_at hx, show ofE (bksS x l).ship l[i] = 0 from he _ (hs.subset (List.getElem_mem hi)), if_neg (by simp), if_neg]
    rintro ⟨h0, h1⟩
    have hp : (bksS x l).bks.getD (i - 1) default = l[i - 1]'(by omega) := by rw [List.getD_eq_getElem?_getD]; show (l[i - 1]?).getD default = _; rw [List.getElem?_eq_getElem (by omega)]; rfl
    rw [hp] at h1
    have := List.pairwise_iff_getElem.1 hr (i - 1) i (by omega) hi (by omega)
    omega, if_neg (by simp), if_neg]
  rw [Bool.not_eq_true]
  refine List.any_eq_false.2 fun b hb => ?_
  exact List.any_eq_false.1 ho.bad b (hs.subset hb)
theorem twice_sub {x : Sai} {l : List Bkg} (ho : OkBs x) (h2 : twiceB x = false) (hs : l.Sublist x.bks) : twiceB (bksS x l) = false := by
  unfold twiceB at h2 ⊢
  refine List.any_eq_false.2 fun c hc => ?_
  have htk := List.any_eq_false.1 h2 c hc
  have htk : takB x.bks (c : Int) = true := by simpa using htk
  unfold takB at htk
  obtain ⟨out, hout⟩ := Option.isSome_iff_exists.1 htk
  have hfl : ∀ q ∈ x.bks, q.frm < q.upto := fun q hq => (bk_span ho.ship (ho.bk q hq)).2.1
  obtain ⟨hp, hpw⟩ := spF_some (fun s hs => by
    unfold spL at hs
    obtain ⟨q, hq, rfl⟩ := List.mem_map.1 hs
    exact hfl q (List.mem_filter.1 hq).1) hout
  have hpw2 : out.Pairwise (fun s t => meetB s t = false) := hpw.imp fun {s t} h => by unfold meetB; simp; omega
  have hls : (spL x.bks c).Pairwise (fun s t => meetB s t = false) := (hp.pairwise_iff (fun {s t} h => by unfold meetB at h ⊢; simp at h ⊢; omega)).1 hpw2
  have hls2 : (spL l c).Pairwise (fun s t => meetB s t = false) := hls.sublist ((hs.filter _).map _)
  obtain ⟨o, ho2⟩ := spF_apart (fun s h => by
    unfold spL at h
    obtain ⟨q, hq, rfl⟩ := List.mem_map.1 h
    exact hfl q (hs.subset (List.mem_filter.1 hq).1)) hls2
  have := (tak_of ho2).1
  show ¬ (!takB l (c : Int)) = true
  rw [this]; simp
theorem soulK_sub {l l' : List Bkg} (hs : l'.Sublist l) (hg : ∀ b ∈ l, 0 ≤ b.gst) (k : Nat) : soulK l' k ≤ soulK l k := by
  unfold soulK
  induction hs with
  | slnil => exact Int.le_refl _
  | cons b _ ih =>
    have h1 := ih fun q hq => hg q (List.mem_cons_of_mem _ hq)
    have h2 := hg b (List.mem_cons_self ..)
    rw [List.map_cons, List.sum_cons]
    split <;> omega
  | cons_cons b _ ih =>
    have h1 := ih fun q hq => hg q (List.mem_cons_of_mem _ hq)
    rw [List.map_cons, List.sum_cons, List.map_cons, List.sum_cons]
    omega
theorem mx_le {l : List Int} {n : Int} (h : ∀ x ∈ l, x ≤ n) (h0 : -1 ≤ n) : mx l ≤ n := by
  rcases (foldl_ge l (-1)).2.2 with e | e
  · unfold mx; rw [e]; exact h0
  · exact h _ e
theorem souls_sub {x : Sai} {l : List Bkg} (ho : OkBs x) (h : ¬ x.ship.souls < mx (soulL x.bks x.ship.legs.toNat)) (hs : l.Sublist x.bks) : ¬ x.ship.souls < mx (soulL l x.ship.legs.toNat) := by
  have h1 := mx_lo (soulL x.bks x.ship.legs.toNat)
  have h2 : mx (soulL l x.ship.legs.toNat) ≤ mx (soulL x.bks x.ship.legs.toNat) := mx_le (fun y hy => by
    unfold soulL at hy
    obtain ⟨k, hk, rfl⟩ := List.mem_map.1 hy
    have h3 := soulK_sub hs (fun b hb => by have := (ho.bk b hb).gst; omega) k
    have h4 : soulK x.bks k ≤ mx (soulL x.bks x.ship.legs.toNat) := mx_ge (List.mem_map.2 ⟨k, hk, rfl⟩)
    omega) h1
  omega
theorem saiE_sub {x : Sai} {l : List Bkg} (h : saiE x = 0) (hs : l.Sublist x.bks) (hall : allB (idsL (bksS x l)).length (edgL (bksS x l)) = true) : saiE (bksS x l) = 0 := by
  have ho := sai_ok h
  obtain ⟨hz, hb⟩ := bks_zero h
  obtain ⟨r1, r2, _⟩ := room_ok ho.room
  have hr : roomE (bksS x l) = 0 := by
    unfold roomE
    rw [if_neg (by rw [twice_sub ho.bs r1 hs]; simp), if_neg (show ¬ (bksS x l).ship.souls < mx (soulL (bksS x l).bks (bksS x l).ship.legs.toNat) from souls_sub (x := x) (l := l) ho.bs r2 hs), if_pos hall]
  unfold saiE
  rw [show shipE (bksS x l).ship = 0 from hz, if_neg (by simp), show fareE (bksS x l).fares (bksS x l).ship.cats.length (bksS x l).ship.legs = 0 from ho.fares, if_neg (by simp), if_neg (by
    show ¬ (betB x.day 0 9999 && betB x.leaves 0 9999) = false
    rw [ho.day, ho.leaves]; simp), bksE_sub ho.bs (fun b hb' => by
    obtain ⟨i, hi⟩ := List.getElem?_of_mem hb'
    exact of_all hb i b hi) hs, if_neg (by simp), hr]
  rfl
theorem mem_edgF (x : Sai) : ∀ (os : List Bkg) (i : Nat) (e : Edg), e ∈ edgF x os i ↔ ∃ (d : Nat) (b : Bkg), os[d]? = some b ∧ e.lft = ((i + d : Nat) : Int) ∧ e.rgt ∈ mayL x b
  | [], _, e => by simp [edgF]
  | b :: os, i, e => by
    simp only [edgF, List.mem_append, List.mem_map, mem_edgF x os (i + 1) e]
    constructor
    · rintro (⟨c, hc, rfl⟩ | ⟨d, q, hd, he, hm⟩)
      · exact ⟨0, b, rfl, rfl, hc⟩
      · exact ⟨d + 1, q, by simpa using hd, by rw [he]; congr 1; omega, hm⟩
    · rintro ⟨d, q, hd, he, hm⟩
      rcases d with _ | d
      · obtain rfl : b = q := by simpa using hd
        exact .inl ⟨e.rgt, hm, by obtain ⟨a, c⟩ := e; simp only at he ⊢; rw [he]; rfl⟩
      · exact .inr ⟨d, q, by simpa using hd, by rw [he]; congr 1; omega, hm⟩
theorem mem_nbrsL (x : Sai) (d c : Nat) : c ∈ nbrs (edgL x) d ↔ ∃ b, (openL x)[d]? = some b ∧ (c : Int) ∈ mayL x b := by
  unfold nbrs edgL
  simp only [List.mem_map, List.mem_filter, mem_edgF, decide_eq_true_eq]
  constructor
  · rintro ⟨e, ⟨⟨d', b, hd, he, hm⟩, hl⟩, rfl⟩
    obtain rfl : d' = d := by omega
    refine ⟨b, hd, ?_⟩
    obtain ⟨q, _, hq⟩ := List.mem_map.1 hm
    rw [← hq]
    rw [← hq] at hm
    exact hm
  · rintro ⟨b, hd, hm⟩
    exact ⟨⟨d, c⟩, ⟨⟨d, b, hd, by simp, hm⟩, rfl⟩, rfl⟩
def Sdr (x : Sai) (os : List Bkg) : Prop := ∃ ps : List (Bkg × Nat), ps.map (·.1) = os ∧ (ps.map (·.2)).Nodup ∧ ∀ p ∈ ps, (p.2 : Int) ∈ mayL x p.1
theorem sdr_of {x : Sai} (h : AllM (openL x).length (edgL x)) : Sdr x (openL x) := by
  obtain ⟨M, hM, hn⟩ := h
  have hlt : ∀ p ∈ M, p.1 < (openL x).length := fun p hp => by
    obtain ⟨b, hb, _⟩ := (mem_nbrsL x p.1 p.2).1 (hM.edge p hp)
    exact (List.getElem?_eq_some_iff.1 hb).1
  have hex : ∀ i, i < (openL x).length → ∃ c, (i, c) ∈ M := fun i hi => by
    apply Classical.byContradiction
    intro hno
    have h1 := len_sub (M.map (·.1)) ((List.range (openL x).length).erase i) hM.lefts (fun y hy => by
      obtain ⟨p, hp, rfl⟩ := List.mem_map.1 hy
      refine (List.mem_erase_of_ne (fun e => hno ⟨p.2, ?_⟩)).2 (List.mem_range.2 (hlt p hp))
      rw [← e]; exact hp)
    rw [List.length_map, hn, List.length_erase_of_mem (List.mem_range.2 hi), List.length_range] at h1
    omega
  obtain ⟨f, hf⟩ : ∃ f : Nat → Nat, ∀ i, i < (openL x).length → (i, f i) ∈ M := ⟨fun i => if h : i < (openL x).length then (hex i h).choose else 0, fun i hi => by simp only [hi, dif_pos]; exact (hex i hi).choose_spec⟩
  refine ⟨(List.range (openL x).length).map (fun i => ((openL x).getD i default, f i)), ?_, ?_, ?_⟩
  · rw [List.map_map]
    refine List.ext_getElem (by simp) fun i h1 h2 => ?_
    simp [List.getD_eq_getElem?_getD, List.getElem?_eq_getElem h2]
  · rw [List.map_map]
    refine nodup_map_of List.nodup_range fun i hi j hj e => ?_
    have := nodup_map_inj hM.rights _ (hf i (List.mem_range.1 hi)) _ (hf j (List.mem_range.1 hj)) e
    exact (Prod.mk.inj this).1
  · intro p hp
    obtain ⟨i, hi, rfl⟩ := List.mem_map.1 hp
    obtain ⟨b, hb, hc⟩ := (mem_nbrsL x i (f i)).1 (hM.edge _ (hf i (List.mem_range.1 hi)))
    simp only
    rw [List.getD_eq_getElem?_getD, hb]
    exact hc
theorem sdr_to {x : Sai} (h : Sdr x (openL x)) : AllM (openL x).length (edgL x) := by
  obtain ⟨ps, h1, h2, h3⟩ := h
  have hlen : ps.length = (openL x).length := by rw [← h1, List.length_map]
  refine ⟨(List.range (openL x).length).map (fun i => (i, (ps.getD i default).2)), ⟨?_, ?_, ?_⟩, by simp⟩
  · intro p hp
    obtain ⟨i, hi, rfl⟩ := List.mem_map.1 hp
    have hi := List.mem_range.1 hi
    have hx : ps[i]? = some (ps[i]'(by omega)) := List.getElem?_eq_getElem (by omega)
    refine (mem_nbrsL x i _).2 ⟨(ps[i]'(by omega)).1, ?_, ?_⟩
    · rw [← h1, List.getElem?_map, hx]; rfl
    · rw [List.getD_eq_getElem?_getD, hx]
      exact h3 _ (List.getElem_mem _)
  · rw [List.map_map]
    exact nodup_map_of List.nodup_range fun i _ j _ e => e
  · rw [List.map_map]
    have : (List.range (openL x).length).map ((fun p => p.2) ∘ fun i => (i, (ps.getD i default).2)) = ps.map (·.2) := by
      refine List.ext_getElem (by simp [hlen]) fun i h1 h2 => ?_
      rw [List.length_map] at h2
      simp [List.getD_eq_getElem?_getD, List.getElem?_eq_getElem h2]
    rw [this]
    exact h2
theorem all_sub {x : Sai} {l : List Bkg} (hs : l.Sublist x.bks) (h : allB (idsL x).length (edgL x) = true) : allB (idsL (bksS x l)).length (edgL (bksS x l)) = true := by
  have e1 : (idsL x).length = (openL x).length := List.length_map _
  have e2 : (idsL (bksS x l)).length = (openL (bksS x l)).length := List.length_map _
  rw [e1] at h
  rw [e2]
  obtain ⟨ps, h1, h2, h3⟩ := sdr_of (allB_iff.1 h)
  have hsub : (openL (bksS x l)).Sublist (ps.map (·.1)) := by rw [h1]; exact hs.filter _
  obtain ⟨qs, hq, he⟩ := List.sublist_map_iff.1 hsub
  refine allB_true (sdr_to ⟨qs, he.symm, h2.sublist (hq.map _), fun p hp => ?_⟩)
  have hm := h3 p (hq.subset hp)
  unfold mayL at hm ⊢
  obtain ⟨c, hc, e⟩ := List.mem_map.1 hm
  refine List.mem_map.2 ⟨c, ?_, e⟩
  obtain ⟨c1, c2⟩ := List.mem_filter.1 hc
  refine List.mem_filter.2 ⟨c1, ?_⟩
  have c2 : (eligB x.ship p.1 (c : Int) && emptyB x.bks c) = true := c2
  show (eligB x.ship p.1 (c : Int) && emptyB l c) = true
  rw [Bool.and_eq_true] at c2 ⊢
  refine ⟨c2.1, ?_⟩
  have c3 := c2.2
  unfold emptyB at c3 ⊢
  rw [Bool.not_eq_true'] at c3 ⊢
  exact List.any_eq_false.2 fun b hb => List.any_eq_false.1 c3 b (hs.subset hb)
theorem ins_less {l : List Bkg} {k : Nat} {b : Bkg} (hr : Rise l) (hb : l[k]? = some b) : insS (lessL l k) b = l ∧ hasId (lessL l k) b.id = false := by
  have hk : k < l.length := (List.getElem?_eq_some_iff.1 hb).1
  have htl : (l.take k).length = k := by rw [List.length_take]; omega
  have hp : posI (lessL l k) b.id = k := by
    refine pos_of (by unfold lessL; rw [List.length_append, htl]; omega) (fun q c hq hc => ?_) (fun q c hq hc => ?_)
    · unfold lessL at hc
      rw [List.getElem?_append_left (by omega), List.getElem?_take_of_lt hq] at hc
      exact hr q k c b hq hc hb
    · unfold lessL at hc
      rw [List.getElem?_append_right (by omega), htl, List.getElem?_drop] at hc
      exact Int.le_of_lt (hr k (k + 1 + (q - k)) b c (by omega) hb hc)
  refine ⟨?_, has_far fun c hc e => ?_⟩
  · unfold insS
    rw [hp]
    have h1 : (lessL l k).take k = l.take k := by unfold lessL; rw [List.take_append_of_le_length (by omega), List.take_of_length_le (by omega)]
    have h2 : (lessL l k).drop k = l.drop (k + 1) := by unfold lessL; rw [List.drop_append_of_le_length (by omega), List.drop_eq_nil_of_le (by omega)]; rfl
    rw [h1, h2]
    exact (less_split hb).symm
  · obtain ⟨q, hq⟩ := List.getElem?_of_mem hc
    unfold lessL at hq
    rcases Nat.lt_or_ge q k with h | h
    · rw [List.getElem?_append_left (by omega), List.getElem?_take_of_lt h] at hq
      have := hr q k c b h hq hb; omega
    · rw [List.getElem?_append_right (by omega), htl, List.getElem?_drop] at hq
      have := hr k (k + 1 + (q - k)) b c (by omega) hb hq; omega
theorem less_ok {x : Sai} {k : Nat} {b : Bkg} (h : saiE x = 0) (hb : x.bks[k]? = some b) : saiE (bksS x (lessL x.bks k)) = 0 ∧ couldE (bksS x (lessL x.bks k)) b = 0 ∧ couldB (bksS x (lessL x.bks k)) b = true := by
  have ho := sai_ok h
  have h1 := saiE_sub h (less_sub x.bks k) (all_sub (less_sub x.bks k) (room_ok ho.room).2.2)
  obtain ⟨h2, h3⟩ := ins_less (rise_of ho.bs.rise) hb
  have h4 : couldE (bksS x (lessL x.bks k)) b = 0 := by
    unfold couldE
    rw [h1, if_neg (by simp), show ofE (bksS x (lessL x.bks k)).ship b = 0 from of_all (bks_zero h).2 k b hb, if_neg (by simp), show hasId (bksS x (lessL x.bks k)).bks b.id = false from h3, if_neg (by simp)]
  refine ⟨h1, h4, ?_⟩
  unfold couldB
  rw [h4, if_neg (by simp), show withS (bksS x (lessL x.bks k)) b = x by unfold withS; show ({ x with bks := insS (lessL x.bks k) b } : Sai) = x; rw [h2], h]
  rfl
end Go.Proofs.YtlablioefblmkaaGreat
namespace Go.Proofs.YtlablioefblmkaaGreat
open Go.RowKit Go.Shelf
theorem ins_of {l : List Bkg} {b : Bkg} {i : Nat} (hr : Rise l) (hn : hasId l b.id = false) (hi : i ≤ l.length) (hhi : ∀ (q : Nat) (c : Bkg), i ≤ q → l[q]? = some c → b.id < c.id)
    (hlo : ∀ c, 0 < i → l[i - 1]? = some c → c.id ≤ b.id) : l.take i ++ b :: l.drop i = insS l b := by
  have hp : posI l b.id = i := pos_of hi (fun q c hq hc => by
    have hne : c.id ≠ b.id := fun e => by
      have := List.any_eq_false.1 hn c (List.mem_of_getElem? hc)
      simp [e] at this
    have hlt : i - 1 < l.length := by omega
    have h1 := hlo _ (by omega) (List.getElem?_eq_getElem hlt)
    rcases Nat.lt_or_ge q (i - 1) with h | h
    · have := hr q (i - 1) c _ h hc (List.getElem?_eq_getElem hlt)
      omega
    · obtain rfl : q = i - 1 := by omega
      rw [List.getElem?_eq_getElem hlt] at hc; injection hc with hc; subst hc; omega) (fun q c hq hc => by have := hhi q c hq hc; omega)
  unfold insS; rw [hp]
theorem ins_swap {α : Type} {L : List α} {b a : α} {i : Nat} (hi : i + 1 ≤ L.length) (ha : L[i]? = some a) : ((L.take (i + 1) ++ b :: L.drop (i + 1)).set (i + 1) a).set i b = L.take i ++ b :: L.drop i := by
  apply List.ext_getElem?
  intro j
  have e1 : min (i + 1) L.length = i + 1 := by omega
  have e2 : min i L.length = i := by omega
  have hlt : i < L.length := by omega
  simp only [List.getElem?_set, List.getElem?_append, List.length_append, List.length_take, List.length_cons, List.length_drop, List.getElem?_take, List.getElem?_cons, List.getElem?_drop, List.length_set, e1, e2]
  rcases Nat.lt_trichotomy j i with h | h | h
  · have h1 : ¬ i = j := by omega
    have h2 : ¬ i + 1 = j := by omega
    have h3 : j < i + 1 := by omega
    simp only [h1, h2, h3, h, if_true, if_false]
  · subst h
    have h4 : j < j + 1 + (L.length - (j + 1) + 1) := by omega
    have h5 : ¬ j < j := by omega
    simp only [h4, h5, if_true, if_false, Nat.sub_self]
  · rcases Nat.lt_or_ge j (i + 2) with h2 | h2
    · obtain rfl : j = i + 1 := by omega
      have h4 : i + 1 < i + 1 + (L.length - (i + 1) + 1) := by omega
      have h5 : ¬ i = i + 1 := by omega
      have h6 : ¬ i + 1 < i := by omega
      have h7 : ¬ i + 1 - i = 0 := by omega
      simp only [h4, h5, h6, h7, if_true, if_false]
      rw [show i + (i + 1 - i - 1) = i by omega, ha]
    · have h5 : ¬ i = j := by omega
      have h6 : ¬ i + 1 = j := by omega
      have h7 : ¬ j < i + 1 := by omega
      have h8 : ¬ j < i := by omega
      have h9 : ¬ j - (i + 1) = 0 := by omega
      have h10 : ¬ j - i = 0 := by omega
      simp only [h5, h6, h7, h8, h9, h10, if_false]
      congr 1
      omega
end Go.Proofs.YtlablioefblmkaaGreat
