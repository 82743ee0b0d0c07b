/-
  Words, laws and contracts: StockV.
-/
import Derived.Test.YtoilcdgpeilgaaaGreatBun27
import Derived.BigQuiet
set_option linter.unusedSimpArgs false
set_option linter.unusedVariables false
namespace Go.Proofs.YtoilcdgpeilgaaaGreat
open Go.RowKit Go.Shelf
theorem namedF_of : ofE vesselX namedF = 0 := by decide
theorem promisedF_of : ofE vesselX promisedF = 0 := by decide
theorem cruise_ids : idsL cruiseX = [9] := by decide
theorem cruise_edg : edgL cruiseX = [⟨0, 0⟩, ⟨0, 2⟩] := by decide
theorem cruise_all : allB 1 [⟨0, 0⟩, ⟨0, 2⟩] = true := allB_true ⟨[(0, 0)], ⟨by decide, by decide, by decide⟩, rfl⟩
theorem table_e : fareE tableX 3 3 = 0 := by decide
theorem cruise_souls : soulL cruiseX.bks 3 = [2, 5, 5] := by decide
theorem cruise_bad : cruiseX.bks.any (badB cruiseX.closed) = false := by decide
theorem cruise_b0 : bkE1 cruiseX 0 = 0 := by unfold bkE1; rw [show cruiseX.bks.getD 0 default = namedF from rfl, show cruiseX.ship = vesselX from rfl, namedF_of]; simp
theorem cruise_b1 : bkE1 cruiseX 1 = 0 := by
  unfold bkE1
  rw [show cruiseX.bks.getD 1 default = promisedF from rfl, show cruiseX.ship = vesselX from rfl, promisedF_of, show cruiseX.bks.getD (1 - 1) default = namedF from rfl]
  decide
theorem cruise_bks : bksE cruiseX = 0 := by
  unfold bksE
  rw [if_neg (by decide), show cruiseX.bks.length = 2 from rfl, show firstE (bkE1 cruiseX) 2 = 0 from firstE_succ (firstE_succ rfl cruise_b0) cruise_b1, if_neg (by simp), cruise_bad]
  decide
theorem cruise_tak1 : takL cruiseX.bks 1 = [⟨1, 3⟩] := by
  show takL [namedF, promisedF] 1 = _
  exact (tak_of (by decide)).2
theorem cruise_tak (c : Nat) (hc : c < 3) : takB cruiseX.bks (c : Int) = true := by
  rcases c with _ | _ | _ | c
  · exact (tak_of (show spF (spL cruiseX.bks 0) = some [] by decide)).1
  · exact (tak_of (show spF (spL cruiseX.bks 1) = some [⟨1, 3⟩] by decide)).1
  · exact (tak_of (show spF (spL cruiseX.bks 2) = some [] by decide)).1
  · omega
theorem cruise_room : roomE cruiseX = 0 := by
  unfold roomE
  rw [if_neg (by
    unfold twiceB
    simp only [List.any_eq_true, not_exists, not_and, List.mem_range]
    intro c hc
    rw [cruise_tak c hc]; simp), show cruiseX.ship.legs.toNat = 3 from rfl, cruise_souls, if_neg (by decide), cruise_ids, cruise_edg, show ([9] : List Int).length = 1 from rfl, cruise_all]
  rfl
theorem cruise_e : saiE cruiseX = 0 := by
  unfold saiE
  rw [show shipE cruiseX.ship = 0 from vessel_e, if_neg (by simp), show fareE cruiseX.fares cruiseX.ship.cats.length cruiseX.ship.legs = 0 from table_e, if_neg (by simp), if_neg (by decide), cruise_bks, if_neg (by simp), cruise_room]
  rfl
theorem cruise_gaps : gapsL [⟨1, 3⟩] 3 = [⟨0, 1⟩] := by decide
theorem cruise_not {b : Bkg} (hm : vesselX.souls < mx (soulL (insS cruiseX.bks b) 3)) : (saiE (withS cruiseX b) == 0) = false := by
  have h : saiE (withS cruiseX b) ≠ 0 := by
    unfold saiE
    rw [show shipE (withS cruiseX b).ship = 0 from vessel_e, if_neg (by simp), show fareE (withS cruiseX b).fares (withS cruiseX b).ship.cats.length (withS cruiseX b).ship.legs = 0 from table_e, if_neg (by simp), if_neg (by
      show ¬ (betB cruiseX.day 0 9999 && betB cruiseX.leaves 0 9999) = false
      decide)]
    by_cases h1 : bksE (withS cruiseX b) = 0
    · rw [h1, if_neg (by simp)]
      unfold roomE
      by_cases h2 : twiceB (withS cruiseX b) = true
      · rw [if_pos h2]; decide
      · have h3 : (withS cruiseX b).ship.souls < mx (soulL (withS cruiseX b).bks (withS cruiseX b).ship.legs.toNat) := hm
        rw [if_neg h2, if_pos h3]; decide
    · rw [if_pos h1]; exact h1
  simpa using h
def lateX (g : Int) : Bkg := ⟨10, 2, 1, g, false, -1, 0, 0, 3, 4, []⟩
theorem late_e {g : Int} (h : ofE vesselX (lateX g) = 0) : couldE cruiseX (lateX g) = 0 := by
  unfold couldE
  rw [cruise_e, if_neg (by simp), show ofE cruiseX.ship (lateX g) = 0 from h, if_neg (by simp), if_neg (by
    show ¬ hasId [namedF, promisedF] 10 = true
    decide)]
theorem late_b {g : Int} (h : ofE vesselX (lateX g) = 0) (hm : vesselX.souls < mx (soulL (insS cruiseX.bks (lateX g)) 3)) : couldB cruiseX (lateX g) = false := by
  unfold couldB
  rw [late_e h, if_neg (by simp), cruise_not hm]
theorem late2 : couldE cruiseX (lateX 2) = 0 ∧ couldB cruiseX (lateX 2) = false := ⟨late_e (by decide), late_b (by decide) (by decide)⟩
theorem late4 : couldE cruiseX (lateX 4) = 0 ∧ couldB cruiseX (lateX 4) = false := ⟨late_e (by decide), late_b (by decide) (by decide)⟩
theorem lateX_in {g : Int} (h : InI g) : BkIn (lateX g) := ⟨.of (by show _ ≤ (10 : Int); decide) (by show (10 : Int) ≤ _; decide), .of (by show _ ≤ (2 : Int); decide) (by show (2 : Int) ≤ _; decide), .of (by show _ ≤ (1 : Int); decide) (by show (1 : Int) ≤ _; decide), h, .of (by show _ ≤ (-1 : Int); decide) (by show (-1 : Int) ≤ _; decide), .of (by show _ ≤ (0 : Int); decide) (by show (0 : Int) ≤ _; decide), .of (by show _ ≤ (0 : Int); decide) (by show (0 : Int) ≤ _; decide), .of (by show _ ≤ (3 : Int); decide) (by show (3 : Int) ≤ _; decide), .of (by show _ ≤ (4 : Int); decide) (by show (4 : Int) ≤ _; decide)⟩
theorem cruise_free : freeE cruiseX 1 = 0 := by
  unfold freeE
  rw [cruise_e, if_neg (by simp), if_neg (by decide)]
set_option maxRecDepth 100000 in
set_option maxHeartbeats 8000000 in
theorem stockBegun_any (w : World) : Calls Tryz.prog 20 #[] w fun e w' => e = .returned (.bool true) ∧ Below w.heap.size w w' := by
  have hPR := fun p W h => Promises_any cruiseX p W h
  have hFR := fun p W h => stockFree_any cruiseX p 1 W h
  have hC2 := fun p W h => Could_any cruiseX p (lateX 2) none 0 0 W h (Sl.nil _ _ _ _) (lateX_in (.of (by decide) (by decide)))
  have hC4 := fun p W h => Could_any cruiseX p (lateX 4) none 0 0 W h (Sl.nil _ _ _ _) (lateX_in (.of (by decide) (by decide)))
  have hCK := fun p W h => saiCheck_any cruiseX p W h
  simp only [cruise_e, okL_zero, cruise_ids, cruise_edg] at hPR
  simp only [cruise_free, okL_zero, show takL cruiseX.bks 1 = [⟨1, 3⟩] from cruise_tak1, show gapsL [⟨1, 3⟩] cruiseX.ship.legs = [⟨0, 1⟩] from cruise_gaps] at hFR
  rw [late2.1, late2.2] at hC2
  rw [late4.1, late4.2] at hC4
  rw [cruise_e] at hCK
  have HPR := Lib.hid hPR
  clear hPR
  have HFR := Lib.hid hFR
  clear hFR
  have HC2 := Lib.hid hC2
  clear hC2
  have HC4 := Lib.hid hC4
  clear hC4
  have HCK := Lib.hid hCK
  clear hCK
  go_enter Tryz.func20, Tryz.ntmps20
  go_wp2_with fail
  refine (cruise_any _).mono ?_
  rintro e w1 ⟨p1, rfl, hS, hb⟩
  go_wp2_with fail
  refine (HPR.out p1 _ hS).mono ?_
  rintro e w2 ⟨v1, v2, xs1, xs2, rfl, hO1, hO2, hb2⟩
  obtain ⟨A1, n1, c1, rfl, _⟩ := hO1.sl intC_good
  obtain ⟨A2, n2, c2, rfl, _⟩ := hO2.sl edgC_good
  replace hb := hb.trans (hb2.mono hb.size)
  clear hb2 hS
  go_wp2_with fail
  refine (cruise_any _).mono ?_
  rintro e w3 ⟨p3, rfl, hS, hb2⟩
  replace hO1 := hO1.bel hb2
  replace hO2 := hO2.bel hb2
  replace hb := hb.trans (hb2.mono hb.size)
  clear hb2
  go_wp2_with fail
  refine (HFR.out p3 _ hS).mono ?_
  rintro e w4 ⟨v3, xs3, rfl, hO3, hb2⟩
  obtain ⟨A3, n3, c3, rfl, _⟩ := hO3.sl spanC_good
  replace hO1 := hO1.bel hb2
  replace hO2 := hO2.bel hb2
  replace hb := hb.trans (hb2.mono hb.size)
  clear hb2 hS
  go_wp2_with fail
  refine (promisedL_any _).mono ?_
  rintro e w5 ⟨rfl, hb2⟩
  replace hO1 := hO1.bel hb2
  replace hO2 := hO2.bel hb2
  replace hO3 := hO3.bel hb2
  replace hb := hb.trans (hb2.mono hb.size)
  clear hb2
  go_upto_region 4 with (fail)
  go_cut [6] (fun p wx => ∃ h, p = .pointer (some ⟨h, 0, none⟩) ∧ w5.heap.size ≤ h ∧ Blk wx h #[.int .i64 10, .int .i64 2, .int .i64 1, .int .i64 2, .bool false, .int .i64 (-1), .int .i64 0, .int .i64 0, .int .i64 3, .int .i64 4, .slice none 0 0] 37 ∧ Below w5.heap.size w5 wx)
  case first => as_aux_lemma =>
    go_wp2_with fail
    go_meet
    exact ⟨_, rfl, Nat.le_refl _, blk1 _ _, bel1 _ _⟩
  obtain ⟨h, rfl, hh, hH, hb2⟩ := hcut
  have hn1 := fun k hk => (hO1.lt k hk).2
  have hn2 := fun k hk => (hO2.lt k hk).2
  have hn3 := fun k hk => (hO3.lt k hk).2
  replace hO1 := hO1.bel hb2
  replace hO2 := hO2.bel hb2
  replace hO3 := hO3.bel hb2
  have hwh := hb.size
  replace hb := hb.trans (hb2.mono hb.size)
  clear hb2
  have HN := Lib.hid (show (Value.slice A1 n1 c1).ownBlock ≠ some h ∧ (Value.slice A2 n2 c2).ownBlock ≠ some h ∧ (Value.slice A3 n3 c3).ownBlock ≠ some h from ⟨fun e => by have := hn1 h e; omega, fun e => by have := hn2 h e; omega, fun e => by have := hn3 h e; omega⟩)
  clear hn1 hn2 hn3
  obtain ⟨W6, hW6⟩ : ∃ V, V = wc := ⟨_, rfl⟩
  subst hW6
  have HSH := Lib.hid (show ∀ X, Below W6.heap.size W6 X → (fun w' => w'.cell? ⟨h, 0, none⟩ = some (.int .i64 10) ∧ w'.cell? ⟨h, 1, none⟩ = some (.int .i64 2) ∧ w'.cell? ⟨h, 2, none⟩ = some (.int .i64 1) ∧ w'.cell? ⟨h, 3, none⟩ = some (.int .i64 2) ∧ w'.cell? ⟨h, 4, none⟩ = some (.bool false) ∧ w'.cell? ⟨h, 5, none⟩ = some (.int .i64 (-1)) ∧ w'.cell? ⟨h, 6, none⟩ = some (.int .i64 0) ∧ w'.cell? ⟨h, 7, none⟩ = some (.int .i64 0) ∧ w'.cell? ⟨h, 8, none⟩ = some (.int .i64 3) ∧ w'.cell? ⟨h, 9, none⟩ = some (.int .i64 4) ∧ w'.cell? ⟨h, 10, none⟩ = some (.slice none 0 0)) X from fun X hX => ⟨(hH.bel hX).cell rfl, (hH.bel hX).cell rfl, (hH.bel hX).cell rfl, (hH.bel hX).cell rfl, (hH.bel hX).cell rfl, (hH.bel hX).cell rfl, (hH.bel hX).cell rfl, (hH.bel hX).cell rfl, (hH.bel hX).cell rfl, (hH.bel hX).cell rfl, (hH.bel hX).cell rfl⟩)
  have HO1 := Lib.hid hO1
  clear hO1
  have HO2 := Lib.hid hO2
  clear hO2
  have HO3 := Lib.hid hO3
  clear hO3
  have HB := Lib.hid hb
  clear hb
  have HH := Lib.hid hH
  clear hH
  have hbx : Below W6.heap.size W6 W6.drew := (Below.refl _ W6).drew
  go_upto_region 5 with (fail)
  refine wp_region_held_drew (S := (fun w' => w'.cell? ⟨h, 0, none⟩ = some (.int .i64 10) ∧ w'.cell? ⟨h, 1, none⟩ = some (.int .i64 2) ∧ w'.cell? ⟨h, 2, none⟩ = some (.int .i64 1) ∧ w'.cell? ⟨h, 3, none⟩ = some (.int .i64 2) ∧ w'.cell? ⟨h, 4, none⟩ = some (.bool false) ∧ w'.cell? ⟨h, 5, none⟩ = some (.int .i64 (-1)) ∧ w'.cell? ⟨h, 6, none⟩ = some (.int .i64 0) ∧ w'.cell? ⟨h, 7, none⟩ = some (.int .i64 0) ∧ w'.cell? ⟨h, 8, none⟩ = some (.int .i64 3) ∧ w'.cell? ⟨h, 9, none⟩ = some (.int .i64 4) ∧ w'.cell? ⟨h, 10, none⟩ = some (.slice none 0 0))) (by kernel_rfl) (HSH.out _ hbx) (fun hHeld => ?_)
  refine wpAnyH_take (i := 1) (v := ?v1) (gA rfl) (by kernel_rfl) (by kernel_rfl) (by kernel_rfl) (fun _ _ _ h => h) (Or.inl ⟨rfl, ?y1⟩) (by assumption) ?_
  case y1 => (intro w hSw; (try dsimp only at hSw); go_simp <;> with_reducible rfl)
  simp only [Act.put, List.setIfInBounds_toArray, List.set_cons_zero, List.set_cons_succ]
  refine wpAnyH_ready (rs := [0]) (by kernel_rfl) (by simp) (AllReadyH.cons (gA rfl) (fun K hK => ?_) AllReadyH.nil)
  go_simp
  (go_at_call 83; refine (cruise_any _).mono ?_; rintro e w7 ⟨p7, rfl, hS, hb2⟩; replace hbx := hbx.trans (hb2.mono hbx.size); clear hb2)
  go_wp2_with fail
  refine hK.out _ _ ?_ (fun hHeld => ?_)
  · exact HSH.out _ hbx
  clear hK K
  try simp only [Act.put, List.setIfInBounds_toArray, List.set_cons_zero, List.set_cons_succ]
  refine wpAnyH_ready (rs := [2]) (by kernel_rfl) (by simp) (AllReadyH.cons (gA rfl) (fun K hK => ?_) AllReadyH.nil)
  go_simp
  (go_at_call 85; refine (HC2.out p7 _ hS).mono ?_; rintro e w8 ⟨rfl, hb2⟩; replace hbx := hbx.trans (hb2.mono hbx.size); clear hb2 hS)
  go_wp2_with fail
  refine hK.out _ _ ?_ (fun hHeld => ?_)
  · exact HSH.out _ hbx
  clear hK K
  try simp only [Act.put, List.setIfInBounds_toArray, List.set_cons_zero, List.set_cons_succ]
  refine wpAnyH_take (i := 3) (v := ?v4) (gA rfl) (by kernel_rfl) (by kernel_rfl) (by kernel_rfl) (fun _ _ _ h => h) (Or.inl ⟨rfl, ?y4⟩) (by assumption) ?_
  case y4 => (intro w hSw; (try dsimp only at hSw); go_simp <;> with_reducible rfl)
  simp only [Act.put, List.setIfInBounds_toArray, List.set_cons_zero, List.set_cons_succ]
  refine wpAnyH_take (i := 4) (v := ?v5) (gA rfl) (by kernel_rfl) (by kernel_rfl) (by kernel_rfl) (fun _ _ _ h => h) (Or.inl ⟨rfl, ?y5⟩) (by assumption) ?_
  case y5 => (intro w hSw; (try dsimp only at hSw); go_simp <;> with_reducible rfl)
  simp only [Act.put, List.setIfInBounds_toArray, List.set_cons_zero, List.set_cons_succ]
  refine wpAnyH_take (i := 5) (v := ?v6) (gA rfl) (by kernel_rfl) (by kernel_rfl) (by kernel_rfl) (fun _ _ _ h => h) (Or.inl ⟨rfl, ?y6⟩) (by assumption) ?_
  case y6 => (intro w hSw; (try dsimp only at hSw); go_simp <;> with_reducible rfl)
  simp only [Act.put, List.setIfInBounds_toArray, List.set_cons_zero, List.set_cons_succ]
  refine wpAnyH_take (i := 6) (v := ?v7) (gA rfl) (by kernel_rfl) (by kernel_rfl) (by kernel_rfl) (fun _ _ _ h => h) (Or.inl ⟨rfl, ?y7⟩) (by assumption) ?_
  case y7 => (intro w hSw; (try dsimp only at hSw); go_simp <;> with_reducible rfl)
  simp only [Act.put, List.setIfInBounds_toArray, List.set_cons_zero, List.set_cons_succ]
  refine wpAnyH_take (i := 7) (v := ?v8) (gA rfl) (by kernel_rfl) (by kernel_rfl) (by kernel_rfl) (fun _ _ _ h => h) (Or.inl ⟨rfl, ?y8⟩) (by assumption) ?_
  case y8 => (intro w hSw; (try dsimp only at hSw); go_simp <;> with_reducible rfl)
  simp only [Act.put, List.setIfInBounds_toArray, List.set_cons_zero, List.set_cons_succ]
  refine wpAnyH_done (by kernel_rfl) ?_ _
  have hH := HH.out.bel hbx
  have hO1 := HO1.out.bel hbx
  have hO2 := HO2.out.bel hbx
  have hO3 := HO3.out.bel hbx
  have hb := HB.out.trans (hbx.mono HB.out.size)
  clear HO1 HO2 HO3 HB HH HSH hbx hHeld
  have f3 := hH.free 3
  have h3 : w8.cell? ⟨h, 3, none⟩ = some (.int .i64 2) := hH.cell rfl
  go_upto_region 6 with (fail)
  go_cut [6] (fun p wx => p = .pointer (some ⟨h, 0, none⟩) ∧ wx = w8.setCell ⟨h, 3, none⟩ (.int .i64 4))
  case first => as_aux_lemma =>
    go_wp2_with fail
    go_meet
    exact ⟨rfl, rfl⟩
  obtain ⟨rfl, rfl⟩ := hcut
  have p1 := own_setCell_flat intC_flat hO1 (a := ⟨h, 3, none⟩) HN.out.1 (.int .i64 4)
  have p2 := own_setCell_flat edgC_flat hO2 (a := ⟨h, 3, none⟩) HN.out.2.1 (.int .i64 4)
  have p3 := own_setCell_flat spanC_flat hO3 (a := ⟨h, 3, none⟩) HN.out.2.2 (.int .i64 4)
  have p4 : Blk (w8.setCell ⟨h, 3, none⟩ (.int .i64 4)) h #[.int .i64 10, .int .i64 2, .int .i64 1, .int .i64 4, .bool false, .int .i64 (-1), .int .i64 0, .int .i64 0, .int .i64 3, .int .i64 4, .slice none 0 0] 37 := hH.set (j := 3) (.int .i64 4)
  have p5 := hb.trans (((Kept.refl (fun k => k = h) w8).setCell (p := ⟨h, 3, none⟩) (.inl rfl) (.int .i64 4)).below (B := w.heap.size) hb.size (fun k hk e => by omega))
  clear f3 h3 hH hO1 hO2 hO3 hb
  obtain ⟨W9, hW9⟩ : ∃ V, V = w8.setCell ⟨h, 3, none⟩ (.int .i64 4) := ⟨_, rfl⟩
  rw [← hW9] at p1 p2 p3 p4 p5 ⊢
  clear hW9
  have HSH := Lib.hid (show ∀ X, Below W9.heap.size W9 X → (fun w' => w'.cell? ⟨h, 0, none⟩ = some (.int .i64 10) ∧ w'.cell? ⟨h, 1, none⟩ = some (.int .i64 2) ∧ w'.cell? ⟨h, 2, none⟩ = some (.int .i64 1) ∧ w'.cell? ⟨h, 3, none⟩ = some (.int .i64 4) ∧ w'.cell? ⟨h, 4, none⟩ = some (.bool false) ∧ w'.cell? ⟨h, 5, none⟩ = some (.int .i64 (-1)) ∧ w'.cell? ⟨h, 6, none⟩ = some (.int .i64 0) ∧ w'.cell? ⟨h, 7, none⟩ = some (.int .i64 0) ∧ w'.cell? ⟨h, 8, none⟩ = some (.int .i64 3) ∧ w'.cell? ⟨h, 9, none⟩ = some (.int .i64 4) ∧ w'.cell? ⟨h, 10, none⟩ = some (.slice none 0 0)) X from fun X hX => ⟨(p4.bel hX).cell rfl, (p4.bel hX).cell rfl, (p4.bel hX).cell rfl, (p4.bel hX).cell rfl, (p4.bel hX).cell rfl, (p4.bel hX).cell rfl, (p4.bel hX).cell rfl, (p4.bel hX).cell rfl, (p4.bel hX).cell rfl, (p4.bel hX).cell rfl, (p4.bel hX).cell rfl⟩)
  have HO1 := Lib.hid p1
  clear p1
  have HO2 := Lib.hid p2
  clear p2
  have HO3 := Lib.hid p3
  clear p3
  have HB := Lib.hid p5
  clear p5
  clear p4
  have hbx : Below W9.heap.size W9 W9.drew := (Below.refl _ W9).drew
  go_upto_region 7 with (fail)
  refine wp_region_held_drew (S := (fun w' => w'.cell? ⟨h, 0, none⟩ = some (.int .i64 10) ∧ w'.cell? ⟨h, 1, none⟩ = some (.int .i64 2) ∧ w'.cell? ⟨h, 2, none⟩ = some (.int .i64 1) ∧ w'.cell? ⟨h, 3, none⟩ = some (.int .i64 4) ∧ w'.cell? ⟨h, 4, none⟩ = some (.bool false) ∧ w'.cell? ⟨h, 5, none⟩ = some (.int .i64 (-1)) ∧ w'.cell? ⟨h, 6, none⟩ = some (.int .i64 0) ∧ w'.cell? ⟨h, 7, none⟩ = some (.int .i64 0) ∧ w'.cell? ⟨h, 8, none⟩ = some (.int .i64 3) ∧ w'.cell? ⟨h, 9, none⟩ = some (.int .i64 4) ∧ w'.cell? ⟨h, 10, none⟩ = some (.slice none 0 0))) (by kernel_rfl) (HSH.out _ hbx) (fun hHeld => ?_)
  refine wpAnyH_take (i := 1) (v := ?v9) (gA rfl) (by kernel_rfl) (by kernel_rfl) (by kernel_rfl) (fun _ _ _ h => h) (Or.inl ⟨rfl, ?y9⟩) (by assumption) ?_
  case y9 => (intro w hSw; (try dsimp only at hSw); go_simp <;> with_reducible rfl)
  simp only [Act.put, List.setIfInBounds_toArray, List.set_cons_zero, List.set_cons_succ]
  refine wpAnyH_ready (rs := [0]) (by kernel_rfl) (by simp) (AllReadyH.cons (gA rfl) (fun K hK => ?_) AllReadyH.nil)
  go_simp
  (go_at_call 83; refine (cruise_any _).mono ?_; rintro e w10 ⟨p10, rfl, hS, hb2⟩; replace hbx := hbx.trans (hb2.mono hbx.size); clear hb2)
  go_wp2_with fail
  refine hK.out _ _ ?_ (fun hHeld => ?_)
  · exact HSH.out _ hbx
  clear hK K
  try simp only [Act.put, List.setIfInBounds_toArray, List.set_cons_zero, List.set_cons_succ]
  refine wpAnyH_ready (rs := [2]) (by kernel_rfl) (by simp) (AllReadyH.cons (gA rfl) (fun K hK => ?_) AllReadyH.nil)
  go_simp
  (go_at_call 85; refine (HC4.out p10 _ hS).mono ?_; rintro e w11 ⟨rfl, hb2⟩; replace hbx := hbx.trans (hb2.mono hbx.size); clear hb2 hS)
  go_wp2_with fail
  refine hK.out _ _ ?_ (fun hHeld => ?_)
  · exact HSH.out _ hbx
  clear hK K
  try simp only [Act.put, List.setIfInBounds_toArray, List.set_cons_zero, List.set_cons_succ]
  refine wpAnyH_take (i := 3) (v := ?v12) (gA rfl) (by kernel_rfl) (by kernel_rfl) (by kernel_rfl) (fun _ _ _ h => h) (Or.inl ⟨rfl, ?y12⟩) (by assumption) ?_
  case y12 => (intro w hSw; (try dsimp only at hSw); go_simp <;> with_reducible rfl)
  simp only [Act.put, List.setIfInBounds_toArray, List.set_cons_zero, List.set_cons_succ]
  refine wpAnyH_take (i := 4) (v := ?v13) (gA rfl) (by kernel_rfl) (by kernel_rfl) (by kernel_rfl) (fun _ _ _ h => h) (Or.inl ⟨rfl, ?y13⟩) (by assumption) ?_
  case y13 => (intro w hSw; (try dsimp only at hSw); go_simp <;> with_reducible rfl)
  simp only [Act.put, List.setIfInBounds_toArray, List.set_cons_zero, List.set_cons_succ]
  refine wpAnyH_take (i := 5) (v := ?v14) (gA rfl) (by kernel_rfl) (by kernel_rfl) (by kernel_rfl) (fun _ _ _ h => h) (Or.inl ⟨rfl, ?y14⟩) (by assumption) ?_
  case y14 => (intro w hSw; (try dsimp only at hSw); go_simp <;> with_reducible rfl)
  simp only [Act.put, List.setIfInBounds_toArray, List.set_cons_zero, List.set_cons_succ]
  refine wpAnyH_take (i := 6) (v := ?v15) (gA rfl) (by kernel_rfl) (by kernel_rfl) (by kernel_rfl) (fun _ _ _ h => h) (Or.inl ⟨rfl, ?y15⟩) (by assumption) ?_
  case y15 => (intro w hSw; (try dsimp only at hSw); go_simp <;> with_reducible rfl)
  simp only [Act.put, List.setIfInBounds_toArray, List.set_cons_zero, List.set_cons_succ]
  refine wpAnyH_take (i := 7) (v := ?v16) (gA rfl) (by kernel_rfl) (by kernel_rfl) (by kernel_rfl) (fun _ _ _ h => h) (Or.inl ⟨rfl, ?y16⟩) (by assumption) ?_
  case y16 => (intro w hSw; (try dsimp only at hSw); go_simp <;> with_reducible rfl)
  simp only [Act.put, List.setIfInBounds_toArray, List.set_cons_zero, List.set_cons_succ]
  refine wpAnyH_done (by kernel_rfl) ?_ _
  have hs1 := HO1.out.bel hbx
  have hs2 := HO2.out.bel hbx
  have hs3 := HO3.out.bel hbx
  have hb := HB.out.trans (hbx.mono HB.out.size)
  clear HO1 HO2 HO3 HB HSH hbx hHeld
  obtain ⟨_, _, _, hv, hs1⟩ := hs1.sl intC_good
  simp only [Value.slice.injEq] at hv
  obtain ⟨rfl, rfl, rfl⟩ := hv
  obtain ⟨_, _, _, hv, hs2⟩ := hs2.sl edgC_good
  simp only [Value.slice.injEq] at hv
  obtain ⟨rfl, rfl, rfl⟩ := hv
  obtain ⟨_, _, _, hv, hs3⟩ := hs3.sl spanC_good
  simp only [Value.slice.injEq] at hv
  obtain ⟨rfl, rfl, rfl⟩ := hv
  replace hs1 := hs1.all intC_good (by omega)
  replace hs2 := hs2.all edgC_good (by omega)
  replace hs3 := hs3.all spanC_good (by omega)
  go_wp2_with fail
  refine (cruise_any _).mono ?_
  rintro e w12 ⟨p12, rfl, hS, hb2⟩
  replace hs1 := hs1.bel hb2
  replace hs2 := hs2.bel hb2
  replace hs3 := hs3.bel hb2
  replace hb := hb.trans (hb2.mono hb.size)
  clear hb2
  go_wp2_with fail
  refine (HCK.out p12 _ hS).mono ?_
  rintro e w13 ⟨rfl, hb2⟩
  replace hs1 := hs1.bel hb2
  replace hs2 := hs2.bel hb2
  replace hs3 := hs3.bel hb2
  replace hb := hb.trans (hb2.mono hb.size)
  clear hb2 hS
  go_wp2_with fail
  have q1 : Sl intC 1 (w13.alloc (.cells #[.int .i64 9] 3)) All (some ⟨w13.heap.size, 0, none⟩) 1 1 [9] := Sl.ofInts [9] (Blk.new w13 _ _) (by decide) trivial (by decide)
  replace hs1 := hs1.bel (bel1 w13 (.cells #[.int .i64 9] 3))
  replace hs2 := hs2.bel (bel1 w13 (.cells #[.int .i64 9] 3))
  replace hs3 := hs3.bel (bel1 w13 (.cells #[.int .i64 9] 3))
  replace hb := hb.alloc hb.size (.cells #[.int .i64 9] 3)
  refine (SameInts_any _ _ _ _ _ _ [9] [9] _ hs1 q1).mono ?_
  rintro e w14 ⟨rfl, k, hk⟩
  have hb2 : Below (w13.alloc (.cells #[.int .i64 9] 3)).heap.size (w13.alloc (.cells #[.int .i64 9] 3)) w14 := by rw [hk]; exact below_drewN (Below.refl _ _) _
  replace hs2 := hs2.bel hb2
  replace hs3 := hs3.bel hb2
  replace hb := hb.trans (hb2.mono hb.size)
  clear hb2 q1 hs1 hk
  have hd1 : decide (([9] : List Int) = [9]) = true := by decide
  go_wp2_with fail
  have q1 : Sl edgC 2 (w14.alloc (.cells #[.int .i64 0, .int .i64 0, .int .i64 0, .int .i64 2] 115)) All (some ⟨w14.heap.size, 0, none⟩) 2 2 [⟨0, 0⟩, ⟨0, 2⟩] := Sl.ofEdgs [⟨0, 0⟩, ⟨0, 2⟩] (Blk.new w14 _ _) (by decide) trivial rfl (fun x hx => by simp only [List.mem_cons, List.not_mem_nil, or_false] at hx; rcases hx with rfl | rfl <;> exact ⟨.of (by decide) (by decide), .of (by decide) (by decide)⟩)
  replace hs2 := hs2.bel (bel1 w14 (.cells #[.int .i64 0, .int .i64 0, .int .i64 0, .int .i64 2] 115))
  replace hs3 := hs3.bel (bel1 w14 (.cells #[.int .i64 0, .int .i64 0, .int .i64 0, .int .i64 2] 115))
  replace hb := hb.alloc hb.size (.cells #[.int .i64 0, .int .i64 0, .int .i64 0, .int .i64 2] 115)
  refine (SameEdges_any _ _ _ _ _ _ [⟨0, 0⟩, ⟨0, 2⟩] [⟨0, 0⟩, ⟨0, 2⟩] _ hs2 q1).mono ?_
  rintro e w15 ⟨rfl, k, hk⟩
  have hb2 : Below (w14.alloc (.cells #[.int .i64 0, .int .i64 0, .int .i64 0, .int .i64 2] 115)).heap.size (w14.alloc (.cells #[.int .i64 0, .int .i64 0, .int .i64 0, .int .i64 2] 115)) w15 := by rw [hk]; exact below_drewN (Below.refl _ _) _
  replace hs3 := hs3.bel hb2
  replace hb := hb.trans (hb2.mono hb.size)
  clear hb2 q1 hs2 hk
  have hd2 : decide (([⟨0, 0⟩, ⟨0, 2⟩] : List Edg) = [⟨0, 0⟩, ⟨0, 2⟩]) = true := by decide
  go_wp2_with fail
  have q1 : Sl spanC 2 (w15.alloc (.cells #[.int .i64 0, .int .i64 1] 34)) All (some ⟨w15.heap.size, 0, none⟩) 1 1 [⟨0, 1⟩] := Sl.ofSpans [⟨0, 1⟩] (Blk.new w15 _ _) (by decide) trivial rfl (fun x hx => by simp only [List.mem_singleton] at hx; subst hx; exact ⟨.of (by decide) (by decide), .of (by decide) (by decide)⟩)
  replace hs3 := hs3.bel (bel1 w15 (.cells #[.int .i64 0, .int .i64 1] 34))
  replace hb := hb.alloc hb.size (.cells #[.int .i64 0, .int .i64 1] 34)
  refine (SameSpans_any _ _ _ _ _ _ [⟨0, 1⟩] [⟨0, 1⟩] _ hs3 q1).mono ?_
  rintro e w16 ⟨rfl, k, hk⟩
  have hb2 : Below (w15.alloc (.cells #[.int .i64 0, .int .i64 1] 34)).heap.size (w15.alloc (.cells #[.int .i64 0, .int .i64 1] 34)) w16 := by rw [hk]; exact below_drewN (Below.refl _ _) _
  replace hb := hb.trans (hb2.mono hb.size)
  clear hb2 q1 hs3 hk
  have hd3 : decide (([⟨0, 1⟩] : List Span) = [⟨0, 1⟩]) = true := by decide
  go_wp2_with fail
  go_ret
  exact ⟨rfl, hb⟩
end Go.Proofs.YtoilcdgpeilgaaaGreat
