/-
  Words, laws and contracts: StockV, StockW, Lift, SpanLift, ShipLift, FolioLift, BookLift, FareLift, SaiLift.
-/
import Derived.Test.YtlablioefblmkaaGreatBun26
import Derived.BigQuiet
import Derived.Test.YtlablioefblmkaaGreatRows
import Derived.ProofKit
import Derived.OpenShut
import Derived.ShutString
import Derived.ChangeOld
import Derived.Deep.Slices
import Derived.SizedLaws
/-
  Sailings: the laws' helper stockBegun.
-/
namespace Go.Proofs.YtlablioefblmkaaGreat
open Go.RowKit Go.Shelf
theorem namedF_of : ofE vesselX namedF = 0 := by decide
theorem promisedF_of : ofE vesselX promisedF = 0 := by decide
theorem cruise_ids : idsL cruiseX = [9] := by decide
theorem cruise_edg : edgL cruiseX = [⟨0, 0⟩, ⟨0, 2⟩] := by decide
theorem cruise_all : allB 1 [⟨0, 0⟩, ⟨0, 2⟩] = true := allB_true ⟨[(0, 0)], ⟨by decide, by decide, by decide⟩, rfl⟩
theorem table_e : fareE tableX 3 3 = 0 := by decide
theorem cruise_souls : soulL cruiseX.bks 3 = [2, 5, 5] := by decide
theorem cruise_bad : cruiseX.bks.any (badB cruiseX.closed) = false := by decide
theorem cruise_b0 : bkE1 cruiseX 0 = 0 := by unfold bkE1; rw [show cruiseX.bks.getD 0 default = namedF from rfl, show cruiseX.ship = vesselX from rfl, namedF_of]; simp
theorem cruise_b1 : bkE1 cruiseX 1 = 0 := by
  unfold bkE1
  rw [show cruiseX.bks.getD 1 default = promisedF from rfl, show cruiseX.ship = vesselX from rfl, promisedF_of, show cruiseX.bks.getD (1 - 1) default = namedF from rfl]
  decide
theorem cruise_bks : bksE cruiseX = 0 := by
  unfold bksE
  rw [if_neg (by decide), show cruiseX.bks.length = 2 from rfl, show firstE (bkE1 cruiseX) 2 = 0 from firstE_succ (firstE_succ rfl cruise_b0) cruise_b1, if_neg (by simp), cruise_bad]
  decide
theorem cruise_tak1 : takL cruiseX.bks 1 = [⟨1, 3⟩] := by
  show takL [namedF, promisedF] 1 = _
  exact (tak_of (by decide)).2
theorem cruise_tak (c : Nat) (hc : c < 3) : takB cruiseX.bks (c : Int) = true := by
  rcases c with _ | _ | _ | c
  · exact (tak_of (show spF (spL cruiseX.bks 0) = some [] by decide)).1
  · exact (tak_of (show spF (spL cruiseX.bks 1) = some [⟨1, 3⟩] by decide)).1
  · exact (tak_of (show spF (spL cruiseX.bks 2) = some [] by decide)).1
  · omega
theorem cruise_room : roomE cruiseX = 0 := by
  unfold roomE
  rw [if_neg (by
    unfold twiceB
    simp only [List.any_eq_true, not_exists, not_and, List.mem_range]
    intro c hc
    rw [cruise_tak c hc]; simp), show cruiseX.ship.legs.toNat = 3 from rfl, cruise_souls, if_neg (by decide), cruise_ids, cruise_edg, show ([9] : List Int).length = 1 from rfl, cruise_all]
  rfl
theorem cruise_e : saiE cruiseX = 0 := by
  unfold saiE
  rw [show shipE cruiseX.ship = 0 from vessel_e, if_neg (by simp), show fareE cruiseX.fares cruiseX.ship.cats.length cruiseX.ship.legs = 0 from table_e, if_neg (by simp), if_neg (by decide), cruise_bks, if_neg (by simp), cruise_room]
  rfl
theorem cruise_gaps : gapsL [⟨1, 3⟩] 3 = [⟨0, 1⟩] := by decide
theorem cruise_not {b : Bkg} (hm : vesselX.souls < mx (soulL (insS cruiseX.bks b) 3)) : (saiE (withS cruiseX b) == 0) = false := by
  have h : saiE (withS cruiseX b) ≠ 0 := by
    unfold saiE
    rw [show shipE (withS cruiseX b).ship = 0 from vessel_e, if_neg (by simp), show fareE (withS cruiseX b).fares (withS cruiseX b).ship.cats.length (withS cruiseX b).ship.legs = 0 from table_e, if_neg (by simp), if_neg (by
      show ¬ (betB cruiseX.day 0 9999 && betB cruiseX.leaves 0 9999) = false
      decide)]
    by_cases h1 : bksE (withS cruiseX b) = 0
    · rw [h1, if_neg (by simp)]
      unfold roomE
      by_cases h2 : twiceB (withS cruiseX b) = true
      · rw [if_pos h2]; decide
      · have h3 : (withS cruiseX b).ship.souls < mx (soulL (withS cruiseX b).bks (withS cruiseX b).ship.legs.toNat) := hm
        rw [if_neg h2, if_pos h3]; decide
    · rw [if_pos h1]; exact h1
  simpa using h
def lateX (g : Int) : Bkg := ⟨10, 2, 1, g, false, -1, 0, 0, 3, 4, []⟩
theorem late_e {g : Int} (h : ofE vesselX (lateX g) = 0) : couldE cruiseX (lateX g) = 0 := by
  unfold couldE
  rw [cruise_e, if_neg (by simp), show ofE cruiseX.ship (lateX g) = 0 from h, if_neg (by simp), if_neg (by
    show ¬ hasId [namedF, promisedF] 10 = true
    decide)]
theorem late_b {g : Int} (h : ofE vesselX (lateX g) = 0) (hm : vesselX.souls < mx (soulL (insS cruiseX.bks (lateX g)) 3)) : couldB cruiseX (lateX g) = false := by
  unfold couldB
  rw [late_e h, if_neg (by simp), cruise_not hm]
theorem late2 : couldE cruiseX (lateX 2) = 0 ∧ couldB cruiseX (lateX 2) = false := ⟨late_e (by decide), late_b (by decide) (by decide)⟩
theorem late4 : couldE cruiseX (lateX 4) = 0 ∧ couldB cruiseX (lateX 4) = false := ⟨late_e (by decide), late_b (by decide) (by decide)⟩
theorem lateX_in {g : Int} (h : InI g) : BkIn (lateX g) := ⟨.of (by show _ ≤ (10 : Int); decide) (by show (10 : Int) ≤ _; decide), .of (by show _ ≤ (2 : Int); decide) (by show (2 : Int) ≤ _; decide), .of (by show _ ≤ (1 : Int); decide) (by show (1 : Int) ≤ _; decide), h, .of (by show _ ≤ (-1 : Int); decide) (by show (-1 : Int) ≤ _; decide), .of (by show _ ≤ (0 : Int); decide) (by show (0 : Int) ≤ _; decide), .of (by show _ ≤ (0 : Int); decide) (by show (0 : Int) ≤ _; decide), .of (by show _ ≤ (3 : Int); decide) (by show (3 : Int) ≤ _; decide), .of (by show _ ≤ (4 : Int); decide) (by show (4 : Int) ≤ _; decide)⟩
theorem cruise_free : freeE cruiseX 1 = 0 := by
  unfold freeE
  rw [cruise_e, if_neg (by simp), if_neg (by decide)]
set_option maxRecDepth 100000 in
set_option maxHeartbeats 8000000 in
theorem stockBegun_any (w : World) : Calls Tryz.prog 12 #[] w fun e w' => e = .returned (.bool true) ∧ Below w.heap.size w w' := by
  have hPR := fun p W h => Promises_any cruiseX p W h
  have hFR := fun p W h => stockFree_any cruiseX p 1 W h
  have hC2 := fun p W h => Could_any cruiseX p (lateX 2) none 0 0 W h (Sl.nil _ _ _ _) (lateX_in (.of (by decide) (by decide)))
  have hC4 := fun p W h => Could_any cruiseX p (lateX 4) none 0 0 W h (Sl.nil _ _ _ _) (lateX_in (.of (by decide) (by decide)))
  have hCK := fun p W h => saiCheck_any cruiseX p W h
  simp only [cruise_e, okL_zero, cruise_ids, cruise_edg] at hPR
  simp only [cruise_free, okL_zero, show takL cruiseX.bks 1 = [⟨1, 3⟩] from cruise_tak1, show gapsL [⟨1, 3⟩] cruiseX.ship.legs = [⟨0, 1⟩] from cruise_gaps] at hFR
  rw [late2.1, late2.2] at hC2
  rw [late4.1, late4.2] at hC4
  rw [cruise_e] at hCK
  have HPR := Lib.hid hPR
  clear hPR
  have HFR := Lib.hid hFR
  clear hFR
  have HC2 := Lib.hid hC2
  clear hC2
  have HC4 := Lib.hid hC4
  clear hC4
  have HCK := Lib.hid hCK
  clear hCK
  go_enter Tryz.func12, Tryz.ntmps12
  go_wp2_with fail
  refine (cruise_any _).mono ?_
  rintro e w1 ⟨p1, rfl, hS, hb⟩
  go_wp2_with fail
  refine (HPR.out p1 _ hS).mono ?_
  rintro e w2 ⟨v1, v2, xs1, xs2, rfl, hO1, hO2, hb2⟩
  obtain ⟨A1, n1, c1, rfl, _⟩ := hO1.sl intC_good
  obtain ⟨A2, n2, c2, rfl, _⟩ := hO2.sl edgC_good
  replace hb := hb.trans (hb2.mono hb.size)
  clear hb2 hS
  go_wp2_with fail
  refine (cruise_any _).mono ?_
  rintro e w3 ⟨p3, rfl, hS, hb2⟩
  replace hO1 := hO1.bel hb2
  replace hO2 := hO2.bel hb2
  replace hb := hb.trans (hb2.mono hb.size)
  clear hb2
  go_wp2_with fail
  refine (HFR.out p3 _ hS).mono ?_
  rintro e w4 ⟨v3, xs3, rfl, hO3, hb2⟩
  obtain ⟨A3, n3, c3, rfl, _⟩ := hO3.sl spanC_good
  replace hO1 := hO1.bel hb2
  replace hO2 := hO2.bel hb2
  replace hb := hb.trans (hb2.mono hb.size)
  clear hb2 hS
  go_wp2_with fail
  refine (promisedL_any _).mono ?_
  rintro e w5 ⟨rfl, hb2⟩
  replace hO1 := hO1.bel hb2
  replace hO2 := hO2.bel hb2
  replace hO3 := hO3.bel hb2
  replace hb := hb.trans (hb2.mono hb.size)
  clear hb2
  go_upto_region 4 with (fail)
  go_cut [6] (fun p wx => ∃ h, p = .pointer (some ⟨h, 0, none⟩) ∧ w5.heap.size ≤ h ∧ Blk wx h #[.int .i64 10, .int .i64 2, .int .i64 1, .int .i64 2, .bool false, .int .i64 (-1), .int .i64 0, .int .i64 0, .int .i64 3, .int .i64 4, .slice none 0 0] 42 ∧ Below w5.heap.size w5 wx)
  case first => as_aux_lemma =>
    go_wp2_with fail
    go_meet
    exact ⟨_, rfl, Nat.le_refl _, blk1 _ _, bel1 _ _⟩
  obtain ⟨h, rfl, hh, hH, hb2⟩ := hcut
  have hn1 := fun k hk => (hO1.lt k hk).2
  have hn2 := fun k hk => (hO2.lt k hk).2
  have hn3 := fun k hk => (hO3.lt k hk).2
  replace hO1 := hO1.bel hb2
  replace hO2 := hO2.bel hb2
  replace hO3 := hO3.bel hb2
  have hwh := hb.size
  replace hb := hb.trans (hb2.mono hb.size)
  clear hb2
  have HN := Lib.hid (show (Value.slice A1 n1 c1).ownBlock ≠ some h ∧ (Value.slice A2 n2 c2).ownBlock ≠ some h ∧ (Value.slice A3 n3 c3).ownBlock ≠ some h from ⟨fun e => by have := hn1 h e; omega, fun e => by have := hn2 h e; omega, fun e => by have := hn3 h e; omega⟩)
  clear hn1 hn2 hn3
  obtain ⟨W6, hW6⟩ : ∃ V, V = wc := ⟨_, rfl⟩
  subst hW6
  have HSH := Lib.hid (show ∀ X, Below W6.heap.size W6 X → (fun w' => w'.cell? ⟨h, 0, none⟩ = some (.int .i64 10) ∧ w'.cell? ⟨h, 1, none⟩ = some (.int .i64 2) ∧ w'.cell? ⟨h, 2, none⟩ = some (.int .i64 1) ∧ w'.cell? ⟨h, 3, none⟩ = some (.int .i64 2) ∧ w'.cell? ⟨h, 4, none⟩ = some (.bool false) ∧ w'.cell? ⟨h, 5, none⟩ = some (.int .i64 (-1)) ∧ w'.cell? ⟨h, 6, none⟩ = some (.int .i64 0) ∧ w'.cell? ⟨h, 7, none⟩ = some (.int .i64 0) ∧ w'.cell? ⟨h, 8, none⟩ = some (.int .i64 3) ∧ w'.cell? ⟨h, 9, none⟩ = some (.int .i64 4) ∧ w'.cell? ⟨h, 10, none⟩ = some (.slice none 0 0)) X from fun X hX => ⟨(hH.bel hX).cell rfl, (hH.bel hX).cell rfl, (hH.bel hX).cell rfl, (hH.bel hX).cell rfl, (hH.bel hX).cell rfl, (hH.bel hX).cell rfl, (hH.bel hX).cell rfl, (hH.bel hX).cell rfl, (hH.bel hX).cell rfl, (hH.bel hX).cell rfl, (hH.bel hX).cell rfl⟩)
  have HO1 := Lib.hid hO1
  clear hO1
  have HO2 := Lib.hid hO2
  clear hO2
  have HO3 := Lib.hid hO3
  clear hO3
  have HB := Lib.hid hb
  clear hb
  have HH := Lib.hid hH
  clear hH
  have hbx : Below W6.heap.size W6 W6.drew := (Below.refl _ W6).drew
  go_upto_region 5 with (fail)
  refine wp_region_held_drew (S := (fun w' => w'.cell? ⟨h, 0, none⟩ = some (.int .i64 10) ∧ w'.cell? ⟨h, 1, none⟩ = some (.int .i64 2) ∧ w'.cell? ⟨h, 2, none⟩ = some (.int .i64 1) ∧ w'.cell? ⟨h, 3, none⟩ = some (.int .i64 2) ∧ w'.cell? ⟨h, 4, none⟩ = some (.bool false) ∧ w'.cell? ⟨h, 5, none⟩ = some (.int .i64 (-1)) ∧ w'.cell? ⟨h, 6, none⟩ = some (.int .i64 0) ∧ w'.cell? ⟨h, 7, none⟩ = some (.int .i64 0) ∧ w'.cell? ⟨h, 8, none⟩ = some (.int .i64 3) ∧ w'.cell? ⟨h, 9, none⟩ = some (.int .i64 4) ∧ w'.cell? ⟨h, 10, none⟩ = some (.slice none 0 0))) (by kernel_rfl) (HSH.out _ hbx) (fun hHeld => ?_)
  refine wpAnyH_take (i := 1) (oi := ?o_1) (v := ?v_1) ?h_1 (by kernel_rfl) (by kernel_rfl) (by kernel_rfl) ?q_1 (Or.inl ⟨?w_1, ?y_1⟩) (by assumption) ?_
  case h_1 => (simp only [List.getElem?_toArray, List.getElem?_cons_succ, List.getElem?_cons_zero]; rfl)
  case q_1 => exact fun _ _ _ h => h
  case w_1 => rfl
  case y_1 => (intro w hSw; (try dsimp only at hSw); first | (go_simp; done) | (go_simp; with_reducible rfl))
  simp only [Act.put, List.setIfInBounds_toArray, List.set_cons_zero, List.set_cons_succ]
  refine wpAnyH_ready (rs := [0]) (by kernel_rfl) (by simp) ?_
  refine AllReadyH.cons (o := ?o_2) ?h_2 (fun K hK => ?_) AllReadyH.nil
  case h_2 => (simp only [List.getElem?_toArray, List.getElem?_cons_zero]; rfl)
  go_simp
  (go_at_call 54; refine (cruise_any _).mono ?_; rintro e w7 ⟨p7, rfl, hS, hb2⟩; replace hbx := hbx.trans (hb2.mono hbx.size); clear hb2)
  go_wp2_with fail
  refine hK.out _ _ ?_ (fun hHeld => ?_)
  · exact HSH.out _ hbx
  clear hK K
  try simp only [Act.put, List.setIfInBounds_toArray, List.set_cons_zero, List.set_cons_succ]
  refine wpAnyH_ready (rs := [2]) (by kernel_rfl) (by simp) ?_
  refine AllReadyH.cons (o := ?o_3) ?h_3 (fun K hK => ?_) AllReadyH.nil
  case h_3 => (simp only [List.getElem?_toArray, List.getElem?_cons_succ, List.getElem?_cons_zero]; rfl)
  go_simp
  (go_at_call 14; refine (HC2.out p7 _ hS).mono ?_; rintro e w8 ⟨rfl, hb2⟩; replace hbx := hbx.trans (hb2.mono hbx.size); clear hb2 hS)
  go_wp2_with fail
  refine hK.out _ _ ?_ (fun hHeld => ?_)
  · exact HSH.out _ hbx
  clear hK K
  try simp only [Act.put, List.setIfInBounds_toArray, List.set_cons_zero, List.set_cons_succ]
  refine wpAnyH_take (i := 3) (oi := ?o_4) (v := ?v_4) ?h_4 (by kernel_rfl) (by kernel_rfl) (by kernel_rfl) ?q_4 (Or.inl ⟨?w_4, ?y_4⟩) (by assumption) ?_
  case h_4 => (simp only [List.getElem?_toArray, List.getElem?_cons_succ, List.getElem?_cons_zero]; rfl)
  case q_4 => exact fun _ _ _ h => h
  case w_4 => rfl
  case y_4 => (intro w hSw; (try dsimp only at hSw); first | (go_simp; done) | (go_simp; with_reducible rfl))
  simp only [Act.put, List.setIfInBounds_toArray, List.set_cons_zero, List.set_cons_succ]
  refine wpAnyH_take (i := 4) (oi := ?o_5) (v := ?v_5) ?h_5 (by kernel_rfl) (by kernel_rfl) (by kernel_rfl) ?q_5 (Or.inl ⟨?w_5, ?y_5⟩) (by assumption) ?_
  case h_5 => (simp only [List.getElem?_toArray, List.getElem?_cons_succ, List.getElem?_cons_zero]; rfl)
  case q_5 => exact fun _ _ _ h => h
  case w_5 => rfl
  case y_5 => (intro w hSw; (try dsimp only at hSw); first | (go_simp; done) | (go_simp; with_reducible rfl))
  simp only [Act.put, List.setIfInBounds_toArray, List.set_cons_zero, List.set_cons_succ]
  refine wpAnyH_take (i := 5) (oi := ?o_6) (v := ?v_6) ?h_6 (by kernel_rfl) (by kernel_rfl) (by kernel_rfl) ?q_6 (Or.inl ⟨?w_6, ?y_6⟩) (by assumption) ?_
  case h_6 => (simp only [List.getElem?_toArray, List.getElem?_cons_succ, List.getElem?_cons_zero]; rfl)
  case q_6 => exact fun _ _ _ h => h
  case w_6 => rfl
  case y_6 => (intro w hSw; (try dsimp only at hSw); first | (go_simp; done) | (go_simp; with_reducible rfl))
  simp only [Act.put, List.setIfInBounds_toArray, List.set_cons_zero, List.set_cons_succ]
  refine wpAnyH_take (i := 6) (oi := ?o_7) (v := ?v_7) ?h_7 (by kernel_rfl) (by kernel_rfl) (by kernel_rfl) ?q_7 (Or.inl ⟨?w_7, ?y_7⟩) (by assumption) ?_
  case h_7 => (simp only [List.getElem?_toArray, List.getElem?_cons_succ, List.getElem?_cons_zero]; rfl)
  case q_7 => exact fun _ _ _ h => h
  case w_7 => rfl
  case y_7 => (intro w hSw; (try dsimp only at hSw); first | (go_simp; done) | (go_simp; with_reducible rfl))
  simp only [Act.put, List.setIfInBounds_toArray, List.set_cons_zero, List.set_cons_succ]
  refine wpAnyH_take (i := 7) (oi := ?o_8) (v := ?v_8) ?h_8 (by kernel_rfl) (by kernel_rfl) (by kernel_rfl) ?q_8 (Or.inl ⟨?w_8, ?y_8⟩) (by assumption) ?_
  case h_8 => (simp only [List.getElem?_toArray, List.getElem?_cons_succ, List.getElem?_cons_zero]; rfl)
  case q_8 => exact fun _ _ _ h => h
  case w_8 => rfl
  case y_8 => (intro w hSw; (try dsimp only at hSw); first | (go_simp; done) | (go_simp; with_reducible rfl))
  simp only [Act.put, List.setIfInBounds_toArray, List.set_cons_zero, List.set_cons_succ]
  refine wpAnyH_done (by kernel_rfl) ?_ _
  have hH := HH.out.bel hbx
  have hO1 := HO1.out.bel hbx
  have hO2 := HO2.out.bel hbx
  have hO3 := HO3.out.bel hbx
  have hb := HB.out.trans (hbx.mono HB.out.size)
  clear HO1 HO2 HO3 HB HH HSH hbx hHeld
  have f3 := hH.free 3
  have h3 : w8.cell? ⟨h, 3, none⟩ = some (.int .i64 2) := hH.cell rfl
  go_upto_region 6 with (fail)
  go_cut [6] (fun p wx => p = .pointer (some ⟨h, 0, none⟩) ∧ wx = w8.setCell ⟨h, 3, none⟩ (.int .i64 4))
  case first => as_aux_lemma =>
    go_wp2_with fail
    go_meet
    exact ⟨rfl, rfl⟩
  obtain ⟨rfl, rfl⟩ := hcut
  have p1 := own_setCell_flat intC_flat hO1 (a := ⟨h, 3, none⟩) HN.out.1 (.int .i64 4)
  have p2 := own_setCell_flat edgC_flat hO2 (a := ⟨h, 3, none⟩) HN.out.2.1 (.int .i64 4)
  have p3 := own_setCell_flat spanC_flat hO3 (a := ⟨h, 3, none⟩) HN.out.2.2 (.int .i64 4)
  have p4 : Blk (w8.setCell ⟨h, 3, none⟩ (.int .i64 4)) h #[.int .i64 10, .int .i64 2, .int .i64 1, .int .i64 4, .bool false, .int .i64 (-1), .int .i64 0, .int .i64 0, .int .i64 3, .int .i64 4, .slice none 0 0] 42 := hH.set (j := 3) (.int .i64 4)
  have p5 := hb.trans (((Kept.refl (fun k => k = h) w8).setCell (p := ⟨h, 3, none⟩) (.inl rfl) (.int .i64 4)).below (B := w.heap.size) hb.size (fun k hk e => by omega))
  clear f3 h3 hH hO1 hO2 hO3 hb
  obtain ⟨W9, hW9⟩ : ∃ V, V = w8.setCell ⟨h, 3, none⟩ (.int .i64 4) := ⟨_, rfl⟩
  rw [← hW9] at p1 p2 p3 p4 p5 ⊢
  clear hW9
  have HSH := Lib.hid (show ∀ X, Below W9.heap.size W9 X → (fun w' => w'.cell? ⟨h, 0, none⟩ = some (.int .i64 10) ∧ w'.cell? ⟨h, 1, none⟩ = some (.int .i64 2) ∧ w'.cell? ⟨h, 2, none⟩ = some (.int .i64 1) ∧ w'.cell? ⟨h, 3, none⟩ = some (.int .i64 4) ∧ w'.cell? ⟨h, 4, none⟩ = some (.bool false) ∧ w'.cell? ⟨h, 5, none⟩ = some (.int .i64 (-1)) ∧ w'.cell? ⟨h, 6, none⟩ = some (.int .i64 0) ∧ w'.cell? ⟨h, 7, none⟩ = some (.int .i64 0) ∧ w'.cell? ⟨h, 8, none⟩ = some (.int .i64 3) ∧ w'.cell? ⟨h, 9, none⟩ = some (.int .i64 4) ∧ w'.cell? ⟨h, 10, none⟩ = some (.slice none 0 0)) X from fun X hX => ⟨(p4.bel hX).cell rfl, (p4.bel hX).cell rfl, (p4.bel hX).cell rfl, (p4.bel hX).cell rfl, (p4.bel hX).cell rfl, (p4.bel hX).cell rfl, (p4.bel hX).cell rfl, (p4.bel hX).cell rfl, (p4.bel hX).cell rfl, (p4.bel hX).cell rfl, (p4.bel hX).cell rfl⟩)
  have HO1 := Lib.hid p1
  clear p1
  have HO2 := Lib.hid p2
  clear p2
  have HO3 := Lib.hid p3
  clear p3
  have HB := Lib.hid p5
  clear p5
  clear p4
  have hbx : Below W9.heap.size W9 W9.drew := (Below.refl _ W9).drew
  go_upto_region 7 with (fail)
  refine wp_region_held_drew (S := (fun w' => w'.cell? ⟨h, 0, none⟩ = some (.int .i64 10) ∧ w'.cell? ⟨h, 1, none⟩ = some (.int .i64 2) ∧ w'.cell? ⟨h, 2, none⟩ = some (.int .i64 1) ∧ w'.cell? ⟨h, 3, none⟩ = some (.int .i64 4) ∧ w'.cell? ⟨h, 4, none⟩ = some (.bool false) ∧ w'.cell? ⟨h, 5, none⟩ = some (.int .i64 (-1)) ∧ w'.cell? ⟨h, 6, none⟩ = some (.int .i64 0) ∧ w'.cell? ⟨h, 7, none⟩ = some (.int .i64 0) ∧ w'.cell? ⟨h, 8, none⟩ = some (.int .i64 3) ∧ w'.cell? ⟨h, 9, none⟩ = some (.int .i64 4) ∧ w'.cell? ⟨h, 10, none⟩ = some (.slice none 0 0))) (by kernel_rfl) (HSH.out _ hbx) (fun hHeld => ?_)
  refine wpAnyH_take (i := 1) (oi := ?o_9) (v := ?v_9) ?h_9 (by kernel_rfl) (by kernel_rfl) (by kernel_rfl) ?q_9 (Or.inl ⟨?w_9, ?y_9⟩) (by assumption) ?_
  case h_9 => (simp only [List.getElem?_toArray, List.getElem?_cons_succ, List.getElem?_cons_zero]; rfl)
  case q_9 => exact fun _ _ _ h => h
  case w_9 => rfl
  case y_9 => (intro w hSw; (try dsimp only at hSw); first | (go_simp; done) | (go_simp; with_reducible rfl))
  simp only [Act.put, List.setIfInBounds_toArray, List.set_cons_zero, List.set_cons_succ]
  refine wpAnyH_ready (rs := [0]) (by kernel_rfl) (by simp) ?_
  refine AllReadyH.cons (o := ?o_10) ?h_10 (fun K hK => ?_) AllReadyH.nil
  case h_10 => (simp only [List.getElem?_toArray, List.getElem?_cons_zero]; rfl)
  go_simp
  (go_at_call 54; refine (cruise_any _).mono ?_; rintro e w10 ⟨p10, rfl, hS, hb2⟩; replace hbx := hbx.trans (hb2.mono hbx.size); clear hb2)
  go_wp2_with fail
  refine hK.out _ _ ?_ (fun hHeld => ?_)
  · exact HSH.out _ hbx
  clear hK K
  try simp only [Act.put, List.setIfInBounds_toArray, List.set_cons_zero, List.set_cons_succ]
  refine wpAnyH_ready (rs := [2]) (by kernel_rfl) (by simp) ?_
  refine AllReadyH.cons (o := ?o_11) ?h_11 (fun K hK => ?_) AllReadyH.nil
  case h_11 => (simp only [List.getElem?_toArray, List.getElem?_cons_succ, List.getElem?_cons_zero]; rfl)
  go_simp
  (go_at_call 14; refine (HC4.out p10 _ hS).mono ?_; rintro e w11 ⟨rfl, hb2⟩; replace hbx := hbx.trans (hb2.mono hbx.size); clear hb2 hS)
  go_wp2_with fail
  refine hK.out _ _ ?_ (fun hHeld => ?_)
  · exact HSH.out _ hbx
  clear hK K
  try simp only [Act.put, List.setIfInBounds_toArray, List.set_cons_zero, List.set_cons_succ]
  refine wpAnyH_take (i := 3) (oi := ?o_12) (v := ?v_12) ?h_12 (by kernel_rfl) (by kernel_rfl) (by kernel_rfl) ?q_12 (Or.inl ⟨?w_12, ?y_12⟩) (by assumption) ?_
  case h_12 => (simp only [List.getElem?_toArray, List.getElem?_cons_succ, List.getElem?_cons_zero]; rfl)
  case q_12 => exact fun _ _ _ h => h
  case w_12 => rfl
  case y_12 => (intro w hSw; (try dsimp only at hSw); first | (go_simp; done) | (go_simp; with_reducible rfl))
  simp only [Act.put, List.setIfInBounds_toArray, List.set_cons_zero, List.set_cons_succ]
  refine wpAnyH_take (i := 4) (oi := ?o_13) (v := ?v_13) ?h_13 (by kernel_rfl) (by kernel_rfl) (by kernel_rfl) ?q_13 (Or.inl ⟨?w_13, ?y_13⟩) (by assumption) ?_
  case h_13 => (simp only [List.getElem?_toArray, List.getElem?_cons_succ, List.getElem?_cons_zero]; rfl)
  case q_13 => exact fun _ _ _ h => h
  case w_13 => rfl
  case y_13 => (intro w hSw; (try dsimp only at hSw); first | (go_simp; done) | (go_simp; with_reducible rfl))
  simp only [Act.put, List.setIfInBounds_toArray, List.set_cons_zero, List.set_cons_succ]
  refine wpAnyH_take (i := 5) (oi := ?o_14) (v := ?v_14) ?h_14 (by kernel_rfl) (by kernel_rfl) (by kernel_rfl) ?q_14 (Or.inl ⟨?w_14, ?y_14⟩) (by assumption) ?_
  case h_14 => (simp only [List.getElem?_toArray, List.getElem?_cons_succ, List.getElem?_cons_zero]; rfl)
  case q_14 => exact fun _ _ _ h => h
  case w_14 => rfl
  case y_14 => (intro w hSw; (try dsimp only at hSw); first | (go_simp; done) | (go_simp; with_reducible rfl))
  simp only [Act.put, List.setIfInBounds_toArray, List.set_cons_zero, List.set_cons_succ]
  refine wpAnyH_take (i := 6) (oi := ?o_15) (v := ?v_15) ?h_15 (by kernel_rfl) (by kernel_rfl) (by kernel_rfl) ?q_15 (Or.inl ⟨?w_15, ?y_15⟩) (by assumption) ?_
  case h_15 => (simp only [List.getElem?_toArray, List.getElem?_cons_succ, List.getElem?_cons_zero]; rfl)
  case q_15 => exact fun _ _ _ h => h
  case w_15 => rfl
  case y_15 => (intro w hSw; (try dsimp only at hSw); first | (go_simp; done) | (go_simp; with_reducible rfl))
  simp only [Act.put, List.setIfInBounds_toArray, List.set_cons_zero, List.set_cons_succ]
  refine wpAnyH_take (i := 7) (oi := ?o_16) (v := ?v_16) ?h_16 (by kernel_rfl) (by kernel_rfl) (by kernel_rfl) ?q_16 (Or.inl ⟨?w_16, ?y_16⟩) (by assumption) ?_
  case h_16 => (simp only [List.getElem?_toArray, List.getElem?_cons_succ, List.getElem?_cons_zero]; rfl)
  case q_16 => exact fun _ _ _ h => h
  case w_16 => rfl
  case y_16 => (intro w hSw; (try dsimp only at hSw); first | (go_simp; done) | (go_simp; with_reducible rfl))
  simp only [Act.put, List.setIfInBounds_toArray, List.set_cons_zero, List.set_cons_succ]
  refine wpAnyH_done (by kernel_rfl) ?_ _
  have hs1 := HO1.out.bel hbx
  have hs2 := HO2.out.bel hbx
  have hs3 := HO3.out.bel hbx
  have hb := HB.out.trans (hbx.mono HB.out.size)
  clear HO1 HO2 HO3 HB HSH hbx hHeld
  obtain ⟨_, _, _, hv, hs1⟩ := hs1.sl intC_good
  simp only [Value.slice.injEq] at hv
  obtain ⟨rfl, rfl, rfl⟩ := hv
  obtain ⟨_, _, _, hv, hs2⟩ := hs2.sl edgC_good
  simp only [Value.slice.injEq] at hv
  obtain ⟨rfl, rfl, rfl⟩ := hv
  obtain ⟨_, _, _, hv, hs3⟩ := hs3.sl spanC_good
  simp only [Value.slice.injEq] at hv
  obtain ⟨rfl, rfl, rfl⟩ := hv
  replace hs1 := hs1.all intC_good (by omega)
  replace hs2 := hs2.all edgC_good (by omega)
  replace hs3 := hs3.all spanC_good (by omega)
  go_wp2_with fail
  refine (cruise_any _).mono ?_
  rintro e w12 ⟨p12, rfl, hS, hb2⟩
  replace hs1 := hs1.bel hb2
  replace hs2 := hs2.bel hb2
  replace hs3 := hs3.bel hb2
  replace hb := hb.trans (hb2.mono hb.size)
  clear hb2
  go_wp2_with fail
  refine (HCK.out p12 _ hS).mono ?_
  rintro e w13 ⟨rfl, hb2⟩
  replace hs1 := hs1.bel hb2
  replace hs2 := hs2.bel hb2
  replace hs3 := hs3.bel hb2
  replace hb := hb.trans (hb2.mono hb.size)
  clear hb2 hS
  go_wp2_with fail
  have q1 : Sl intC 1 (w13.alloc (.cells #[.int .i64 9] 3)) All (some ⟨w13.heap.size, 0, none⟩) 1 1 [9] := Sl.ofInts [9] (Blk.new w13 _ _) (by decide) trivial (by decide)
  replace hs1 := hs1.bel (bel1 w13 (.cells #[.int .i64 9] 3))
  replace hs2 := hs2.bel (bel1 w13 (.cells #[.int .i64 9] 3))
  replace hs3 := hs3.bel (bel1 w13 (.cells #[.int .i64 9] 3))
  replace hb := hb.alloc hb.size (.cells #[.int .i64 9] 3)
  refine (SameInts_any _ _ _ _ _ _ [9] [9] _ hs1 q1).mono ?_
  rintro e w14 ⟨rfl, k, hk⟩
  have hb2 : Below (w13.alloc (.cells #[.int .i64 9] 3)).heap.size (w13.alloc (.cells #[.int .i64 9] 3)) w14 := by rw [hk]; exact below_drewN (Below.refl _ _) _
  replace hs2 := hs2.bel hb2
  replace hs3 := hs3.bel hb2
  replace hb := hb.trans (hb2.mono hb.size)
  clear hb2 q1 hs1 hk
  have hd1 : decide (([9] : List Int) = [9]) = true := by decide
  go_wp2_with fail
  have q1 : Sl edgC 2 (w14.alloc (.cells #[.int .i64 0, .int .i64 0, .int .i64 0, .int .i64 2] 95)) All (some ⟨w14.heap.size, 0, none⟩) 2 2 [⟨0, 0⟩, ⟨0, 2⟩] := Sl.ofEdgs [⟨0, 0⟩, ⟨0, 2⟩] (Blk.new w14 _ _) (by decide) trivial rfl (fun x hx => by simp only [List.mem_cons, List.not_mem_nil, or_false] at hx; rcases hx with rfl | rfl <;> exact ⟨.of (by decide) (by decide), .of (by decide) (by decide)⟩)
  replace hs2 := hs2.bel (bel1 w14 (.cells #[.int .i64 0, .int .i64 0, .int .i64 0, .int .i64 2] 95))
  replace hs3 := hs3.bel (bel1 w14 (.cells #[.int .i64 0, .int .i64 0, .int .i64 0, .int .i64 2] 95))
  replace hb := hb.alloc hb.size (.cells #[.int .i64 0, .int .i64 0, .int .i64 0, .int .i64 2] 95)
  refine (SameEdges_any _ _ _ _ _ _ [⟨0, 0⟩, ⟨0, 2⟩] [⟨0, 0⟩, ⟨0, 2⟩] _ hs2 q1).mono ?_
  rintro e w15 ⟨rfl, k, hk⟩
  have hb2 : Below (w14.alloc (.cells #[.int .i64 0, .int .i64 0, .int .i64 0, .int .i64 2] 95)).heap.size (w14.alloc (.cells #[.int .i64 0, .int .i64 0, .int .i64 0, .int .i64 2] 95)) w15 := by rw [hk]; exact below_drewN (Below.refl _ _) _
  replace hs3 := hs3.bel hb2
  replace hb := hb.trans (hb2.mono hb.size)
  clear hb2 q1 hs2 hk
  have hd2 : decide (([⟨0, 0⟩, ⟨0, 2⟩] : List Edg) = [⟨0, 0⟩, ⟨0, 2⟩]) = true := by decide
  go_wp2_with fail
  have q1 : Sl spanC 2 (w15.alloc (.cells #[.int .i64 0, .int .i64 1] 39)) All (some ⟨w15.heap.size, 0, none⟩) 1 1 [⟨0, 1⟩] := Sl.ofSpans [⟨0, 1⟩] (Blk.new w15 _ _) (by decide) trivial rfl (fun x hx => by simp only [List.mem_singleton] at hx; subst hx; exact ⟨.of (by decide) (by decide), .of (by decide) (by decide)⟩)
  replace hs3 := hs3.bel (bel1 w15 (.cells #[.int .i64 0, .int .i64 1] 39))
  replace hb := hb.alloc hb.size (.cells #[.int .i64 0, .int .i64 1] 39)
  refine (SameSpans_any _ _ _ _ _ _ [⟨0, 1⟩] [⟨0, 1⟩] _ hs3 q1).mono ?_
  rintro e w16 ⟨rfl, k, hk⟩
  have hb2 : Below (w15.alloc (.cells #[.int .i64 0, .int .i64 1] 39)).heap.size (w15.alloc (.cells #[.int .i64 0, .int .i64 1] 39)) w16 := by rw [hk]; exact below_drewN (Below.refl _ _) _
  replace hb := hb.trans (hb2.mono hb.size)
  clear hb2 q1 hs3 hk
  have hd3 : decide (([⟨0, 1⟩] : List Span) = [⟨0, 1⟩]) = true := by decide
  go_wp2_with fail
  go_ret
  exact ⟨rfl, hb⟩
end Go.Proofs.YtlablioefblmkaaGreat
/-
  Sailings: plain laws: what is so of a sailing that is right (StockKept).
-/
namespace Go.Proofs.YtlablioefblmkaaGreat
open Go.RowKit Go.Shelf

theorem room_ok {x : Sai} (h : roomE x = 0) : twiceB x = false ∧ ¬ x.ship.souls < mx (soulL x.bks x.ship.legs.toNat) ∧ allB (idsL x).length (edgL x) = true := by
  unfold roomE at h
  by_cases h1 : twiceB x = true
  · rw [if_pos h1] at h; omega
  rw [if_neg h1] at h
  by_cases h2 : x.ship.souls < mx (soulL x.bks x.ship.legs.toNat)
  · rw [if_pos h2] at h; omega
  rw [if_neg h2] at h
  by_cases h3 : allB (idsL x).length (edgL x) = true
  · exact ⟨Bool.eq_false_iff.2 h1, h2, h3⟩
  · rw [if_neg h3] at h; omega
theorem edgF_from (x : Sai) : ∀ (l : List Bkg) (i : Nat), ∀ e ∈ edgF x l i, (i : Int) ≤ e.lft
  | [], _, e, he => by simp [edgF] at he
  | b :: l, i, e, he => by
    simp only [edgF, List.mem_append, List.mem_map] at he
    rcases he with ⟨c, _, rfl⟩ | he
    · exact Int.le_refl _
    · have := edgF_from x l (i + 1) e he; omega
theorem mayL_nodup (x : Sai) (b : Bkg) : (mayL x b).Nodup := by
  unfold mayL
  exact List.pairwise_map.2 ((List.Pairwise.filter _ List.nodup_range).imp fun h e => h (Int.ofNat.inj e))
theorem edgF_nodup (x : Sai) : ∀ (l : List Bkg) (i : Nat), (edgF x l i).Nodup
  | [], _ => by simp [edgF]
  | b :: l, i => by
    simp only [edgF]
    refine List.nodup_append.2 ⟨List.pairwise_map.2 ((mayL_nodup x b).imp fun h e => h (by simpa using e)), edgF_nodup x l (i + 1), fun e he e' he' => ?_⟩
    rintro rfl
    obtain ⟨c, _, rfl⟩ := List.mem_map.1 he
    have := edgF_from x l (i + 1) _ he'
    simp only at this
    omega
theorem edgL_gr {x : Sai} (hn : (idsL x).length ≤ 16) (hm : x.ship.cabs.length ≤ 16) : grE (idsL x).length x.ship.cabs.length (edgL x) = 0 := by
  unfold grE
  rw [if_neg (by unfold sidesB; rw [betB_true (by omega) (by omega), betB_true (by omega) (by omega)]; simp)]
  refine firstE_none fun i hi => ?_
  have hx : (edgL x)[i]? = some ((edgL x)[i]) := List.getElem?_eq_getElem hi
  obtain ⟨h1, h2, h3, h4⟩ := edgL_ok x _ (List.getElem_mem hi)
  rw [edgE_at hx, if_neg (by unfold inE; rw [betB_true (by omega) (by omega), betB_true (by omega) (by omega)]; simp), if_neg (by
    intro hc
    have hc := List.contains_iff_mem.1 hc
    obtain ⟨j, hj, e⟩ := List.getElem_of_mem hc
    rw [List.getElem_take] at e
    have hjl : j < i := by rw [List.length_take] at hj; omega
    exact (List.pairwise_iff_getElem.1 (show (edgL x).Nodup from edgF_nodup x _ 0) j i (by omega) hi hjl) e)]
theorem kept_size {x : Sai} {ml : List Edg} (h : roomE x = 0) (hn : (idsL x).length ≤ 16) (hm : x.ship.cabs.length ≤ 16) (hk : MostOk (idsL x).length x.ship.cabs.length (edgL x) ml) : ml.length = (idsL x).length := by
  obtain ⟨_, has, no, D, ha, e⟩ := hk.2 _ _ rfl rfl (edgL_gr hn hm)
  have h1 := allB_asked ha (edgL_ok x)
  rw [(room_ok h).2.2] at h1
  have := of_decide_eq_true h1.symm
  omega
theorem idsL_len (x : Sai) : (idsL x).length ≤ x.bks.length := by
  unfold idsL openL
  rw [List.length_map]
  exact List.length_filter_le _ _
theorem of_all {x : Sai} (h : bksE x = 0) : ∀ (i : Nat) (b : Bkg), x.bks[i]? = some b → ofE x.ship b = 0 := by
  unfold bksE at h
  by_cases h1 : 16 < x.bks.length
  · rw [if_pos h1] at h; omega
  rw [if_neg h1] at h
  by_cases h2 : firstE (bkE1 x) x.bks.length ≠ 0
  · rw [if_pos h2] at h; exact absurd h h2
  have h2 : firstE (bkE1 x) x.bks.length = 0 := Decidable.not_not.1 h2
  intro i b hb
  have h3 := firstE_zero h2 i (List.getElem?_eq_some_iff.1 hb).1
  rw [bkE1_at hb] at h3
  by_cases h4 : ofE x.ship b ≠ 0
  · rw [if_pos h4] at h3; exact absurd h3 h4
  · exact Decidable.not_not.1 h4
theorem bks_zero {x : Sai} (h : saiE x = 0) : shipE x.ship = 0 ∧ bksE x = 0 := by
  unfold saiE at h
  by_cases h1 : shipE x.ship ≠ 0
  · rw [if_pos h1] at h; exact absurd h h1
  rw [if_neg h1] at h
  by_cases h2 : fareE x.fares x.ship.cats.length x.ship.legs ≠ 0
  · rw [if_pos h2] at h; exact absurd h h2
  rw [if_neg h2] at h
  by_cases h3 : (betB x.day 0 9999 && betB x.leaves 0 9999) = false
  · rw [if_pos h3] at h; omega
  rw [if_neg h3] at h
  by_cases h4 : bksE x ≠ 0
  · rw [if_pos h4] at h; exact absurd h h4
  · exact ⟨Decidable.not_not.1 h1, Decidable.not_not.1 h4⟩
theorem all_zero {x : Sai} (h : saiE x = 0) : allE x.ship x.bks = 0 := by
  obtain ⟨h1, h2⟩ := bks_zero h
  unfold allE
  rw [if_neg (by rw [h1]; simp)]
  refine firstE_none fun i hi => ?_
  have hx : x.bks[i]? = some x.bks[i] := List.getElem?_eq_getElem hi
  rw [List.getD_eq_getElem?_getD, hx]
  exact of_all h2 i _ hx
theorem kept_souls {x : Sai} (h : roomE x = 0) : ∀ s ∈ soulL x.bks x.ship.legs.toNat, s ≤ x.ship.souls := fun s hs => by
  have := (room_ok h).2.1
  have := mx_ge hs
  omega
theorem kept_sulE {x : Sai} (h : saiE x = 0) : sulE x.ship x.bks = 0 ∨ sulE x.ship x.bks = 2 := by
  unfold sulE
  rw [all_zero h, if_neg (by simp)]
  split
  · exact .inr rfl
  · exact .inl rfl
theorem cab_lt {x : Shp} {b : Bkg} (h : kindE x b = 0) : b.cab < x.cabs.length := by
  unfold kindE at h
  by_cases h1 : b.kind = 2
  · rw [if_pos h1] at h
    unfold promE at h
    by_cases h2 : betB b.cat 0 ((x.cats.length : Int) - 1) = false
    · rw [if_pos h2] at h; omega
    rw [if_neg h2] at h
    by_cases h3 : b.frm ≠ 0 ∨ b.upto ≠ x.legs
    · rw [if_pos h3] at h; omega
    rw [if_neg h3] at h
    by_cases h4 : betB b.cab (-1) ((x.cabs.length : Int) - 1) = false
    · rw [if_pos h4] at h; omega
    have := betB_iff.1 (not_false_of h4)
    omega
  · rw [if_neg h1] at h
    unfold namedE at h
    by_cases h4 : betB b.cab 0 ((x.cabs.length : Int) - 1) = false
    · rw [if_pos h4] at h; omega
    have := betB_iff.1 (not_false_of h4)
    omega
theorem sp_seven {f u : Int} (h : 0 ≤ f) (h2 : f < u) (h3 : u ≤ 7) : spanE ⟨f, u⟩ 7 = 0 := by
  unfold spanE
  rw [if_neg (by simp only [not_or]; exact ⟨by decide, by omega, by omega⟩), if_neg (by show ¬ u ≤ f; omega)]
theorem kept_apart {x : Sai} (ho : OkBs x) (h2 : twiceB x = false) {i j : Nat} {a b : Bkg} (hji : j < i) (hi : x.bks[i]? = some a) (hj : x.bks[j]? = some b) (hl : a.state ≠ 3) (hl2 : b.state ≠ 3) (hc : 0 ≤ a.cab) (he : a.cab = b.cab) :
    meetsE ⟨a.frm, a.upto⟩ ⟨b.frm, b.upto⟩ = 0 ∧ meetB ⟨a.frm, a.upto⟩ ⟨b.frm, b.upto⟩ = false := by
  have ha := ho.bk a (List.mem_of_getElem? hi)
  have hb := ho.bk b (List.mem_of_getElem? hj)
  have sa := bk_span ho.ship ha
  have sb := bk_span ho.ship hb
  have hlegs : x.ship.legs ≤ 7 := (span_ok ha.span).2.1
  refine ⟨?_, ?_⟩
  · unfold meetsE
    rw [sp_seven sa.1 sa.2.1 (by omega), if_neg (by simp), sp_seven sb.1 sb.2.1 (by omega)]
  · have hlt := cab_lt ha.kindE
    have htk : takB x.bks ((a.cab.toNat : Nat) : Int) = true := by
      unfold twiceB at h2
      have := List.any_eq_false.1 h2 a.cab.toNat (List.mem_range.2 (by omega))
      simpa using this
    rw [show ((a.cab.toNat : Nat) : Int) = a.cab by omega] at htk
    unfold takB at htk
    obtain ⟨out, hout⟩ := Option.isSome_iff_exists.1 htk
    have hok := spOk_of ho.ship ho.bk
    obtain ⟨hp, hpw⟩ := spF_some (fun s hs => by
      unfold spL at hs
      obtain ⟨q, hq, rfl⟩ := List.mem_map.1 hs
      exact (bk_span ho.ship (ho.bk q (List.mem_filter.1 hq).1)).2.1) hout
    have hpw2 : out.Pairwise (fun s t => meetB s t = false) := hpw.imp fun {s t} h => by unfold meetB; simp; omega
    have hls : (spL x.bks a.cab).Pairwise (fun s t => meetB s t = false) := (hp.pairwise_iff (fun {s t} h => by unfold meetB at h ⊢; simp at h ⊢; omega)).1 hpw2
    unfold spL at hls
    have hls := List.pairwise_filter.1 (List.pairwise_map.1 hls)
    obtain ⟨hil, rfl⟩ := List.getElem?_eq_some_iff.1 hi
    obtain ⟨hjl, rfl⟩ := List.getElem?_eq_some_iff.1 hj
    have := List.pairwise_iff_getElem.1 hls j i hjl hil hji (by unfold hasB liveB; simp [hl2, he]) (by unfold hasB liveB; simp [hl])
    unfold meetB at this ⊢
    simp at this ⊢
    omega
end Go.Proofs.YtlablioefblmkaaGreat
/-
  From a walk over a law to the given statement: how each argument that can be read as data comes to be data of mine.
-/
namespace Go.Proofs.YtlablioefblmkaaGreat
open Go.ChangeShapes Go.WideShapes Go.ChangeAt Go.RowKit

theorem own : ownKnob Tryz.prog.godebug = none := by kernel_rfl
theorem laidOut : laidOutB Tryz.prog = true := by kernel_rfl

theorem InI.of_wf {n : Int} (h : (Lit.int .i64 n).wf = true) : InI n := bounds_i64 h

/-- What reads as data of type t is data of the codec. -/
def Opens {α : Type} (c : Cod α) (t : TypeId) : Prop :=
  ∀ {H : Type} {enc : TypeId × Value → H} {W : World} {base : Nat} {spare : Nat → Bool} {held : Bool} {fuel : Nat} {cs : List Value} {x : DataW H × List MemPlace}, DataW.trod enc Tryz.prog W base (fun b => spare b) held fuel t cs = some x → ∃ a, c W All a cs

theorem opens_int {t : TypeId} (ht : Tryz.prog.underlying t = some (.int .i64)) : Opens intC t := fun h => by
  obtain ⟨n, rfl, _, hw⟩ := DataW.trod_int ht h
  exact ⟨n, rfl, .of_wf hw⟩
theorem opens_bool {t : TypeId} (ht : Tryz.prog.underlying t = some .bool) : Opens boolC t := fun h => by
  obtain ⟨n, rfl, _⟩ := DataW.trod_bool ht h
  exact ⟨n, rfl⟩

theorem opens_sl {α : Type} {c : Cod α} {size : Nat} {t e : TypeId} (ht : Tryz.prog.underlying t = some (.slice e)) (hs : Tryz.prog.cellsOf e = size) (hp : 0 < size) (he : Opens c e) : Opens (slC c size) t := by
  intro H enc W base spare held fuel cs x h
  rcases Deep.open_slice ht h with ⟨rfl, _⟩ | ⟨a, len, cap, m, n, D, Pl, rfl, _, hl, hm, hmm, _, hi⟩
  · exact ⟨[], none, 0, 0, rfl, Sl.nil _ _ _ _⟩
  · have hlm : len ≤ m := by rw [hmm]; split <;> omega
    have key : ∀ i : Fin len, ∃ a' : α, ∃ b off cs', a = ⟨b, off, none⟩ ∧ c W All a' cs' ∧ cs'.length = size ∧ ∀ j u, cs'[j]? = some u → W.cell? ⟨b, off + i.1 * size + j, none⟩ = some u := fun i => by
      obtain ⟨cs', hc, ht'⟩ := hi i.1 (by omega)
      obtain ⟨a', ha'⟩ := he ht'
      rw [hs] at hc
      obtain ⟨_, hcl, hat⟩ := World.cells?_some hc
      have hspot : a.spot = none := by
        have h0 := hat 0 hp
        rw [List.getElem?_eq_getElem (by omega)] at h0
        have h1 := World.cell?_spot h0
        simp only [Addr.add] at h1
        by_cases hi0 : i.1 * size = 0
        · simpa [hi0] using h1
        · have h2 := World.cell?_spot h0
          have hi1 : 0 < size := hp
          -- an address that was moved on bears no spot of its own: ask the first element's
          obtain ⟨cs0, hc0, _⟩ := hi 0 (by have := i.2; omega)
          rw [hs] at hc0
          obtain ⟨_, hcl0, hat0⟩ := World.cells?_some hc0
          have h00 := hat0 0 hp
          rw [List.getElem?_eq_getElem (by omega)] at h00
          have h01 := World.cell?_spot h00
          simpa [Addr.add] using h01
      obtain ⟨b, off, sp⟩ := a
      simp only at hspot
      subst hspot
      refine ⟨a', b, off, cs', rfl, ha', hcl, fun j u hu => ?_⟩
      have hj : j < size := by rw [← hcl]; exact (List.getElem?_eq_some_iff.1 hu).1
      have h3 := (hat j hj).trans hu
      have hadd : ((⟨b, off, none⟩ : Addr).add (i.1 * size)).add j = ⟨b, off + i.1 * size + j, none⟩ := by
        rw [Deep.add_add]
        generalize i.1 * size = q
        unfold Addr.add
        split
        · next h0 => simp only [Addr.mk.injEq, true_and, and_true]; omega
        · simp only [Addr.mk.injEq, true_and, and_true]; omega
      rw [hadd] at h3
      exact h3
    have hch : ∃ f : Fin len → α, ∀ i, ∃ b off cs', a = ⟨b, off, none⟩ ∧ c W All (f i) cs' ∧ cs'.length = size ∧ ∀ j u, cs'[j]? = some u → W.cell? ⟨b, off + i.1 * size + j, none⟩ = some u :=
      ⟨fun i => Classical.choose (key i), fun i => Classical.choose_spec (key i)⟩
    obtain ⟨f, hf⟩ := hch
    refine ⟨List.ofFn f, some a, len, cap, rfl, by simp, hl, hm, fun i y hy => ?_⟩
    have hilt : i < len := by have := (List.getElem?_eq_some_iff.1 hy).1; simpa using this
    rw [List.getElem?_eq_getElem (by simpa using hilt)] at hy
    simp only [List.getElem_ofFn, Option.some.injEq] at hy
    obtain ⟨b, off, cs', ha, hc, hcl, hcell⟩ := hf ⟨i, hilt⟩
    rw [← hy, ha]
    exact ⟨b, off, cs', rfl, trivial, hc, hcl, hcell⟩

section
variable {H : Type} {enc : TypeId × Value → H} {W : World} {base : Nat} {t : TypeId} {v : Value} {d : DataW H} {p : List MemPlace}

set_option maxRecDepth 100000 in
theorem arg_int (ht : Tryz.prog.underlying t = some (.int .i64)) (hv : Value.okWide Tryz.prog W .any base t v) (h : DataW.Trod enc Tryz.prog W 0 (fun _ => true) true t v d p) : ∃ n, v = .int .i64 n ∧ InI n := by
  obtain ⟨n, rfl⟩ := okWide_int ht hv
  obtain ⟨fuel, hf⟩ := h
  obtain ⟨m, hm, _, hw⟩ := DataW.trod_int ht hf
  simp [Value.cells] at hm
  subst hm
  exact ⟨n, rfl, .of_wf hw⟩
set_option maxRecDepth 100000 in
theorem arg_bool (ht : Tryz.prog.underlying t = some .bool) (hv : Value.okWide Tryz.prog W .any base t v) : ∃ b, v = .bool b := okWide_bool ht hv
set_option maxRecDepth 100000 in
theorem arg_string (ht : Tryz.prog.underlying t = some .string) (hv : Value.okWide Tryz.prog W .any base t v) (h : DataW.Trod enc Tryz.prog W 0 (fun _ => true) true t v d p) : ∃ s : ByteArray, v = .string s ∧ s.size ≤ maxLen := by
  obtain ⟨n, rfl⟩ := okWide_string ht hv
  obtain ⟨fuel, hf⟩ := h
  obtain ⟨m, hm, _, hw⟩ := DataW.trod_string ht hf
  simp [Value.cells] at hm
  subst hm
  exact ⟨n, rfl, hw⟩
set_option maxRecDepth 100000 in
theorem arg_sl {α : Type} {c : Cod α} {size : Nat} {e : TypeId} (ht : Tryz.prog.underlying t = some (.slice e)) (hs : Tryz.prog.cellsOf e = size) (hp : 0 < size) (he : Opens c e) (hv : Value.okWide Tryz.prog W .any base t v)
    (h : DataW.Trod enc Tryz.prog W 0 (fun _ => true) true t v d p) : ∃ A n cap l, v = .slice A n cap ∧ Sl c size W All A n cap l := by
  obtain ⟨A, n, cap, rfl⟩ := okWide_slice ht hv
  obtain ⟨fuel, hf⟩ := h
  obtain ⟨l, A', n', cap', hcs, hsl⟩ := opens_sl ht hs hp he hf
  simp [Value.cells] at hcs
  obtain ⟨rfl, rfl, rfl⟩ := hcs
  exact ⟨_, _, _, l, rfl, hsl⟩
set_option maxRecDepth 100000 in
theorem arg_agg {α : Type} {c : Cod α} {fs : Array Field} (ht : Tryz.prog.underlying t = some (.struct fs)) (he : Opens c t) (hv : Value.okWide Tryz.prog W .any base t v)
    (h : DataW.Trod enc Tryz.prog W 0 (fun _ => true) true t v d p) : ∃ cs x, v = .agg cs ∧ c W All x cs.toList := by
  obtain ⟨cs, rfl, _⟩ := okWide_struct ht hv
  obtain ⟨fuel, hf⟩ := h
  obtain ⟨x, hx⟩ := he hf
  exact ⟨cs, x, rfl, by simpa [Value.cells] using hx⟩
set_option maxRecDepth 100000 in
theorem arg_lt (h : DataW.Trod enc Tryz.prog W 0 (fun _ => true) true t v d p) : ∀ x ∈ p, x.block < W.heap.size := by
  obtain ⟨m, hm⟩ := h
  exact DataW.trod_lt m _ _ _ hm
end
end Go.Proofs.YtlablioefblmkaaGreat
/-
  What reads as a span is a span.
-/
namespace Go.Proofs.YtlablioefblmkaaGreat
open Go.ChangeShapes Go.WideShapes Go.ChangeAt Go.RowKit

set_option maxRecDepth 100000 in
theorem opens_spanC : Opens spanC 39 := by
  intro H enc W base spare held fuel cs x h
  obtain ⟨xs, n, _, _, hl, hxl, hf⟩ := DataW.trod_struct Tryz.underlying39 h
  rw [show Tryz.prog.cellsOf 39 = 2 by kernel_rfl] at hl
  match xs, hxl with
  | [y0, y1], _ =>
    match cs, hl with
    | [c0, c1], _ =>
      have f0 := hf 0 _ rfl
      have f1 := hf 1 _ rfl
      simp [show Tryz.prog.cellsOf 3 = 1 by kernel_rfl] at f0 f1
      obtain ⟨a, ea, _, wa⟩ := DataW.trod_int Tryz.underlying3 f0
      obtain ⟨b, eb, _, wb⟩ := DataW.trod_int Tryz.underlying3 f1
      simp at ea eb
      subst ea eb
      exact ⟨⟨a, b⟩, rfl, .of_wf wa, .of_wf wb⟩
end Go.Proofs.YtlablioefblmkaaGreat
/-
  What reads as a ship is a ship.
-/
namespace Go.Proofs.YtlablioefblmkaaGreat
open Go.ChangeShapes Go.WideShapes Go.ChangeAt Go.RowKit

theorem opens_str {t : TypeId} (ht : Tryz.prog.underlying t = some .string) : Opens strC t := fun h => by
  obtain ⟨n, rfl, _, hw⟩ := DataW.trod_string ht h
  refine ⟨n.data.toList, ?_, by simpa using hw⟩
  simp

set_option maxRecDepth 100000 in
theorem opens_catC : Opens catC 147 := by
  intro H enc W base spare held fuel cs x h
  obtain ⟨xs, n, _, _, hl, hxl, hf⟩ := DataW.trod_struct Tryz.underlying147 h
  rw [show Tryz.prog.cellsOf 147 = 2 by kernel_rfl] at hl
  match xs, hxl with
  | [y0, y1], _ =>
    match cs, hl with
    | [c0, c1], _ =>
      have f0 := hf 0 _ rfl
      have f1 := hf 1 _ rfl
      simp [show Tryz.prog.cellsOf 9 = 1 by kernel_rfl, show Tryz.prog.cellsOf 44 = 1 by kernel_rfl] at f0 f1
      obtain ⟨s, e0, hs⟩ := opens_str Tryz.underlying9 f0
      obtain ⟨L, A, m, cap, e1, h1⟩ := opens_sl (size := 1) Tryz.underlying44 (by kernel_rfl) (by omega) (opens_int Tryz.underlying3) f1
      simp at e0 e1
      subst e0 e1
      exact ⟨⟨s, L⟩, _, _, _, rfl, h1, hs⟩
set_option maxRecDepth 100000 in
theorem opens_cabC : Opens cabC 106 := by
  intro H enc W base spare held fuel cs x h
  obtain ⟨xs, n, _, _, hl, hxl, hf⟩ := DataW.trod_struct Tryz.underlying106 h
  rw [show Tryz.prog.cellsOf 106 = 4 by kernel_rfl] at hl
  match xs, hxl with
  | [y0, y1, y2, y3], _ =>
    match cs, hl with
    | [c0, c1, c2, c3], _ =>
      have f0 := hf 0 _ rfl
      have f1 := hf 1 _ rfl
      have f2 := hf 2 _ rfl
      have f3 := hf 3 _ rfl
      simp [show Tryz.prog.cellsOf 9 = 1 by kernel_rfl, show Tryz.prog.cellsOf 3 = 1 by kernel_rfl, show Tryz.prog.cellsOf 4 = 1 by kernel_rfl] at f0 f1 f2 f3
      obtain ⟨s, e0, hs⟩ := opens_str Tryz.underlying9 f0
      obtain ⟨a, ea, _, wa⟩ := DataW.trod_int Tryz.underlying3 f1
      obtain ⟨b, eb, _, wb⟩ := DataW.trod_int Tryz.underlying3 f2
      obtain ⟨v, ev⟩ := opens_bool Tryz.underlying4 f3
      replace ev : [c3] = [.bool v] := ev
      simp at e0 ea eb ev
      subst e0 ea eb ev
      exact ⟨⟨s, a, b, v⟩, rfl, hs, .of_wf wa, .of_wf wb⟩
set_option maxRecDepth 100000 in
theorem opens_shpC : Opens shpC 25 := by
  intro H enc W base spare held fuel cs x h
  obtain ⟨xs, n, _, _, hl, hxl, hf⟩ := DataW.trod_struct Tryz.underlying25 h
  rw [show Tryz.prog.cellsOf 25 = 4 by kernel_rfl] at hl
  match xs, hxl with
  | [y0, y1, y2, y3], _ =>
    match cs, hl with
    | [c0, c1, c2, c3], _ =>
      have f0 := hf 0 _ rfl
      have f1 := hf 1 _ rfl
      have f2 := hf 2 _ rfl
      have f3 := hf 3 _ rfl
      simp [show Tryz.prog.cellsOf 3 = 1 by kernel_rfl, show Tryz.prog.cellsOf 22 = 1 by kernel_rfl, show Tryz.prog.cellsOf 23 = 1 by kernel_rfl] at f0 f1 f2 f3
      obtain ⟨a, ea, _, wa⟩ := DataW.trod_int Tryz.underlying3 f0
      obtain ⟨b, eb, _, wb⟩ := DataW.trod_int Tryz.underlying3 f1
      obtain ⟨L, A, m, cap, e2, h2⟩ := opens_sl (size := 2) Tryz.underlying22 (by kernel_rfl) (by omega) opens_catC f2
      obtain ⟨L2, A2, m2, cap2, e3, h3⟩ := opens_sl (size := 4) Tryz.underlying23 (by kernel_rfl) (by omega) opens_cabC f3
      simp at ea eb e2 e3
      subst ea eb e2 e3
      exact ⟨⟨a, b, L, L2⟩, _, _, _, _, _, _, rfl, h2, h3, .of_wf wa, .of_wf wb⟩
end Go.Proofs.YtlablioefblmkaaGreat
/-
  What reads as a folio is a folio.
-/
namespace Go.Proofs.YtlablioefblmkaaGreat
open Go.ChangeShapes Go.WideShapes Go.ChangeAt Go.RowKit

set_option maxRecDepth 100000 in
theorem opens_entryC : Opens entryC 77 := by
  intro H enc W base spare held fuel cs x h
  obtain ⟨xs, n, _, _, hl, hxl, hf⟩ := DataW.trod_struct Tryz.underlying77 h
  rw [show Tryz.prog.cellsOf 77 = 3 by kernel_rfl] at hl
  match xs, hxl with
  | [y0, y1, y2], _ =>
    match cs, hl with
    | [c0, c1, c2], _ =>
      have f0 := hf 0 _ rfl
      have f1 := hf 1 _ rfl
      have f2 := hf 2 _ rfl
      simp [show Tryz.prog.cellsOf 3 = 1 by kernel_rfl] at f0 f1 f2
      obtain ⟨a, ea, _, wa⟩ := DataW.trod_int Tryz.underlying3 f0
      obtain ⟨b, eb, _, wb⟩ := DataW.trod_int Tryz.underlying3 f1
      obtain ⟨c, ec, _, wc⟩ := DataW.trod_int Tryz.underlying3 f2
      simp at ea eb ec
      subst ea eb ec
      exact ⟨⟨a, b, c⟩, rfl, .of_wf wa, .of_wf wb, .of_wf wc⟩
end Go.Proofs.YtlablioefblmkaaGreat
/-
  What reads as a booking is a booking; how long a slice that came in may be.
-/
namespace Go.Proofs.YtlablioefblmkaaGreat
open Go.ChangeShapes Go.WideShapes Go.ChangeAt Go.RowKit

set_option maxRecDepth 100000 in
theorem opens_bkgC : Opens bkgC 42 := by
  intro H enc W base spare held fuel cs x h
  obtain ⟨xs, n, _, _, hl, hxl, hf⟩ := DataW.trod_struct Tryz.underlying42 h
  rw [show Tryz.prog.cellsOf 42 = 11 by kernel_rfl] at hl
  match xs, hxl with
  | [y0, y1, y2, y3, y4, y5, y6, y7, y8, y9], _ =>
    match cs, hl with
    | [c0, c1, c2, c3, c4, c5, c6, c7, c8, c9, c10], _ =>
      have f0 := hf 0 _ rfl
      have f1 := hf 1 _ rfl
      have f2 := hf 2 _ rfl
      have f3 := hf 3 _ rfl
      have f4 := hf 4 _ rfl
      have f5 := hf 5 _ rfl
      have f6 := hf 6 _ rfl
      have f7 := hf 7 _ rfl
      have f8 := hf 8 _ rfl
      have f9 := hf 9 _ rfl
      simp [show Tryz.prog.cellsOf 3 = 1 by kernel_rfl, show Tryz.prog.cellsOf 4 = 1 by kernel_rfl, show Tryz.prog.cellsOf 39 = 2 by kernel_rfl, show Tryz.prog.cellsOf 40 = 1 by kernel_rfl] at f0 f1 f2 f3 f4 f5 f6 f7 f8 f9
      obtain ⟨a0, e0, _, w0⟩ := DataW.trod_int Tryz.underlying3 f0
      obtain ⟨a1, e1, _, w1⟩ := DataW.trod_int Tryz.underlying3 f1
      obtain ⟨a2, e2, _, w2⟩ := DataW.trod_int Tryz.underlying3 f2
      obtain ⟨a3, e3, _, w3⟩ := DataW.trod_int Tryz.underlying3 f3
      obtain ⟨a4, e4, _⟩ := DataW.trod_bool Tryz.underlying4 f4
      obtain ⟨a5, e5, _, w5⟩ := DataW.trod_int Tryz.underlying3 f5
      obtain ⟨a6, e6, _, w6⟩ := DataW.trod_int Tryz.underlying3 f6
      obtain ⟨s, e7, w7, w8⟩ := opens_spanC f7
      obtain ⟨a9, e9, _, w9⟩ := DataW.trod_int Tryz.underlying3 f8
      obtain ⟨L, A, m, cap, e10, h10⟩ := opens_sl (size := 3) Tryz.underlying40 (by kernel_rfl) (by omega) opens_entryC f9
      simp at e0 e1 e2 e3 e4 e5 e6 e7 e9 e10
      obtain ⟨e7, e8⟩ := e7
      subst e0 e1 e2 e3 e4 e5 e6 e7 e8 e9 e10
      exact ⟨⟨a0, a1, a2, a3, a4, a5, a6, s.frm, s.upto, a9, L⟩, _, _, _, rfl, h10, ⟨.of_wf w0, .of_wf w1, .of_wf w2, .of_wf w3, .of_wf w5, .of_wf w6, w7, w8, .of_wf w9⟩⟩

theorem arg_sl_len {H : Type} {enc : TypeId × Value → H} {W : World} {t e : TypeId} {d : DataW H} {p : List MemPlace} {A : Option Addr} {n cap : Nat} (ht : Tryz.prog.underlying t = some (.slice e)) (h : DataW.Trod enc Tryz.prog W 0 (fun _ => true) true t (.slice A n cap) d p)
    (hz : ∀ z ∈ DataW.weights Tryz.prog t d, z ≤ reachBytes) : n * Tryz.prog.bytesOf e ≤ reachBytes := by
  obtain ⟨fuel, hf⟩ := h
  rcases Deep.open_slice ht hf with ⟨hc, _⟩ | ⟨a, len, cap', m, k, D, Pl, hc, _, hl, hm, hmm, hx, _⟩
  · simp [Value.cells] at hc
    rw [hc.2.1]; simp
  · simp [Value.cells] at hc
    obtain ⟨rfl, rfl, rfl⟩ := hc
    have hd := congrArg Prod.fst hx
    simp only at hd
    have := hz ((n + (m - n)) * Tryz.prog.bytesOf e) (by rw [hd]; simp [DataW.weights, ht])
    exact Nat.le_trans (Nat.mul_le_mul_right _ (by omega)) this
end Go.Proofs.YtlablioefblmkaaGreat
/-
  What reads as fares is fares.
-/
namespace Go.Proofs.YtlablioefblmkaaGreat
open Go.ChangeShapes Go.WideShapes Go.ChangeAt Go.RowKit

set_option maxRecDepth 100000 in
theorem opens_bandC : Opens bandC 172 := by
  intro H enc W base spare held fuel cs x h
  obtain ⟨xs, n, _, _, hl, hxl, hf⟩ := DataW.trod_struct Tryz.underlying172 h
  rw [show Tryz.prog.cellsOf 172 = 2 by kernel_rfl] at hl
  match xs, hxl with
  | [y0, y1], _ =>
    match cs, hl with
    | [c0, c1], _ =>
      have f0 := hf 0 _ rfl
      have f1 := hf 1 _ rfl
      simp [show Tryz.prog.cellsOf 3 = 1 by kernel_rfl] at f0 f1
      obtain ⟨a, ea, _, wa⟩ := DataW.trod_int Tryz.underlying3 f0
      obtain ⟨b, eb, _, wb⟩ := DataW.trod_int Tryz.underlying3 f1
      simp at ea eb
      subst ea eb
      exact ⟨⟨a, b⟩, rfl, .of_wf wa, .of_wf wb⟩

set_option maxRecDepth 100000 in
theorem opens_fareC : Opens fareC 29 := by
  intro H enc W base spare held fuel cs x h
  obtain ⟨xs, n, _, _, hl, hxl, hf⟩ := DataW.trod_struct Tryz.underlying29 h
  rw [show Tryz.prog.cellsOf 29 = 5 by kernel_rfl] at hl
  match xs, hxl with
  | [y0, y1, y2, y3, y4], _ =>
    match cs, hl with
    | [c0, c1, c2, c3, c4], _ =>
      have f0 := hf 0 _ rfl
      have f1 := hf 1 _ rfl
      have f2 := hf 2 _ rfl
      have f3 := hf 3 _ rfl
      have f4 := hf 4 _ rfl
      simp [show Tryz.prog.cellsOf 3 = 1 by kernel_rfl, show Tryz.prog.cellsOf 26 = 1 by kernel_rfl, show Tryz.prog.cellsOf 27 = 1 by kernel_rfl] at f0 f1 f2 f3 f4
      obtain ⟨L, A, m, cap, e0, h0⟩ := opens_sl (size := 1) Tryz.underlying26 (by kernel_rfl) (by omega) (opens_sl (size := 1) Tryz.underlying44 (by kernel_rfl) (by omega) (opens_int Tryz.underlying3)) f0
      obtain ⟨a, ea, _, wa⟩ := DataW.trod_int Tryz.underlying3 f1
      obtain ⟨b, eb, _, wb⟩ := DataW.trod_int Tryz.underlying3 f2
      obtain ⟨L2, A2, m2, cap2, e3, h3⟩ := opens_sl (size := 2) Tryz.underlying27 (by kernel_rfl) (by omega) opens_bandC f3
      obtain ⟨c, ec, _, wc⟩ := DataW.trod_int Tryz.underlying3 f4
      simp at ea eb ec e0 e3
      subst ea eb ec e0 e3
      exact ⟨⟨L, a, b, L2, c⟩, _, _, _, _, _, _, rfl, h0, h3, .of_wf wa, .of_wf wb, .of_wf wc⟩
end Go.Proofs.YtlablioefblmkaaGreat
/-
  What reads as a sailing is a sailing.
-/
namespace Go.Proofs.YtlablioefblmkaaGreat
open Go.ChangeShapes Go.WideShapes Go.ChangeAt Go.RowKit

def saiC : Cod Sai := fun w S x cs => ∃ p : SaiV, cs = (saiA x p).toList ∧ (Sl catC 2 w S p.A p.n p.cap x.ship.cats ∧ Sl cabC 4 w S p.B p.m p.cap2 x.ship.cabs ∧ Sl (slC intC 1) 1 w S p.D p.nd p.cd x.fares.leg ∧ Sl bandC 2 w S p.E p.ne p.ce x.fares.bands ∧ Sl bkgC 11 w S p.C p.nb p.cb x.bks) ∧
  (InI x.fares.alone ∧ InI x.fares.third ∧ InI x.fares.down) ∧ InI x.ship.legs ∧ InI x.ship.souls ∧ InI x.day ∧ InI x.leaves
theorem sai_in {w : World} {x : Sai} {cs : Array Value} (h : saiC w All x cs.toList) : ∃ p, cs = saiA x p ∧ SaiR w x p ∧ InI x.ship.legs ∧ InI x.ship.souls ∧ InI x.day ∧ InI x.leaves := by
  obtain ⟨p, hcs, ⟨h1, h2, h3, h4, h5⟩, ⟨i1, i2, i3⟩, r⟩ := h
  exact ⟨p, by cases cs; simp_all, ⟨h1, h2, ⟨h3, h4, i1, i2, i3⟩, h5⟩, r⟩
set_option maxRecDepth 100000 in
theorem opens_saiC : Opens saiC 32 := by
  intro H enc W base spare held fuel cs x h
  obtain ⟨xs, n, _, _, hl, hxl, hf⟩ := DataW.trod_struct Tryz.underlying32 h
  rw [show Tryz.prog.cellsOf 32 = 13 by kernel_rfl] at hl
  match xs, hxl with
  | [y0, y1, y2, y3, y4, y5], _ =>
    match cs, hl with
    | [c0, c1, c2, c3, c4, c5, c6, c7, c8, c9, c10, c11, c12], _ =>
      have f0 := hf 0 _ rfl
      have f1 := hf 1 _ rfl
      have f2 := hf 2 _ rfl
      have f3 := hf 3 _ rfl
      have f4 := hf 4 _ rfl
      have f5 := hf 5 _ rfl
      simp [show Tryz.prog.cellsOf 3 = 1 by kernel_rfl, show Tryz.prog.cellsOf 4 = 1 by kernel_rfl, show Tryz.prog.cellsOf 25 = 4 by kernel_rfl, show Tryz.prog.cellsOf 29 = 5 by kernel_rfl, show Tryz.prog.cellsOf 30 = 1 by kernel_rfl] at f0 f1 f2 f3 f4 f5
      obtain ⟨sh, A, n1, cap, B, m, cap2, e0, h1, h2, i1, i2⟩ := opens_shpC f0
      obtain ⟨fa, D, nd, cd, E, ne, ce, e1, h3, h4, i3, i4, i5⟩ := opens_fareC f1
      obtain ⟨a, ea, _, wa⟩ := DataW.trod_int Tryz.underlying3 f2
      obtain ⟨b, eb, _, wb⟩ := DataW.trod_int Tryz.underlying3 f3
      obtain ⟨L, C, nb, cb, e2, h5⟩ := opens_sl (size := 11) Tryz.underlying30 (by kernel_rfl) (by omega) opens_bkgC f4
      obtain ⟨cl, ec, _⟩ := DataW.trod_bool Tryz.underlying4 f5
      simp at e0 e1 e2 ea eb ec
      obtain ⟨rfl, rfl, rfl, rfl⟩ := e0
      obtain ⟨rfl, rfl, rfl, rfl, rfl⟩ := e1
      subst e2 ea eb ec
      exact ⟨⟨sh, fa, a, b, L, cl⟩, ⟨A, n1, cap, B, m, cap2, D, nd, cd, E, ne, ce, C, nb, cb⟩, rfl, ⟨h1, h2, h3, h4, h5⟩, ⟨i3, i4, i5⟩, i1, i2, .of_wf wa, .of_wf wb⟩
end Go.Proofs.YtlablioefblmkaaGreat
