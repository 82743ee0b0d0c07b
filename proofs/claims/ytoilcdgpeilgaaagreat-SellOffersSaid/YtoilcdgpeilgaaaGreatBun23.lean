/-
  Words, laws and contracts: SellI.
-/
import Derived.Test.YtoilcdgpeilgaaaGreatBun22
import Derived.BigQuiet
set_option linter.unusedSimpArgs false
set_option linter.unusedVariables false
namespace Go.Proofs.YtoilcdgpeilgaaaGreat
open Go.RowKit Go.Shelf
set_option maxRecDepth 100000 in
set_option maxHeartbeats 16000000 in
theorem sellBegun_any (w : World) : Calls Tryz.prog 19 #[] w fun e w' => e = .returned (.bool true) ∧ Below w.heap.size w w' := by
  have hin : ∀ (b : Bkg), -1000 ≤ b.id ∧ b.id ≤ 1000 → -1000 ≤ b.kind ∧ b.kind ≤ 1000 → -1000 ≤ b.state ∧ b.state ≤ 1000 → -1000 ≤ b.gst ∧ b.gst ≤ 1000 → -1000 ≤ b.cab ∧ b.cab ≤ 1000 → -1000 ≤ b.cat ∧ b.cat ≤ 1000 → -1000 ≤ b.frm ∧ b.frm ≤ 1000 → -1000 ≤ b.upto ∧ b.upto ≤ 1000 → -1000 ≤ b.til ∧ b.til ≤ 1000 → BkIn b := fun b h1 h2 h3 h4 h5 h6 h7 h8 h9 =>
    ⟨.of (by omega) (by omega), .of (by omega) (by omega), .of (by omega) (by omega), .of (by omega) (by omega), .of (by omega) (by omega), .of (by omega) (by omega), .of (by omega) (by omega), .of (by omega) (by omega), .of (by omega) (by omega)⟩
  have HN3 := Lib.hid (fun p X hX => Named_any cruiseX p nB3 none 0 0 X hX (Sl.nil _ _ _ _) (hin nB3 (by decide) (by decide) (by decide) (by decide) (by decide) (by decide) (by decide) (by decide) (by decide)))
  have HN7 := Lib.hid (fun p X hX => Named_any cruiseX p namedX none 0 0 X hX (Sl.nil _ _ _ _) (hin namedX (by decide) (by decide) (by decide) (by decide) (by decide) (by decide) (by decide) (by decide) (by decide)))
  have HP10 := Lib.hid (fun p X hX => Promise_any cruiseX p pB10 none 0 0 X hX (Sl.nil _ _ _ _) (hin pB10 (by decide) (by decide) (by decide) (by decide) (by decide) (by decide) (by decide) (by decide) (by decide)))
  have HOF := Lib.hid (fun p X hX => Offers_any cruiseX p 1 false 0 1 X hX (.of (by decide) (by decide)) (.of (by decide) (by decide)) (.of (by decide) (by decide)))
  rw [nB3_e] at HN3
  rw [named_e] at HN7
  rw [pB10_e] at HP10
  rw [off_e, off_cruise] at HOF
  clear hin
  go_enter Tryz.func19, Tryz.ntmps19
  go_wp2_with fail
  refine (namedL_any _).mono ?_
  rintro e w1 ⟨rfl, hb1⟩
  have HB1 := Lib.hid hb1
  clear hb1
  go_upto_region 2 with (fail)
  go_cut [1] (fun p wx => ∃ h, p = .pointer (some ⟨h, 0, none⟩) ∧ Blk wx h #[.int .i64 3, .int .i64 1, .int .i64 2, .int .i64 1, .bool false, .int .i64 1, .int .i64 0, .int .i64 0, .int .i64 1, .int .i64 0, .slice none 0 0] 37 ∧ Below w1.heap.size w1 wx)
  case first => as_aux_lemma =>
    go_wp2_with fail
    go_meet
    exact ⟨_, rfl, blk1 _ _, bel1 _ _⟩
  obtain ⟨h, rfl, hH, hb2⟩ := hcut
  have hb := HB1.out.trans (hb2.mono HB1.out.size)
  clear hb2 HB1
  obtain ⟨W3, hW3⟩ : ∃ V, V = wc := ⟨_, rfl⟩
  subst hW3
  have HSH3 := Lib.hid (show ∀ X, Below W3.heap.size W3 X → (fun w' => (w'.cell? ⟨h, 0, none⟩ = some (.int .i64 3) ∧ w'.cell? ⟨h, 1, none⟩ = some (.int .i64 1) ∧ w'.cell? ⟨h, 2, none⟩ = some (.int .i64 2) ∧ w'.cell? ⟨h, 3, none⟩ = some (.int .i64 1) ∧ w'.cell? ⟨h, 4, none⟩ = some (.bool false) ∧ w'.cell? ⟨h, 5, none⟩ = some (.int .i64 1) ∧ w'.cell? ⟨h, 6, none⟩ = some (.int .i64 0) ∧ w'.cell? ⟨h, 7, none⟩ = some (.int .i64 0) ∧ w'.cell? ⟨h, 8, none⟩ = some (.int .i64 1) ∧ w'.cell? ⟨h, 9, none⟩ = some (.int .i64 0) ∧ w'.cell? ⟨h, 10, none⟩ = some (.slice none 0 0))) X from fun X hX => ⟨(hH.bel hX).cell rfl, (hH.bel hX).cell rfl, (hH.bel hX).cell rfl, (hH.bel hX).cell rfl, (hH.bel hX).cell rfl, (hH.bel hX).cell rfl, (hH.bel hX).cell rfl, (hH.bel hX).cell rfl, (hH.bel hX).cell rfl, (hH.bel hX).cell rfl, (hH.bel hX).cell rfl⟩)
  go_upto_region 3 with (fail)
  go_cut [2, 3] (fun p q wx => q = .int .i64 0 ∧ (∃ z y p', p = .pointer (some ⟨z, 0, none⟩) ∧ Blk wx z (saiA y p') 32 ∧ y = okS 0 (sellX cruiseX nB3) ∧ SaiR wx y p') ∧ Below W3.heap.size W3 wx)
  case first =>
    have hbx : Below W3.heap.size W3 W3.drew := (Below.refl _ W3).drew
    refine wp_region_held_drew (S := (fun w' => (w'.cell? ⟨h, 0, none⟩ = some (.int .i64 3) ∧ w'.cell? ⟨h, 1, none⟩ = some (.int .i64 1) ∧ w'.cell? ⟨h, 2, none⟩ = some (.int .i64 2) ∧ w'.cell? ⟨h, 3, none⟩ = some (.int .i64 1) ∧ w'.cell? ⟨h, 4, none⟩ = some (.bool false) ∧ w'.cell? ⟨h, 5, none⟩ = some (.int .i64 1) ∧ w'.cell? ⟨h, 6, none⟩ = some (.int .i64 0) ∧ w'.cell? ⟨h, 7, none⟩ = some (.int .i64 0) ∧ w'.cell? ⟨h, 8, none⟩ = some (.int .i64 1) ∧ w'.cell? ⟨h, 9, none⟩ = some (.int .i64 0) ∧ w'.cell? ⟨h, 10, none⟩ = some (.slice none 0 0)))) (by kernel_rfl) (HSH3.out _ hbx) (fun hHeld => ?_)
    refine wpAnyH_take (i := 1) (v := ?v17) (gA rfl) (by kernel_rfl) (by kernel_rfl) (by kernel_rfl) (fun _ _ _ h => h) (Or.inl ⟨rfl, ?y17⟩) (by assumption) ?_
    case y17 => (intro w hSw; (try dsimp only at hSw); go_simp <;> with_reducible rfl)
    simp only [Act.put, List.setIfInBounds_toArray, List.set_cons_zero, List.set_cons_succ]
    refine wpAnyH_ready (rs := [0, 6]) (by kernel_rfl) (by simp) ?_
    refine AllReadyH.cons (gA rfl) (fun K hK => ?_) ?m_1
    case m_1 =>
      refine AllReadyH.cons (gA rfl) (fun K hK => ?_) AllReadyH.nil
      go_simp
      refine hK.out _ _ ?_ (fun hHeld => ?_)
      · exact HSH3.out _ (hbx.alloc hbx.size (.cells #[.int .i64 0, .int .i64 0, .slice none 0 0, .slice none 0 0, .slice none 0 0, .int .i64 0, .int .i64 0, .slice none 0 0, .int .i64 0, .int .i64 0, .int .i64 0, .slice none 0 0, .bool false] 32))
      clear hK K
      try simp only [Act.put, List.setIfInBounds_toArray, List.set_cons_zero, List.set_cons_succ]
      (have hL := freshG hbx #[.int .i64 0, .int .i64 0, .slice none 0 0, .slice none 0 0, .slice none 0 0, .int .i64 0, .int .i64 0, .slice none 0 0, .int .i64 0, .int .i64 0, .int .i64 0, .slice none 0 0, .bool false] 32; have hge := geOf hbx; (try replace hS := hS.bel (bel1 _ (.cells #[.int .i64 0, .int .i64 0, .slice none 0 0, .slice none 0 0, .slice none 0 0, .int .i64 0, .int .i64 0, .slice none 0 0, .int .i64 0, .int .i64 0, .int .i64 0, .slice none 0 0, .bool false] 32))); (try have hO2 := (hO.sai).bel (below_setRow (bel1 _ (.cells #[.int .i64 0, .int .i64 0, .slice none 0 0, .slice none 0 0, .slice none 0 0, .int .i64 0, .int .i64 0, .slice none 0 0, .int .i64 0, .int .i64 0, .int .i64 0, .slice none 0 0, .bool false] 32)) (Nat.le_refl _) (saiA y p'))); replace hbx := hbx.alloc hbx.size (.cells #[.int .i64 0, .int .i64 0, .slice none 0 0, .slice none 0 0, .slice none 0 0, .int .i64 0, .int .i64 0, .slice none 0 0, .int .i64 0, .int .i64 0, .int .i64 0, .slice none 0 0, .bool false] 32))
      refine wpAnyH_ready (rs := [0]) (by kernel_rfl) (by simp) ?_
      refine AllReadyH.cons (gA rfl) (fun K hK => ?_) AllReadyH.nil
      go_simp
      (go_at_call 83; refine (cruise_any _).mono ?_; rintro e w7 ⟨p7, rfl, hS, hb2⟩; (try replace hL := fun g hg => (hL g hg).bel hb2); have hs7 := hb2.size; replace hbx := hbx.trans (hb2.mono hbx.size); clear hb2)
      go_wp2_with fail
      refine hK.out _ _ ?_ (fun hHeld => ?_)
      · exact HSH3.out _ hbx
      clear hK K
      try simp only [Act.put, List.setIfInBounds_toArray, List.set_cons_zero, List.set_cons_succ]
      refine wpAnyH_ready (rs := [2]) (by kernel_rfl) (by simp) ?_
      refine AllReadyH.cons (gA rfl) (fun K hK => ?_) AllReadyH.nil
      go_simp
      (go_at_call 21; refine (HN3.out p7 _ hS).mono ?_; rintro e w8 ⟨⟨y, p', rfl, hy, hO⟩, hb2⟩; replace hy := Lib.hid hy; (try replace hL := fun g hg => (hL g hg).bel hb2); have hs8 := hb2.size; replace hbx := hbx.trans (hb2.mono hbx.size); clear hb2 hS)
      go_wp2_with fail
      refine hK.out _ _ ?_ (fun hHeld => ?_)
      · exact HSH3.out _ hbx
      clear hK K
      try simp only [Act.put, List.setIfInBounds_toArray, List.set_cons_zero, List.set_cons_succ]
      refine wpAnyH_take (i := 3) (v := ?v18) (gA rfl) (by kernel_rfl) (by kernel_rfl) (by kernel_rfl) (fun _ _ _ h => h) (Or.inl ⟨rfl, ?y18⟩) (by assumption) ?_
      case y18 => (intro w hSw; (try dsimp only at hSw); go_simp <;> with_reducible rfl)
      simp only [Act.put, List.setIfInBounds_toArray, List.set_cons_zero, List.set_cons_succ]
      refine wpAnyH_take (i := 4) (v := ?v19) (gA rfl) (by kernel_rfl) (by kernel_rfl) (by kernel_rfl) (fun _ _ _ h => h) (Or.inl ⟨rfl, ?y19⟩) (by assumption) ?_
      case y19 => (intro w hSw; (try dsimp only at hSw); go_simp <;> with_reducible rfl)
      simp only [Act.put, List.setIfInBounds_toArray, List.set_cons_zero, List.set_cons_succ]
      refine wpAnyH_take (i := 5) (v := ?v20) (gA rfl) (by kernel_rfl) (by kernel_rfl) (by kernel_rfl) (fun _ _ _ h => h) (Or.inl ⟨rfl, ?y20⟩) (by assumption) ?_
      case y20 => (intro w hSw; (try dsimp only at hSw); go_simp <;> with_reducible rfl)
      simp only [Act.put, List.setIfInBounds_toArray, List.set_cons_zero, List.set_cons_succ]
      refine wpAnyH_ready (rs := [7]) (by kernel_rfl) (by simp) (AllReadyH.cons (gA rfl) (fun K hK => ?_) AllReadyH.nil)
      (refine wp_store_row 32 (.tmp 2) (.tmp 20) rfl _ (saiA y p') rfl rfl 32 _ (hL _ (by simp)) (by kernel_rfl) rfl (by simp [Value.oneCell']) ?_)
      refine hK.out _ _ ?_ (fun hHeld => ?_)
      · exact HSH3.out _ (below_setRow hbx (hge _ (by simp)) _)
      clear hK K
      try simp only [Act.put, List.setIfInBounds_toArray, List.set_cons_zero, List.set_cons_succ]
      refine wpAnyH_take (i := 8) (v := ?v22) (gA rfl) (by kernel_rfl) (by kernel_rfl) (by kernel_rfl) (fun _ _ _ h => h) (Or.inl ⟨rfl, ?y22⟩) (by assumption) ?_
      case y22 => (intro w hSw; (try dsimp only at hSw); go_simp <;> with_reducible rfl)
      simp only [Act.put, List.setIfInBounds_toArray, List.set_cons_zero, List.set_cons_succ]
      refine wpAnyH_done (by kernel_rfl) ?_ _
      go_wp2_with fail
      go_meet
      refine ⟨rfl, ⟨_, y, p', rfl, (hL _ (by simp)).row _, hy.out, ?_⟩, below_setRow hbx (hge _ (by simp)) _⟩
      first
        | (simpa using hO2)
        | exact (hO.kept ((Kept.refl _ _).setRow (.inl rfl) _) (fun k hk e => by simp at *; omega)).sai
    go_simp
    (go_at_call 83; refine (cruise_any _).mono ?_; rintro e w7 ⟨p7, rfl, hS, hb2⟩; (try replace hL := fun g hg => (hL g hg).bel hb2); have hs7 := hb2.size; replace hbx := hbx.trans (hb2.mono hbx.size); clear hb2)
    go_wp2_with fail
    refine hK.out _ _ ?_ (fun hHeld => ?_)
    · exact HSH3.out _ hbx
    clear hK K
    try simp only [Act.put, List.setIfInBounds_toArray, List.set_cons_zero, List.set_cons_succ]
    refine wpAnyH_ready (rs := [2, 6]) (by kernel_rfl) (by simp) ?_
    refine AllReadyH.cons (gA rfl) (fun K hK => ?_) ?m_5
    case m_5 =>
      refine AllReadyH.cons (gA rfl) (fun K hK => ?_) AllReadyH.nil
      go_simp
      refine hK.out _ _ ?_ (fun hHeld => ?_)
      · exact HSH3.out _ (hbx.alloc hbx.size (.cells #[.int .i64 0, .int .i64 0, .slice none 0 0, .slice none 0 0, .slice none 0 0, .int .i64 0, .int .i64 0, .slice none 0 0, .int .i64 0, .int .i64 0, .int .i64 0, .slice none 0 0, .bool false] 32))
      clear hK K
      try simp only [Act.put, List.setIfInBounds_toArray, List.set_cons_zero, List.set_cons_succ]
      (have hL := freshG hbx #[.int .i64 0, .int .i64 0, .slice none 0 0, .slice none 0 0, .slice none 0 0, .int .i64 0, .int .i64 0, .slice none 0 0, .int .i64 0, .int .i64 0, .int .i64 0, .slice none 0 0, .bool false] 32; have hge := geOf hbx; (try replace hS := hS.bel (bel1 _ (.cells #[.int .i64 0, .int .i64 0, .slice none 0 0, .slice none 0 0, .slice none 0 0, .int .i64 0, .int .i64 0, .slice none 0 0, .int .i64 0, .int .i64 0, .int .i64 0, .slice none 0 0, .bool false] 32))); (try have hO2 := (hO.sai).bel (below_setRow (bel1 _ (.cells #[.int .i64 0, .int .i64 0, .slice none 0 0, .slice none 0 0, .slice none 0 0, .int .i64 0, .int .i64 0, .slice none 0 0, .int .i64 0, .int .i64 0, .int .i64 0, .slice none 0 0, .bool false] 32)) (Nat.le_refl _) (saiA y p'))); replace hbx := hbx.alloc hbx.size (.cells #[.int .i64 0, .int .i64 0, .slice none 0 0, .slice none 0 0, .slice none 0 0, .int .i64 0, .int .i64 0, .slice none 0 0, .int .i64 0, .int .i64 0, .int .i64 0, .slice none 0 0, .bool false] 32))
      refine wpAnyH_ready (rs := [2]) (by kernel_rfl) (by simp) ?_
      refine AllReadyH.cons (gA rfl) (fun K hK => ?_) AllReadyH.nil
      go_simp
      (go_at_call 21; refine (HN3.out p7 _ hS).mono ?_; rintro e w8 ⟨⟨y, p', rfl, hy, hO⟩, hb2⟩; replace hy := Lib.hid hy; (try replace hL := fun g hg => (hL g hg).bel hb2); have hs8 := hb2.size; replace hbx := hbx.trans (hb2.mono hbx.size); clear hb2 hS)
      go_wp2_with fail
      refine hK.out _ _ ?_ (fun hHeld => ?_)
      · exact HSH3.out _ hbx
      clear hK K
      try simp only [Act.put, List.setIfInBounds_toArray, List.set_cons_zero, List.set_cons_succ]
      refine wpAnyH_take (i := 3) (v := ?v23) (gA rfl) (by kernel_rfl) (by kernel_rfl) (by kernel_rfl) (fun _ _ _ h => h) (Or.inl ⟨rfl, ?y23⟩) (by assumption) ?_
      case y23 => (intro w hSw; (try dsimp only at hSw); go_simp <;> with_reducible rfl)
      simp only [Act.put, List.setIfInBounds_toArray, List.set_cons_zero, List.set_cons_succ]
      refine wpAnyH_take (i := 4) (v := ?v24) (gA rfl) (by kernel_rfl) (by kernel_rfl) (by kernel_rfl) (fun _ _ _ h => h) (Or.inl ⟨rfl, ?y24⟩) (by assumption) ?_
      case y24 => (intro w hSw; (try dsimp only at hSw); go_simp <;> with_reducible rfl)
      simp only [Act.put, List.setIfInBounds_toArray, List.set_cons_zero, List.set_cons_succ]
      refine wpAnyH_take (i := 5) (v := ?v25) (gA rfl) (by kernel_rfl) (by kernel_rfl) (by kernel_rfl) (fun _ _ _ h => h) (Or.inl ⟨rfl, ?y25⟩) (by assumption) ?_
      case y25 => (intro w hSw; (try dsimp only at hSw); go_simp <;> with_reducible rfl)
      simp only [Act.put, List.setIfInBounds_toArray, List.set_cons_zero, List.set_cons_succ]
      refine wpAnyH_ready (rs := [7]) (by kernel_rfl) (by simp) (AllReadyH.cons (gA rfl) (fun K hK => ?_) AllReadyH.nil)
      (refine wp_store_row 32 (.tmp 2) (.tmp 20) rfl _ (saiA y p') rfl rfl 32 _ (hL _ (by simp)) (by kernel_rfl) rfl (by simp [Value.oneCell']) ?_)
      refine hK.out _ _ ?_ (fun hHeld => ?_)
      · exact HSH3.out _ (below_setRow hbx (hge _ (by simp)) _)
      clear hK K
      try simp only [Act.put, List.setIfInBounds_toArray, List.set_cons_zero, List.set_cons_succ]
      refine wpAnyH_take (i := 8) (v := ?v27) (gA rfl) (by kernel_rfl) (by kernel_rfl) (by kernel_rfl) (fun _ _ _ h => h) (Or.inl ⟨rfl, ?y27⟩) (by assumption) ?_
      case y27 => (intro w hSw; (try dsimp only at hSw); go_simp <;> with_reducible rfl)
      simp only [Act.put, List.setIfInBounds_toArray, List.set_cons_zero, List.set_cons_succ]
      refine wpAnyH_done (by kernel_rfl) ?_ _
      go_wp2_with fail
      go_meet
      refine ⟨rfl, ⟨_, y, p', rfl, (hL _ (by simp)).row _, hy.out, ?_⟩, below_setRow hbx (hge _ (by simp)) _⟩
      first
        | (simpa using hO2)
        | exact (hO.kept ((Kept.refl _ _).setRow (.inl rfl) _) (fun k hk e => by simp at *; omega)).sai
    go_simp
    (go_at_call 21; refine (HN3.out p7 _ hS).mono ?_; rintro e w8 ⟨⟨y, p', rfl, hy, hO⟩, hb2⟩; replace hy := Lib.hid hy; (try replace hL := fun g hg => (hL g hg).bel hb2); have hs8 := hb2.size; replace hbx := hbx.trans (hb2.mono hbx.size); clear hb2 hS)
    go_wp2_with fail
    refine hK.out _ _ ?_ (fun hHeld => ?_)
    · exact HSH3.out _ hbx
    clear hK K
    try simp only [Act.put, List.setIfInBounds_toArray, List.set_cons_zero, List.set_cons_succ]
    refine wpAnyH_take (i := 3) (v := ?v28) (gA rfl) (by kernel_rfl) (by kernel_rfl) (by kernel_rfl) (fun _ _ _ h => h) (Or.inl ⟨rfl, ?y28⟩) (by assumption) ?_
    case y28 => (intro w hSw; (try dsimp only at hSw); go_simp <;> with_reducible rfl)
    simp only [Act.put, List.setIfInBounds_toArray, List.set_cons_zero, List.set_cons_succ]
    refine wpAnyH_take (i := 4) (v := ?v29) (gA rfl) (by kernel_rfl) (by kernel_rfl) (by kernel_rfl) (fun _ _ _ h => h) (Or.inl ⟨rfl, ?y29⟩) (by assumption) ?_
    case y29 => (intro w hSw; (try dsimp only at hSw); go_simp <;> with_reducible rfl)
    simp only [Act.put, List.setIfInBounds_toArray, List.set_cons_zero, List.set_cons_succ]
    refine wpAnyH_take (i := 5) (v := ?v30) (gA rfl) (by kernel_rfl) (by kernel_rfl) (by kernel_rfl) (fun _ _ _ h => h) (Or.inl ⟨rfl, ?y30⟩) (by assumption) ?_
    case y30 => (intro w hSw; (try dsimp only at hSw); go_simp <;> with_reducible rfl)
    simp only [Act.put, List.setIfInBounds_toArray, List.set_cons_zero, List.set_cons_succ]
    refine wpAnyH_ready (rs := [6]) (by kernel_rfl) (by simp) ?_
    refine AllReadyH.cons (gA rfl) (fun K hK => ?_) AllReadyH.nil
    go_simp
    refine hK.out _ _ ?_ (fun hHeld => ?_)
    · exact HSH3.out _ (hbx.alloc hbx.size (.cells #[.int .i64 0, .int .i64 0, .slice none 0 0, .slice none 0 0, .slice none 0 0, .int .i64 0, .int .i64 0, .slice none 0 0, .int .i64 0, .int .i64 0, .int .i64 0, .slice none 0 0, .bool false] 32))
    clear hK K
    try simp only [Act.put, List.setIfInBounds_toArray, List.set_cons_zero, List.set_cons_succ]
    (have hL := freshG hbx #[.int .i64 0, .int .i64 0, .slice none 0 0, .slice none 0 0, .slice none 0 0, .int .i64 0, .int .i64 0, .slice none 0 0, .int .i64 0, .int .i64 0, .int .i64 0, .slice none 0 0, .bool false] 32; have hge := geOf hbx; (try replace hS := hS.bel (bel1 _ (.cells #[.int .i64 0, .int .i64 0, .slice none 0 0, .slice none 0 0, .slice none 0 0, .int .i64 0, .int .i64 0, .slice none 0 0, .int .i64 0, .int .i64 0, .int .i64 0, .slice none 0 0, .bool false] 32))); (try have hO2 := (hO.sai).bel (below_setRow (bel1 _ (.cells #[.int .i64 0, .int .i64 0, .slice none 0 0, .slice none 0 0, .slice none 0 0, .int .i64 0, .int .i64 0, .slice none 0 0, .int .i64 0, .int .i64 0, .int .i64 0, .slice none 0 0, .bool false] 32)) (Nat.le_refl _) (saiA y p'))); replace hbx := hbx.alloc hbx.size (.cells #[.int .i64 0, .int .i64 0, .slice none 0 0, .slice none 0 0, .slice none 0 0, .int .i64 0, .int .i64 0, .slice none 0 0, .int .i64 0, .int .i64 0, .int .i64 0, .slice none 0 0, .bool false] 32))
    refine wpAnyH_ready (rs := [7]) (by kernel_rfl) (by simp) (AllReadyH.cons (gA rfl) (fun K hK => ?_) AllReadyH.nil)
    (refine wp_store_row 32 (.tmp 2) (.tmp 20) rfl _ (saiA y p') rfl rfl 32 _ (hL _ (by simp)) (by kernel_rfl) rfl (by simp [Value.oneCell']) ?_)
    refine hK.out _ _ ?_ (fun hHeld => ?_)
    · exact HSH3.out _ (below_setRow hbx (hge _ (by simp)) _)
    clear hK K
    try simp only [Act.put, List.setIfInBounds_toArray, List.set_cons_zero, List.set_cons_succ]
    refine wpAnyH_take (i := 8) (v := ?v32) (gA rfl) (by kernel_rfl) (by kernel_rfl) (by kernel_rfl) (fun _ _ _ h => h) (Or.inl ⟨rfl, ?y32⟩) (by assumption) ?_
    case y32 => (intro w hSw; (try dsimp only at hSw); go_simp <;> with_reducible rfl)
    simp only [Act.put, List.setIfInBounds_toArray, List.set_cons_zero, List.set_cons_succ]
    refine wpAnyH_done (by kernel_rfl) ?_ _
    go_wp2_with fail
    go_meet
    refine ⟨rfl, ⟨_, y, p', rfl, (hL _ (by simp)).row _, hy.out, ?_⟩, below_setRow hbx (hge _ (by simp)) _⟩
    first
      | (simpa using hO2)
      | exact (hO.kept ((Kept.refl _ _).setRow (.inl rfl) _) (fun k hk e => by simp at *; omega)).sai
  obtain ⟨rfl, ⟨z, y, p', rfl, hZ, hy, hSY⟩, hb2⟩ := hcut
  replace hb := hb.trans (hb2.mono hb.size)
  obtain rfl : y = sellX cruiseX nB3 := hy
  have HB := Lib.hid hb
  clear hb
  have HZ := Lib.hid hZ
  clear hZ
  have HSY := Lib.hid hSY
  clear hSY
  clear hb2 hH HSH3
  go_wp2_with fail
  refine (cruise_any _).mono ?_
  rintro e w4 ⟨p4, rfl, hS4, hb4⟩
  go_wp2_with fail
  refine (namedL_any _).mono ?_
  rintro e w5 ⟨rfl, hb5⟩
  have HS5 := Lib.hid (hS4.bel hb5)
  have HB4 := Lib.hid hb4
  clear hb4
  have HB5 := Lib.hid hb5
  clear hb5
  clear hS4
  go_wp2_with fail
  refine (HN7.out p4 _ HS5.out).mono ?_
  rintro e w6 ⟨⟨y2, p6, rfl, -, -⟩, hb6⟩
  have HB6 := Lib.hid hb6
  clear hb6
  go_wp2_with (refine wpList_store_row rfl 32 (.tmp 4) (.tmp 26) rfl w6.heap.size (saiA y2 p6) rfl rfl 32 _ (Blk.new w6 #[.int .i64 0, .int .i64 0, .slice none 0 0, .slice none 0 0, .slice none 0 0, .int .i64 0, .int .i64 0, .slice none 0 0, .int .i64 0, .int .i64 0, .int .i64 0, .slice none 0 0, .bool false] 32) (by kernel_rfl) rfl (by simp [Value.oneCell']) ?_)
  have hb7 : Below w6.heap.size w6 ((w6.alloc (.cells #[.int .i64 0, .int .i64 0, .slice none 0 0, .slice none 0 0, .slice none 0 0, .int .i64 0, .int .i64 0, .slice none 0 0, .int .i64 0, .int .i64 0, .int .i64 0, .slice none 0 0, .bool false] 32)).setRow w6.heap.size (saiA y2 p6)) := below_setRow (bel1 w6 _) (Nat.le_refl _) _
  obtain ⟨w7, hw7⟩ : ∃ V, V = (w6.alloc (.cells #[.int .i64 0, .int .i64 0, .slice none 0 0, .slice none 0 0, .slice none 0 0, .int .i64 0, .int .i64 0, .slice none 0 0, .int .i64 0, .int .i64 0, .int .i64 0, .slice none 0 0, .bool false] 32)).setRow w6.heap.size (saiA y2 p6) := ⟨_, rfl⟩
  rw [← hw7] at hb7 ⊢
  clear hw7
  refine (promisedL_any _).mono ?_
  rintro e w8 ⟨rfl, hb8⟩
  have h4 := HB4.out
  have h5 := h4.trans (HB5.out.mono h4.size)
  have h6 := h5.trans (HB6.out.mono h5.size)
  have h7 := h6.trans (hb7.mono h6.size)
  have h8 := h7.trans (hb8.mono h7.size)
  have HZ8 := Lib.hid (HZ.out.bel h8)
  have HSY8 := Lib.hid (HSY.out.bel h8)
  have HB8 := Lib.hid (HB.out.trans (h8.mono HB.out.size))
  clear h4 h5 h6 h7 h8 hb7 hb8 HB4 HB5 HB6 HS5 HZ HSY HB
  go_upto_region 6 with (fail)
  go_cut [6] (fun p wx => ∃ h, p = .pointer (some ⟨h, 0, none⟩) ∧ Blk wx h #[.int .i64 10, .int .i64 2, .int .i64 1, .int .i64 2, .bool false, .int .i64 (-1), .int .i64 0, .int .i64 0, .int .i64 3, .int .i64 4, .slice none 0 0] 37 ∧ Below w8.heap.size w8 wx)
  case first => as_aux_lemma =>
    go_wp2_with fail
    go_meet
    exact ⟨_, rfl, blk1 _ _, bel1 _ _⟩
  obtain ⟨h2, rfl, hH2, hb9⟩ := hcut
  have hZ9 := HZ8.out.bel hb9
  have hS9 := HSY8.out.bel hb9
  have hb := HB8.out.trans (hb9.mono HB8.out.size)
  have HZ9 := Lib.hid hZ9
  clear hZ9
  have HS9 := Lib.hid hS9
  clear hS9
  have HB9 := Lib.hid hb
  clear hb
  clear hb9 HZ8 HSY8 HB8
  obtain ⟨W7, hW7⟩ : ∃ V, V = wc := ⟨_, rfl⟩
  subst hW7
  have HSH7 := Lib.hid (show ∀ X, Below W7.heap.size W7 X → (fun w' => (w'.cell? ⟨h2, 0, none⟩ = some (.int .i64 10) ∧ w'.cell? ⟨h2, 1, none⟩ = some (.int .i64 2) ∧ w'.cell? ⟨h2, 2, none⟩ = some (.int .i64 1) ∧ w'.cell? ⟨h2, 3, none⟩ = some (.int .i64 2) ∧ w'.cell? ⟨h2, 4, none⟩ = some (.bool false) ∧ w'.cell? ⟨h2, 5, none⟩ = some (.int .i64 (-1)) ∧ w'.cell? ⟨h2, 6, none⟩ = some (.int .i64 0) ∧ w'.cell? ⟨h2, 7, none⟩ = some (.int .i64 0) ∧ w'.cell? ⟨h2, 8, none⟩ = some (.int .i64 3) ∧ w'.cell? ⟨h2, 9, none⟩ = some (.int .i64 4) ∧ w'.cell? ⟨h2, 10, none⟩ = some (.slice none 0 0))) X from fun X hX => ⟨(hH2.bel hX).cell rfl, (hH2.bel hX).cell rfl, (hH2.bel hX).cell rfl, (hH2.bel hX).cell rfl, (hH2.bel hX).cell rfl, (hH2.bel hX).cell rfl, (hH2.bel hX).cell rfl, (hH2.bel hX).cell rfl, (hH2.bel hX).cell rfl, (hH2.bel hX).cell rfl, (hH2.bel hX).cell rfl⟩)
  go_upto_region 7 with (fail)
  go_cut [7, 8] (fun p q wx => q = .int .i64 8 ∧ (∃ z y p', p = .pointer (some ⟨z, 0, none⟩) ∧ Blk wx z (saiA y p') 32 ∧ y = okS 8 (sellX cruiseX pB10) ∧ SaiR wx y p') ∧ Below W7.heap.size W7 wx)
  case first =>
    have hbx : Below W7.heap.size W7 W7.drew := (Below.refl _ W7).drew
    refine wp_region_held_drew (S := (fun w' => (w'.cell? ⟨h2, 0, none⟩ = some (.int .i64 10) ∧ w'.cell? ⟨h2, 1, none⟩ = some (.int .i64 2) ∧ w'.cell? ⟨h2, 2, none⟩ = some (.int .i64 1) ∧ w'.cell? ⟨h2, 3, none⟩ = some (.int .i64 2) ∧ w'.cell? ⟨h2, 4, none⟩ = some (.bool false) ∧ w'.cell? ⟨h2, 5, none⟩ = some (.int .i64 (-1)) ∧ w'.cell? ⟨h2, 6, none⟩ = some (.int .i64 0) ∧ w'.cell? ⟨h2, 7, none⟩ = some (.int .i64 0) ∧ w'.cell? ⟨h2, 8, none⟩ = some (.int .i64 3) ∧ w'.cell? ⟨h2, 9, none⟩ = some (.int .i64 4) ∧ w'.cell? ⟨h2, 10, none⟩ = some (.slice none 0 0)))) (by kernel_rfl) (HSH7.out _ hbx) (fun hHeld => ?_)
    refine wpAnyH_take (i := 1) (v := ?v33) (gA rfl) (by kernel_rfl) (by kernel_rfl) (by kernel_rfl) (fun _ _ _ h => h) (Or.inl ⟨rfl, ?y33⟩) (by assumption) ?_
    case y33 => (intro w hSw; (try dsimp only at hSw); go_simp <;> with_reducible rfl)
    simp only [Act.put, List.setIfInBounds_toArray, List.set_cons_zero, List.set_cons_succ]
    refine wpAnyH_ready (rs := [0, 6]) (by kernel_rfl) (by simp) ?_
    refine AllReadyH.cons (gA rfl) (fun K hK => ?_) ?m_9
    case m_9 =>
      refine AllReadyH.cons (gA rfl) (fun K hK => ?_) AllReadyH.nil
      go_simp
      refine hK.out _ _ ?_ (fun hHeld => ?_)
      · exact HSH7.out _ (hbx.alloc hbx.size (.cells #[.int .i64 0, .int .i64 0, .slice none 0 0, .slice none 0 0, .slice none 0 0, .int .i64 0, .int .i64 0, .slice none 0 0, .int .i64 0, .int .i64 0, .int .i64 0, .slice none 0 0, .bool false] 32))
      clear hK K
      try simp only [Act.put, List.setIfInBounds_toArray, List.set_cons_zero, List.set_cons_succ]
      (have hL := freshG hbx #[.int .i64 0, .int .i64 0, .slice none 0 0, .slice none 0 0, .slice none 0 0, .int .i64 0, .int .i64 0, .slice none 0 0, .int .i64 0, .int .i64 0, .int .i64 0, .slice none 0 0, .bool false] 32; have hge := geOf hbx; (try replace hS := hS.bel (bel1 _ (.cells #[.int .i64 0, .int .i64 0, .slice none 0 0, .slice none 0 0, .slice none 0 0, .int .i64 0, .int .i64 0, .slice none 0 0, .int .i64 0, .int .i64 0, .int .i64 0, .slice none 0 0, .bool false] 32))); (try have hO2 := (hO.sai).bel (below_setRow (bel1 _ (.cells #[.int .i64 0, .int .i64 0, .slice none 0 0, .slice none 0 0, .slice none 0 0, .int .i64 0, .int .i64 0, .slice none 0 0, .int .i64 0, .int .i64 0, .int .i64 0, .slice none 0 0, .bool false] 32)) (Nat.le_refl _) (saiA y p'))); replace hbx := hbx.alloc hbx.size (.cells #[.int .i64 0, .int .i64 0, .slice none 0 0, .slice none 0 0, .slice none 0 0, .int .i64 0, .int .i64 0, .slice none 0 0, .int .i64 0, .int .i64 0, .int .i64 0, .slice none 0 0, .bool false] 32))
      refine wpAnyH_ready (rs := [0]) (by kernel_rfl) (by simp) ?_
      refine AllReadyH.cons (gA rfl) (fun K hK => ?_) AllReadyH.nil
      go_simp
      (go_at_call 83; refine (cruise_any _).mono ?_; rintro e w7 ⟨p7, rfl, hS, hb2⟩; (try replace hL := fun g hg => (hL g hg).bel hb2); have hs7 := hb2.size; replace hbx := hbx.trans (hb2.mono hbx.size); clear hb2)
      go_wp2_with fail
      refine hK.out _ _ ?_ (fun hHeld => ?_)
      · exact HSH7.out _ hbx
      clear hK K
      try simp only [Act.put, List.setIfInBounds_toArray, List.set_cons_zero, List.set_cons_succ]
      refine wpAnyH_ready (rs := [2]) (by kernel_rfl) (by simp) ?_
      refine AllReadyH.cons (gA rfl) (fun K hK => ?_) AllReadyH.nil
      go_simp
      (go_at_call 22; refine (HP10.out p7 _ hS).mono ?_; rintro e w8 ⟨⟨y, p', rfl, hy, hO⟩, hb2⟩; replace hy := Lib.hid hy; (try replace hL := fun g hg => (hL g hg).bel hb2); have hs8 := hb2.size; replace hbx := hbx.trans (hb2.mono hbx.size); clear hb2 hS)
      go_wp2_with fail
      refine hK.out _ _ ?_ (fun hHeld => ?_)
      · exact HSH7.out _ hbx
      clear hK K
      try simp only [Act.put, List.setIfInBounds_toArray, List.set_cons_zero, List.set_cons_succ]
      refine wpAnyH_take (i := 3) (v := ?v34) (gA rfl) (by kernel_rfl) (by kernel_rfl) (by kernel_rfl) (fun _ _ _ h => h) (Or.inl ⟨rfl, ?y34⟩) (by assumption) ?_
      case y34 => (intro w hSw; (try dsimp only at hSw); go_simp <;> with_reducible rfl)
      simp only [Act.put, List.setIfInBounds_toArray, List.set_cons_zero, List.set_cons_succ]
      refine wpAnyH_take (i := 4) (v := ?v35) (gA rfl) (by kernel_rfl) (by kernel_rfl) (by kernel_rfl) (fun _ _ _ h => h) (Or.inl ⟨rfl, ?y35⟩) (by assumption) ?_
      case y35 => (intro w hSw; (try dsimp only at hSw); go_simp <;> with_reducible rfl)
      simp only [Act.put, List.setIfInBounds_toArray, List.set_cons_zero, List.set_cons_succ]
      refine wpAnyH_take (i := 5) (v := ?v36) (gA rfl) (by kernel_rfl) (by kernel_rfl) (by kernel_rfl) (fun _ _ _ h => h) (Or.inl ⟨rfl, ?y36⟩) (by assumption) ?_
      case y36 => (intro w hSw; (try dsimp only at hSw); go_simp <;> with_reducible rfl)
      simp only [Act.put, List.setIfInBounds_toArray, List.set_cons_zero, List.set_cons_succ]
      refine wpAnyH_ready (rs := [7]) (by kernel_rfl) (by simp) (AllReadyH.cons (gA rfl) (fun K hK => ?_) AllReadyH.nil)
      (refine wp_store_row 32 (.tmp 7) (.tmp 34) rfl _ (saiA y p') rfl rfl 32 _ (hL _ (by simp)) (by kernel_rfl) rfl (by simp [Value.oneCell']) ?_)
      refine hK.out _ _ ?_ (fun hHeld => ?_)
      · exact HSH7.out _ (below_setRow hbx (hge _ (by simp)) _)
      clear hK K
      try simp only [Act.put, List.setIfInBounds_toArray, List.set_cons_zero, List.set_cons_succ]
      refine wpAnyH_take (i := 8) (v := ?v38) (gA rfl) (by kernel_rfl) (by kernel_rfl) (by kernel_rfl) (fun _ _ _ h => h) (Or.inl ⟨rfl, ?y38⟩) (by assumption) ?_
      case y38 => (intro w hSw; (try dsimp only at hSw); go_simp <;> with_reducible rfl)
      simp only [Act.put, List.setIfInBounds_toArray, List.set_cons_zero, List.set_cons_succ]
      refine wpAnyH_done (by kernel_rfl) ?_ _
      go_wp2_with fail
      go_meet
      refine ⟨rfl, ⟨_, y, p', rfl, (hL _ (by simp)).row _, hy.out, ?_⟩, below_setRow hbx (hge _ (by simp)) _⟩
      first
        | (simpa using hO2)
        | exact (hO.kept ((Kept.refl _ _).setRow (.inl rfl) _) (fun k hk e => by simp at *; omega)).sai
    go_simp
    (go_at_call 83; refine (cruise_any _).mono ?_; rintro e w7 ⟨p7, rfl, hS, hb2⟩; (try replace hL := fun g hg => (hL g hg).bel hb2); have hs7 := hb2.size; replace hbx := hbx.trans (hb2.mono hbx.size); clear hb2)
    go_wp2_with fail
    refine hK.out _ _ ?_ (fun hHeld => ?_)
    · exact HSH7.out _ hbx
    clear hK K
    try simp only [Act.put, List.setIfInBounds_toArray, List.set_cons_zero, List.set_cons_succ]
    refine wpAnyH_ready (rs := [2, 6]) (by kernel_rfl) (by simp) ?_
    refine AllReadyH.cons (gA rfl) (fun K hK => ?_) ?m_13
    case m_13 =>
      refine AllReadyH.cons (gA rfl) (fun K hK => ?_) AllReadyH.nil
      go_simp
      refine hK.out _ _ ?_ (fun hHeld => ?_)
      · exact HSH7.out _ (hbx.alloc hbx.size (.cells #[.int .i64 0, .int .i64 0, .slice none 0 0, .slice none 0 0, .slice none 0 0, .int .i64 0, .int .i64 0, .slice none 0 0, .int .i64 0, .int .i64 0, .int .i64 0, .slice none 0 0, .bool false] 32))
      clear hK K
      try simp only [Act.put, List.setIfInBounds_toArray, List.set_cons_zero, List.set_cons_succ]
      (have hL := freshG hbx #[.int .i64 0, .int .i64 0, .slice none 0 0, .slice none 0 0, .slice none 0 0, .int .i64 0, .int .i64 0, .slice none 0 0, .int .i64 0, .int .i64 0, .int .i64 0, .slice none 0 0, .bool false] 32; have hge := geOf hbx; (try replace hS := hS.bel (bel1 _ (.cells #[.int .i64 0, .int .i64 0, .slice none 0 0, .slice none 0 0, .slice none 0 0, .int .i64 0, .int .i64 0, .slice none 0 0, .int .i64 0, .int .i64 0, .int .i64 0, .slice none 0 0, .bool false] 32))); (try have hO2 := (hO.sai).bel (below_setRow (bel1 _ (.cells #[.int .i64 0, .int .i64 0, .slice none 0 0, .slice none 0 0, .slice none 0 0, .int .i64 0, .int .i64 0, .slice none 0 0, .int .i64 0, .int .i64 0, .int .i64 0, .slice none 0 0, .bool false] 32)) (Nat.le_refl _) (saiA y p'))); replace hbx := hbx.alloc hbx.size (.cells #[.int .i64 0, .int .i64 0, .slice none 0 0, .slice none 0 0, .slice none 0 0, .int .i64 0, .int .i64 0, .slice none 0 0, .int .i64 0, .int .i64 0, .int .i64 0, .slice none 0 0, .bool false] 32))
      refine wpAnyH_ready (rs := [2]) (by kernel_rfl) (by simp) ?_
      refine AllReadyH.cons (gA rfl) (fun K hK => ?_) AllReadyH.nil
      go_simp
      (go_at_call 22; refine (HP10.out p7 _ hS).mono ?_; rintro e w8 ⟨⟨y, p', rfl, hy, hO⟩, hb2⟩; replace hy := Lib.hid hy; (try replace hL := fun g hg => (hL g hg).bel hb2); have hs8 := hb2.size; replace hbx := hbx.trans (hb2.mono hbx.size); clear hb2 hS)
      go_wp2_with fail
      refine hK.out _ _ ?_ (fun hHeld => ?_)
      · exact HSH7.out _ hbx
      clear hK K
      try simp only [Act.put, List.setIfInBounds_toArray, List.set_cons_zero, List.set_cons_succ]
      refine wpAnyH_take (i := 3) (v := ?v39) (gA rfl) (by kernel_rfl) (by kernel_rfl) (by kernel_rfl) (fun _ _ _ h => h) (Or.inl ⟨rfl, ?y39⟩) (by assumption) ?_
      case y39 => (intro w hSw; (try dsimp only at hSw); go_simp <;> with_reducible rfl)
      simp only [Act.put, List.setIfInBounds_toArray, List.set_cons_zero, List.set_cons_succ]
      refine wpAnyH_take (i := 4) (v := ?v40) (gA rfl) (by kernel_rfl) (by kernel_rfl) (by kernel_rfl) (fun _ _ _ h => h) (Or.inl ⟨rfl, ?y40⟩) (by assumption) ?_
      case y40 => (intro w hSw; (try dsimp only at hSw); go_simp <;> with_reducible rfl)
      simp only [Act.put, List.setIfInBounds_toArray, List.set_cons_zero, List.set_cons_succ]
      refine wpAnyH_take (i := 5) (v := ?v41) (gA rfl) (by kernel_rfl) (by kernel_rfl) (by kernel_rfl) (fun _ _ _ h => h) (Or.inl ⟨rfl, ?y41⟩) (by assumption) ?_
      case y41 => (intro w hSw; (try dsimp only at hSw); go_simp <;> with_reducible rfl)
      simp only [Act.put, List.setIfInBounds_toArray, List.set_cons_zero, List.set_cons_succ]
      refine wpAnyH_ready (rs := [7]) (by kernel_rfl) (by simp) (AllReadyH.cons (gA rfl) (fun K hK => ?_) AllReadyH.nil)
      (refine wp_store_row 32 (.tmp 7) (.tmp 34) rfl _ (saiA y p') rfl rfl 32 _ (hL _ (by simp)) (by kernel_rfl) rfl (by simp [Value.oneCell']) ?_)
      refine hK.out _ _ ?_ (fun hHeld => ?_)
      · exact HSH7.out _ (below_setRow hbx (hge _ (by simp)) _)
      clear hK K
      try simp only [Act.put, List.setIfInBounds_toArray, List.set_cons_zero, List.set_cons_succ]
      refine wpAnyH_take (i := 8) (v := ?v43) (gA rfl) (by kernel_rfl) (by kernel_rfl) (by kernel_rfl) (fun _ _ _ h => h) (Or.inl ⟨rfl, ?y43⟩) (by assumption) ?_
      case y43 => (intro w hSw; (try dsimp only at hSw); go_simp <;> with_reducible rfl)
      simp only [Act.put, List.setIfInBounds_toArray, List.set_cons_zero, List.set_cons_succ]
      refine wpAnyH_done (by kernel_rfl) ?_ _
      go_wp2_with fail
      go_meet
      refine ⟨rfl, ⟨_, y, p', rfl, (hL _ (by simp)).row _, hy.out, ?_⟩, below_setRow hbx (hge _ (by simp)) _⟩
      first
        | (simpa using hO2)
        | exact (hO.kept ((Kept.refl _ _).setRow (.inl rfl) _) (fun k hk e => by simp at *; omega)).sai
    go_simp
    (go_at_call 22; refine (HP10.out p7 _ hS).mono ?_; rintro e w8 ⟨⟨y, p', rfl, hy, hO⟩, hb2⟩; replace hy := Lib.hid hy; (try replace hL := fun g hg => (hL g hg).bel hb2); have hs8 := hb2.size; replace hbx := hbx.trans (hb2.mono hbx.size); clear hb2 hS)
    go_wp2_with fail
    refine hK.out _ _ ?_ (fun hHeld => ?_)
    · exact HSH7.out _ hbx
    clear hK K
    try simp only [Act.put, List.setIfInBounds_toArray, List.set_cons_zero, List.set_cons_succ]
    refine wpAnyH_take (i := 3) (v := ?v44) (gA rfl) (by kernel_rfl) (by kernel_rfl) (by kernel_rfl) (fun _ _ _ h => h) (Or.inl ⟨rfl, ?y44⟩) (by assumption) ?_
    case y44 => (intro w hSw; (try dsimp only at hSw); go_simp <;> with_reducible rfl)
    simp only [Act.put, List.setIfInBounds_toArray, List.set_cons_zero, List.set_cons_succ]
    refine wpAnyH_take (i := 4) (v := ?v45) (gA rfl) (by kernel_rfl) (by kernel_rfl) (by kernel_rfl) (fun _ _ _ h => h) (Or.inl ⟨rfl, ?y45⟩) (by assumption) ?_
    case y45 => (intro w hSw; (try dsimp only at hSw); go_simp <;> with_reducible rfl)
    simp only [Act.put, List.setIfInBounds_toArray, List.set_cons_zero, List.set_cons_succ]
    refine wpAnyH_take (i := 5) (v := ?v46) (gA rfl) (by kernel_rfl) (by kernel_rfl) (by kernel_rfl) (fun _ _ _ h => h) (Or.inl ⟨rfl, ?y46⟩) (by assumption) ?_
    case y46 => (intro w hSw; (try dsimp only at hSw); go_simp <;> with_reducible rfl)
    simp only [Act.put, List.setIfInBounds_toArray, List.set_cons_zero, List.set_cons_succ]
    refine wpAnyH_ready (rs := [6]) (by kernel_rfl) (by simp) ?_
    refine AllReadyH.cons (gA rfl) (fun K hK => ?_) AllReadyH.nil
    go_simp
    refine hK.out _ _ ?_ (fun hHeld => ?_)
    · exact HSH7.out _ (hbx.alloc hbx.size (.cells #[.int .i64 0, .int .i64 0, .slice none 0 0, .slice none 0 0, .slice none 0 0, .int .i64 0, .int .i64 0, .slice none 0 0, .int .i64 0, .int .i64 0, .int .i64 0, .slice none 0 0, .bool false] 32))
    clear hK K
    try simp only [Act.put, List.setIfInBounds_toArray, List.set_cons_zero, List.set_cons_succ]
    (have hL := freshG hbx #[.int .i64 0, .int .i64 0, .slice none 0 0, .slice none 0 0, .slice none 0 0, .int .i64 0, .int .i64 0, .slice none 0 0, .int .i64 0, .int .i64 0, .int .i64 0, .slice none 0 0, .bool false] 32; have hge := geOf hbx; (try replace hS := hS.bel (bel1 _ (.cells #[.int .i64 0, .int .i64 0, .slice none 0 0, .slice none 0 0, .slice none 0 0, .int .i64 0, .int .i64 0, .slice none 0 0, .int .i64 0, .int .i64 0, .int .i64 0, .slice none 0 0, .bool false] 32))); (try have hO2 := (hO.sai).bel (below_setRow (bel1 _ (.cells #[.int .i64 0, .int .i64 0, .slice none 0 0, .slice none 0 0, .slice none 0 0, .int .i64 0, .int .i64 0, .slice none 0 0, .int .i64 0, .int .i64 0, .int .i64 0, .slice none 0 0, .bool false] 32)) (Nat.le_refl _) (saiA y p'))); replace hbx := hbx.alloc hbx.size (.cells #[.int .i64 0, .int .i64 0, .slice none 0 0, .slice none 0 0, .slice none 0 0, .int .i64 0, .int .i64 0, .slice none 0 0, .int .i64 0, .int .i64 0, .int .i64 0, .slice none 0 0, .bool false] 32))
    refine wpAnyH_ready (rs := [7]) (by kernel_rfl) (by simp) (AllReadyH.cons (gA rfl) (fun K hK => ?_) AllReadyH.nil)
    (refine wp_store_row 32 (.tmp 7) (.tmp 34) rfl _ (saiA y p') rfl rfl 32 _ (hL _ (by simp)) (by kernel_rfl) rfl (by simp [Value.oneCell']) ?_)
    refine hK.out _ _ ?_ (fun hHeld => ?_)
    · exact HSH7.out _ (below_setRow hbx (hge _ (by simp)) _)
    clear hK K
    try simp only [Act.put, List.setIfInBounds_toArray, List.set_cons_zero, List.set_cons_succ]
    refine wpAnyH_take (i := 8) (v := ?v48) (gA rfl) (by kernel_rfl) (by kernel_rfl) (by kernel_rfl) (fun _ _ _ h => h) (Or.inl ⟨rfl, ?y48⟩) (by assumption) ?_
    case y48 => (intro w hSw; (try dsimp only at hSw); go_simp <;> with_reducible rfl)
    simp only [Act.put, List.setIfInBounds_toArray, List.set_cons_zero, List.set_cons_succ]
    refine wpAnyH_done (by kernel_rfl) ?_ _
    go_wp2_with fail
    go_meet
    refine ⟨rfl, ⟨_, y, p', rfl, (hL _ (by simp)).row _, hy.out, ?_⟩, below_setRow hbx (hge _ (by simp)) _⟩
    first
      | (simpa using hO2)
      | exact (hO.kept ((Kept.refl _ _).setRow (.inl rfl) _) (fun k hk e => by simp at *; omega)).sai
  obtain ⟨rfl, ⟨z2, y3, p3, rfl, -, -, -⟩, hb2⟩ := hcut
  have hb := HB9.out.trans (hb2.mono HB9.out.size)
  have HZ := Lib.hid (HZ9.out.bel hb2)
  have HS := Lib.hid (HS9.out.bel hb2)
  have HB := Lib.hid hb
  clear hb
  clear hb2 hH2 HSH7 HZ9 HS9 HB9
  go_wp2_with fail
  refine (cruise_any _).mono ?_
  rintro e w10 ⟨p10, rfl, hS10, hb10⟩
  have HS10 := Lib.hid hS10
  have HB10 := Lib.hid hb10
  clear hb10
  clear hS10
  go_wp2_with fail
  refine (HOF.out p10 _ HS10.out).mono ?_
  rintro e w11 ⟨v11, xs11, rfl, hO, hb11⟩
  obtain ⟨A11, n11, c11, rfl, hs11⟩ := hO.sl intC_good
  replace hs11 := hs11.all intC_good (by omega)
  have hbb := HB10.out.trans (hb11.mono HB10.out.size)
  have hZ := HZ.out.bel hbb
  have hS := HS.out.bel hbb
  have hb := HB.out.trans (hbb.mono HB.out.size)
  have hk := hS.bks
  rw [show (sellX cruiseX nB3).bks = [soldB cruiseX nB3, namedF, promisedF] from nB3_ins] at hk
  obtain ⟨ab, off, bk, A3, n3, c3, hA, hx, hF, -, hcel⟩ := hk.bkg (k := 0) (by have := hk.len; simp at this; omega)
  obtain rfl : bk = soldB cruiseX nB3 := by simpa using hx.symm
  have hF2 := hF
  rw [nB3_sold] at hF2
  obtain ⟨ab2, off2, x2, c0, c1, c2, hA2, hx2, ⟨hc, _⟩, e0, e1, e2⟩ := hF2.at3 (k := 0) (by have := hF2.len; simp at this; omega)
  simp only [List.cons.injEq, and_true] at hc
  obtain ⟨rfl, rfl, rfl⟩ := hc
  obtain rfl : x2 = ⟨2, 1, 225⟩ := by simpa using hx2.symm
  have hn3 : n3 = 1 := by have := hF2.len; simpa using this.symm
  have hnb : p'.nb = 3 := by have := hk.len; simpa using this.symm
  subst hA2 hn3
  have g11 : w11.cell? ⟨z, 11, none⟩ = some (.slice (some ⟨ab, off, none⟩) 3 p'.cb) := by rw [← hA, ← hnb]; exact hZ.cell rfl
  have y10 : w11.cell? ⟨ab, off + 10, none⟩ = some (.slice (some ⟨ab2, off2, none⟩) 1 c3) := by simpa using hcel 10 _ rfl
  have y2 : w11.cell? ⟨ab2, off2 + 2, none⟩ = some (.int .i64 225) := by simpa using e2
  have hl3 : ([0, 1, 2] : List Int).length = n11 := hs11.len
  have HB11 := Lib.hid hb
  clear hb
  have HS11 := Lib.hid hs11
  clear hZ hS hbb hk hF hF2 hcel hx hx2 e0 e1 e2 hA hnb hO hs11 hl3 HZ HS HB HB10 HS10
  go_wp2_with fail
  have q1 : Sl intC 1 (w11.alloc (.cells #[.int .i64 0, .int .i64 1, .int .i64 2] 3)) All (some ⟨w11.heap.size, 0, none⟩) 3 3 [0, 1, 2] := Sl.ofInts [0, 1, 2] (Blk.new w11 _ _) (by decide) trivial (by decide)
  refine (SameInts_any _ _ _ _ _ _ [0, 1, 2] [0, 1, 2] _ (HS11.out.bel (bel1 w11 (.cells #[.int .i64 0, .int .i64 1, .int .i64 2] 3))) q1).mono ?_
  rintro e w12 ⟨rfl, k, hk⟩
  have hb2 : Below (w11.alloc (.cells #[.int .i64 0, .int .i64 1, .int .i64 2] 3)).heap.size (w11.alloc (.cells #[.int .i64 0, .int .i64 1, .int .i64 2] 3)) w12 := by rw [hk]; exact below_drewN (Below.refl _ _) _
  have hd1 : decide (([0, 1, 2] : List Int) = [0, 1, 2]) = true := by decide
  clear q1 hk
  have h9 := HB11.out.alloc HB11.out.size (.cells #[.int .i64 0, .int .i64 1, .int .i64 2] 3)
  have HH9 := Lib.hid h9
  clear h9
  have HHB2 := Lib.hid hb2
  clear hb2
  go_wp2_with fail
  go_ret
  exact ⟨rfl, HH9.out.trans (HHB2.out.mono HH9.out.size)⟩
end Go.Proofs.YtoilcdgpeilgaaaGreat
