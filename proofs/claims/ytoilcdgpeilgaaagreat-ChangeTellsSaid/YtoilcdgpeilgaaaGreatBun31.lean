/-
  Words, laws and contracts: ChgH.
-/
import Derived.Test.YtoilcdgpeilgaaaGreatBun30
import Derived.BigQuiet
set_option linter.unusedSimpArgs false
set_option linter.unusedVariables false
namespace Go.Proofs.YtoilcdgpeilgaaaGreat
open Go.RowKit Go.Shelf
def GoneR (w w' : World) (x : Sai) (b : Bkg) (day : Int) (A3 : Option Addr) (n3 c3 : Nat) (e : Ending) : Prop :=
  ∃ (b' : Bkg) (A5 : Option Addr) (n5 c5 : Nat), e = .returned (.tuple #[.agg (bkgA b' (.slice A5 n5 c5)), .int .i64 (goneE x b day)]) ∧ (¬ goneE x b day = 0 → b' = b ∧ A5 = A3 ∧ n5 = n3 ∧ c5 = c3) ∧
    (goneE x b day = 0 → b' = goneB x b day ∧ ∃ xs, Own entryC 3 57 w' w.heap.size (.slice A5 n5 c5) b'.fol xs)
set_option maxRecDepth 100000 in
set_option maxHeartbeats 16000000 in
theorem goneOf_any (x : Sai) (p : SaiV) (b : Bkg) (A3 : Option Addr) (n3 c3 : Nat) (day : Int) (w : World) (hf : Sl entryC 3 w All A3 n3 c3 b.fol) (hFR : FareR w p.D p.nd p.cd x.fares p.E p.ne p.ce) (hfe : fareE x.fares x.ship.cats.length x.ship.legs = 0) (hlv : betB x.leaves 0 9999 = true) (hfo : checkFolio b.fol = 0) (hd : 0 ≤ day ∧ day ≤ 9999) :
    Calls Tryz.prog 114 #[.agg (saiA x p), .agg (bkgA b (.slice A3 n3 c3)), .int .i64 day] w fun e w' => GoneR w w' x b day A3 n3 c3 e ∧ Below w.heap.size w w' := by
  have hfk := fare_ok hfe
  have hlb := betB_iff.1 hlv
  have HSO := Lib.hid (fun q V h => SumOf_any A3 n3 c3 b.fol q V h (check_small hfo))
  have HPO := Lib.hid (fun d V hF h0 h1 => PenaltyOf_any p.D p.nd p.cd x.fares p.E p.ne p.ce (faresOf b.fol) d V hF h0 h1 (fun b hb => (hfk.band b hb).2.2))
  have HCO := Lib.hid (fun V h h0 h1 h2 => CancelOf_any A3 n3 c3 b.fol day (penV x b day) V h (.of (by omega) (by omega)) h0 hfo h1 h2)
  obtain ⟨E', hE⟩ : ∃ r, r = goneE x b day := ⟨_, rfl⟩
  have HGR := Lib.hid (show ∀ w' e, (∃ (b' : Bkg) (A5 : Option Addr) (n5 c5 : Nat), e = .returned (.tuple #[.agg (bkgA b' (.slice A5 n5 c5)), .int .i64 E']) ∧ (¬ E' = 0 → b' = b ∧ A5 = A3 ∧ n5 = n3 ∧ c5 = c3) ∧
    (E' = 0 → b' = goneB x b day ∧ ∃ xs, Own entryC 3 57 w' w.heap.size (.slice A5 n5 c5) b'.fol xs)) → GoneR w w' x b day A3 n3 c3 e from fun w' e h => by unfold GoneR; rw [← hE]; exact h)
  obtain ⟨fa, hfa⟩ : ∃ r, r = faresOf b.fol := ⟨_, rfl⟩
  obtain ⟨sk, hsk⟩ : ∃ r, r = sumOfK b.fol := ⟨_, rfl⟩
  obtain ⟨pv, hpv⟩ : ∃ r, r = penV x b day := ⟨_, rfl⟩
  obtain ⟨lt, hlt⟩ : ∃ r, r = lateV x.fares (faresOf b.fol) (max 0 (x.leaves - day)) := ⟨_, rfl⟩
  obtain ⟨L, hL⟩ : ∃ r, r = cancelL b.fol day (penV x b day) := ⟨_, rfl⟩
  obtain ⟨ce', hce⟩ : ∃ r, r = checkFolio (cancelL b.fol day (penV x b day)) := ⟨_, rfl⟩
  have HE := Lib.hid (show E' = if b.state = 2 ∧ 100000000 < fa then 3 else ce' by rw [hE, hfa, hce]; rfl)
  have HP := Lib.hid (show pv = if b.state = 2 ∧ 0 < fa then lt else 0 by rw [hpv, hfa, hlt]; rfl)
  have HPB := Lib.hid (show ¬ (b.state = 2 ∧ 100000000 < fa) → 0 ≤ pv ∧ pv ≤ 100000000 from fun h => by rw [hpv]; rw [hfa] at h; exact pen_bd hfk h)
  have HGB := Lib.hid (show goneB x b day = { b with state := 3, til := 0, fol := L } by rw [hL]; rfl)
  have HSUM := Lib.hid (show sk 1 + sk 4 = fa by rw [hsk, hfa]; exact faresOf_kinds b.fol)
  have b1 := check_sum hfo (kindB 1)
  have b4 := check_sum hfo (kindB 4)
  rw [show sumBy (kindB 1) b.fol = sk 1 by rw [hsk]; rfl] at b1
  rw [show sumBy (kindB 4) b.fol = sk 4 by rw [hsk]; rfl] at b4
  rw [← hsk] at HSO
  rw [← hfa] at HPO
  rw [← hce, ← hL, ← hpv] at HCO
  have HLT := Lib.hid (show lt = lateV x.fares fa (max 0 (x.leaves - day)) by rw [hlt, hfa])
  have hsub : IntKind.i64.wrap (x.leaves - day) = x.leaves - day := IntWalk.i64_in _ (by omega)
  have hadd : IntKind.i64.wrap (sk 1 + sk 4) = sk 1 + sk 4 := IntWalk.i64_in _ (by omega)
  have HF := Lib.hid hf
  have HFR := Lib.hid hFR
  clear hE hfa hsk hpv hlt hL hce hfk hf hFR hfe hlv hfo
  obtain ⟨A, n, cap, B, m, cap2, D, nd, cd, E, ne, ce, C, nb, cb⟩ := p
  obtain ⟨id, kind, state, gst, lev, cab, cat, frm, upto, til, fol⟩ := b
  simp only at HPO HE HP HPB HGB HCO
  go_enter Tryz.func114, Tryz.ntmps114
  go_upto_region 0 with (fail)
  go_cut [3, 4, 6, 7] (fun p p2 p3 p4 wx => ∃ g h z, p = .pointer (some ⟨g, 0, none⟩) ∧ p2 = .pointer (some ⟨h, 0, none⟩) ∧ p3 = .pointer (some ⟨z, 0, none⟩) ∧ p4 = .int .i64 0 ∧ w.heap.size ≤ g ∧ w.heap.size ≤ h ∧ w.heap.size ≤ z ∧ g ≠ h ∧ h ≠ z ∧ Blk wx g (saiA x ⟨A, n, cap, B, m, cap2, D, nd, cd, E, ne, ce, C, nb, cb⟩) 32 ∧ Blk wx h (bkgA ⟨id, kind, state, gst, lev, cab, cat, frm, upto, til, fol⟩ (.slice A3 n3 c3)) 37 ∧ Blk wx z #[.int .i64 0, .int .i64 0, .int .i64 0, .int .i64 0, .bool false, .int .i64 0, .int .i64 0, .int .i64 0, .int .i64 0, .int .i64 0, .slice none 0 0] 37 ∧ Below w.heap.size w wx)
  case first => as_aux_lemma =>
    go_wp2_with fail
    go_meet
    exact ⟨_, _, _, rfl, rfl, rfl, rfl, Nat.le_refl _, by omega, by omega, by omega, by omega, blk3_0 _ _ _ _, blk3_1 _ _ _ _, blk3_2 _ _ _ _, bel3 _ _ _ _⟩
  obtain ⟨g, h, z, rfl, rfl, rfl, rfl, hg, hh, hz, hgh, hhz, hG, hH, hZ, hb0⟩ := hcut
  obtain ⟨W1, hW1⟩ : ∃ V, V = wc := ⟨_, rfl⟩
  subst hW1
  have HT := Lib.hid (fun X (hX : Below W1.heap.size W1 X) => hb0.trans (hX.mono hb0.size))
  have HG := Lib.hid (fun X (hX : Below W1.heap.size W1 X) => hG.bel hX)
  have HH := Lib.hid (fun X (hX : Below W1.heap.size W1 X) => hH.bel hX)
  have HZ := Lib.hid (fun X (hX : Below W1.heap.size W1 X) => hZ.bel hX)
  have HFX := Lib.hid (fun X (hX : Below W1.heap.size W1 X) => HF.out.bel (HT.out X hX))
  have hhl := hH.lt
  have hzl := hZ.lt
  have HEND := Lib.hid (show ∀ (V : World), ¬ E' = 0 → Below W1.heap.size W1 V → GoneR w (V.setRow z (bkgA ⟨id, kind, state, gst, lev, cab, cat, frm, upto, til, fol⟩ (.slice A3 n3 c3))) x ⟨id, kind, state, gst, lev, cab, cat, frm, upto, til, fol⟩ day A3 n3 c3 (.returned (.tuple #[.agg (bkgA ⟨id, kind, state, gst, lev, cab, cat, frm, upto, til, fol⟩ (.slice A3 n3 c3)), .int .i64 E'])) ∧ Below w.heap.size w (V.setRow z (bkgA ⟨id, kind, state, gst, lev, cab, cat, frm, upto, til, fol⟩ (.slice A3 n3 c3))) from fun V h0 hX =>
    ⟨HGR.out _ _ ⟨⟨id, kind, state, gst, lev, cab, cat, frm, upto, til, fol⟩, A3, n3, c3, rfl, fun _ => ⟨rfl, rfl, rfl, rfl⟩, fun h => absurd h h0⟩, (HT.out V hX).trans (((Kept.refl (fun k => k = z) V).setRow (.inl rfl) _).below (B := w.heap.size) (HT.out V hX).size (fun k hk e => by omega))⟩)
  have hb : Below W1.heap.size W1 W1 := Below.refl _ _
  have hszW := hb0.size
  clear hG hH hZ hb0
  have HC10 := Lib.hid (show ∀ V, Below W1.heap.size W1 V → V.cell? ⟨h, 10, none⟩ = some (.slice A3 n3 c3) from fun V hX => (HH.out V hX).cell rfl)
  go_upto_region 1 with (fail)
  go_cut [8] (fun q wx => q = .int .i64 fa ∧ Below W1.heap.size W1 wx)
  case first =>
    replace hb := hb.drew
    go_region_held3 (fun w' => w'.cell? ⟨h, 10, none⟩ = some (.slice A3 n3 c3)) (first | exact HC10.out _ hb | go_keep) (first | (go_at_call 112; refine (HSO.out _ _ (HFX.out _ hb)).mono ?_; rintro e w5 ⟨rfl, rfl⟩))
    all_goals go_wp2_with fail
    all_goals go_meet
    all_goals exact ⟨by rw [HSUM.out], hb⟩
  obtain ⟨rfl, hb1⟩ := hcut
  replace hb := hb1
  obtain ⟨W2, hW2⟩ : ∃ V, V = wc := ⟨_, rfl⟩
  subst hW2
  clear hb1 hadd HSO HSUM b1 b4
  have c2 : W2.cell? ⟨h, 2, none⟩ = some (.int .i64 state) := (HH.out _ hb).cell rfl
  by_cases qA : state = 2 ∧ 100000000 < fa
  · obtain rfl : E' = 3 := by rw [HE.out, if_pos qA]
    obtain ⟨rfl, q2⟩ := qA
    have q3 : decide (0 < fa) = true := decide_eq_true (by omega)
    have q4 : decide (100000000 < fa) = true := decide_eq_true q2
    have hz6 := HZ.out _ hb
    clear q2
    go_wp2_with (first | (refine wpList_load_row rfl 37 (.tmp 4) rfl h rfl 37 _ (0, 0) _ (HH.out _ hb) Tryz.underlying37 rfl (by kernel_rfl) ?_) | (refine wpList_store_row rfl 37 (.tmp 6) (.tmp 29) rfl z (bkgA ⟨id, kind, 2, gst, lev, cab, cat, frm, upto, til, fol⟩ (.slice A3 n3 c3)) rfl rfl 37 _ hz6 (by kernel_rfl) rfl (bkgA_one _ _ _ _) ?_))
    refine bodyPost_ret (v := .tuple #[.agg (bkgA ⟨id, kind, 2, gst, lev, cab, cat, frm, upto, til, fol⟩ (.slice A3 n3 c3)), .int .i64 3]) ((hz6.row _).ret2 (k := 6) (u := 7) (by kernel_rfl) rfl rfl Tryz.underlying37 (by kernel_rfl) (by kernel_rfl)) rfl ?_
    exact HEND.out _ (by decide) hb
  have HPB2 := Lib.hid (HPB.out qA)
  obtain rfl : E' = ce' := by rw [HE.out, if_neg qA]
  obtain ⟨tv, htv⟩ : ∃ q, q = (decide (state = 2) && decide (0 < fa)) := ⟨_, rfl⟩
  have HTV := Lib.hid htv
  clear htv
  go_upto_region 3 with (fail)
  go_cut [26] (fun q wx => q = .bool tv ∧ W2 = wx)
  case first => as_aux_lemma =>
    by_cases q2 : state = 2
    · obtain rfl : tv = decide (0 < fa) := by rw [HTV.out, decide_eq_true q2]; rfl
      subst q2
      go_wp2_with fail
      go_meet
      exact ⟨rfl, rfl⟩
    · obtain rfl : tv = false := by rw [HTV.out, decide_eq_false q2]; rfl
      have q4 : (state == 2) = false := by simpa using q2
      clear q2
      go_wp2_with fail
      go_meet
      exact ⟨rfl, rfl⟩
  obtain ⟨rfl, rfl⟩ := hcut
  go_upto_if 26 with (fail)
  go_cut [9] (fun q wx => q = .int .i64 pv ∧ Below W1.heap.size W1 wx)
  case first =>
    cases tv
    · obtain rfl : pv = 0 := by
        rw [HP.out]
        refine if_neg fun h => ?_
        have := HTV.out
        rw [decide_eq_true h.1, decide_eq_true h.2] at this
        cases this
      go_wp2_with fail
      go_meet
      exact ⟨rfl, hb⟩
    · obtain ⟨h1, h2⟩ := Bool.and_eq_true_iff.1 HTV.out.symm
      have q2 := of_decide_eq_true h1
      have q3 := of_decide_eq_true h2
      have q5 : ¬ 100000000 < fa := fun h => qA ⟨q2, h⟩
      have q4 : decide (100000000 < fa) = false := decide_eq_false q5
      obtain rfl : pv = lt := by rw [HP.out, if_pos ⟨q2, q3⟩]
      have g4 : W2.cell? ⟨g, 4, none⟩ = some (.slice D nd cd) := (HG.out _ hb).cell rfl
      have g5 : W2.cell? ⟨g, 5, none⟩ = some (.int .i64 x.fares.alone) := (HG.out _ hb).cell rfl
      have g6 : W2.cell? ⟨g, 6, none⟩ = some (.int .i64 x.fares.third) := (HG.out _ hb).cell rfl
      have g7 : W2.cell? ⟨g, 7, none⟩ = some (.slice E ne ce) := (HG.out _ hb).cell rfl
      have g8 : W2.cell? ⟨g, 8, none⟩ = some (.int .i64 x.fares.down) := (HG.out _ hb).cell rfl
      have g10 : W2.cell? ⟨g, 10, none⟩ = some (.int .i64 x.leaves) := (HG.out _ hb).cell rfl
      have HC := Lib.hid (fun d => HPO.out d W2 (HFR.out.below (HT.out _ hb)) (by omega) (by omega))
      clear h1 h2 q2 q3 qA q5 HPO c2
      by_cases q6 : x.leaves - day < 0
      · have HL2 := Lib.hid (show lateV x.fares fa 0 = pv by rw [HLT.out]; congr 1; omega)
        have q7 : decide (x.leaves - day < 0) = true := decide_eq_true q6
        clear q6
        go_wp2_with fail
        refine (HC.out _).mono ?_
        rintro e w3 ⟨rfl, hb3⟩
        rw [HL2.out]
        replace hb := hb.trans (hb3.mono hb.size)
        clear hb3 HC
        go_wp2_with fail
        go_meet
        exact ⟨rfl, hb⟩
      · have HL2 := Lib.hid (show lateV x.fares fa (x.leaves - day) = pv by rw [HLT.out]; congr 1; omega)
        have q7 : decide (x.leaves - day < 0) = false := decide_eq_false q6
        clear q6
        go_wp2_with fail
        refine (HC.out _).mono ?_
        rintro e w3 ⟨rfl, hb3⟩
        rw [HL2.out]
        replace hb := hb.trans (hb3.mono hb.size)
        clear hb3 HC
        go_wp2_with fail
        go_meet
        exact ⟨rfl, hb⟩
  obtain ⟨rfl, hb2⟩ := hcut
  replace hb := hb2
  obtain ⟨p0, p1⟩ := HPB2.out
  obtain ⟨W3, hW3⟩ : ∃ V, V = wc := ⟨_, rfl⟩
  subst hW3
  have HC := Lib.hid (HCO.out _ (HFX.out _ hb) (.of (by omega) (by omega)) p0 p1)
  have c10 := HC10.out _ hb
  clear hb2 c2 qA HPO hsub HCO
  go_wp2_with fail
  refine HC.out.mono ?_
  rintro e w3 ⟨v, xs, rfl, hO, hb3⟩
  have hsz := hb.size
  replace hb := hb.trans (hb3.mono hb.size)
  clear hb3 HC c10
  have HO := Lib.hid hO
  clear hO
  have hz6 := HZ.out _ hb
  by_cases q5 : E' = 0
  rotate_left
  · have q6 : (E' != 0) = true := by simpa using q5
    have Q5 := Lib.hid q5
    clear q5
    go_wp2_with (first | (refine wpList_load_row rfl 37 (.tmp 4) rfl h rfl 37 _ (0, 0) _ (HH.out _ hb) Tryz.underlying37 rfl (by kernel_rfl) ?_) | (refine wpList_store_row rfl 37 (.tmp 6) (.tmp 51) rfl z (bkgA ⟨id, kind, state, gst, lev, cab, cat, frm, upto, til, fol⟩ (.slice A3 n3 c3)) rfl rfl 37 _ hz6 (by kernel_rfl) rfl (bkgA_one _ _ _ _) ?_))
    refine bodyPost_ret (v := .tuple #[.agg (bkgA ⟨id, kind, state, gst, lev, cab, cat, frm, upto, til, fol⟩ (.slice A3 n3 c3)), .int .i64 E']) ((hz6.row _).ret2 (k := 6) (u := 7) (by kernel_rfl) rfl rfl Tryz.underlying37 (by kernel_rfl) (by kernel_rfl)) rfl ?_
    exact HEND.out _ Q5.out hb
  have hO2 : Own entryC 3 57 w3 W3.heap.size v L xs := by
    have := HO.out
    rwa [q5, okL_zero] at this
  subst q5
  obtain ⟨A5, n5, c5, rfl, _⟩ := hO2.sl entryC_good
  have hH3 := HH.out _ hb
  have f2 := hH3.free 2
  have f9 := hH3.free 9
  have f10 := hH3.free 10
  have c2 : w3.cell? ⟨h, 2, none⟩ = some (.int .i64 state) := hH3.cell rfl
  have c9 : w3.cell? ⟨h, 9, none⟩ = some (.int .i64 til) := hH3.cell rfl
  have c10 := HC10.out _ hb
  have HB := Lib.hid hb
  clear hb
  have HO2 := Lib.hid hO2
  clear hO2
  have HH3 := Lib.hid hH3
  clear hH3
  go_upto_region 13 with (fail)
  go_cut [] (fun wx => Blk wx h (bkgA ⟨id, kind, 3, gst, lev, cab, cat, frm, upto, 0, L⟩ (.slice A5 n5 c5)) 37 ∧ Kept (fun k => k = h) w3 wx)
  case first => as_aux_lemma =>
    go_wp2_with fail
    go_meet
    exact ⟨((HH3.out.set (j := 10) _).set (j := 2) _).set (j := 9) _, kset w3 h [(10, .slice A5 n5 c5), (2, .int .i64 3), (9, .int .i64 0)]⟩
  obtain ⟨hH4, hK4⟩ := hcut
  obtain ⟨W4, hW4⟩ : ∃ V, V = wc := ⟨_, rfl⟩
  subst hW4
  have hz4 := hz6.kept hK4 (fun e => hhz e.symm)
  have HH4 := Lib.hid hH4
  have HK4 := Lib.hid hK4
  clear hK4
  clear hH4 f2 f9 f10 c2 c9 c10
  go_wp2_with (first | (refine wpList_load_row rfl 37 (.tmp 4) rfl h rfl 37 _ (0, 0) _ HH4.out Tryz.underlying37 rfl (by kernel_rfl) ?_) | (refine wpList_store_row rfl 37 (.tmp 6) (.tmp 57) rfl z (bkgA ⟨id, kind, 3, gst, lev, cab, cat, frm, upto, 0, L⟩ (.slice A5 n5 c5)) rfl rfl 37 _ hz4 (by kernel_rfl) rfl (bkgA_one _ _ _ _) ?_))
  refine bodyPost_ret (v := .tuple #[.agg (bkgA ⟨id, kind, 3, gst, lev, cab, cat, frm, upto, 0, L⟩ (.slice A5 n5 c5)), .int .i64 0]) ((hz4.row _).ret2 (k := 6) (u := 7) (by kernel_rfl) rfl rfl Tryz.underlying37 (by kernel_rfl) (by kernel_rfl)) rfl ?_
  have hKz : Kept (fun k => k = h ∨ k = z) w3 (W4.setRow z (bkgA ⟨id, kind, 3, gst, lev, cab, cat, frm, upto, 0, L⟩ (.slice A5 n5 c5))) := (HK4.out.mono fun k _ hk => .inl hk).setRow (.inl (.inr rfl)) _
  have hszT := (HT.out _ HB.out).size
  have hne : ∀ k, (Value.slice A5 n5 c5).ownBlock = some k → k < w3.heap.size ∧ ¬ (k = h ∨ k = z) := fun k hk => by have := HO2.out.lt k hk; exact ⟨this.2, by omega⟩
  refine ⟨HGR.out _ _ ⟨_, A5, n5, c5, rfl, fun h => (h (by first | rfl | trivial)).elim, fun _ => ⟨HGB.out.symm, xs, ?_⟩⟩, (HT.out _ HB.out).trans (hKz.below (B := w.heap.size) hszT (fun k hk e => by omega))⟩
  exact (HO2.out.keepB entryC_flat2 (fun k hk => hKz.block k (hne k hk).1 (hne k hk).2)).mono entryC_good (by omega)
end Go.Proofs.YtoilcdgpeilgaaaGreat
