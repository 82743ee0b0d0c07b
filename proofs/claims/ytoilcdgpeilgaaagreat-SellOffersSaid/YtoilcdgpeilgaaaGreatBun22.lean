/-
  Words, laws and contracts: SellF, SellG, SellH.
-/
import Derived.Test.YtoilcdgpeilgaaaGreatBun19
import Derived.Test.YtoilcdgpeilgaaaGreatBun21
import Derived.BigQuiet
set_option linter.unusedSimpArgs false
set_option linter.unusedVariables false
namespace Go.Proofs.YtoilcdgpeilgaaaGreat
open Go.RowKit Go.Shelf
def offB (x : Sai) (gs : Int) (lv : Bool) (s : Span) (c : Int) : Bkg := ⟨freeI x.bks, 1, 2, gs, lv, c, 0, s.frm, s.upto, 0, []⟩
noncomputable def offE (x : Sai) (gs : Int) (s : Span) : Int := if saiE x ≠ 0 then saiE x else if betB gs 1 4 = false then 3 else if spanE s x.ship.legs ≠ 0 then spanE s x.ship.legs else if x.leaves ≤ x.day then 4 else if x.bks.length = 16 then 2 else 0
noncomputable def offN (x : Sai) (gs : Int) (lv : Bool) (s : Span) (j : Nat) : List Int := ((List.range j).filter (fun c : Nat => decide (sellE x (offB x gs lv s (c : Int)) 1 = 0))).map Int.ofNat
noncomputable def offL (x : Sai) (gs : Int) (lv : Bool) (s : Span) : List Int := offN x gs lv s x.ship.cabs.length
theorem offN_succ (x : Sai) (gs : Int) (lv : Bool) (s : Span) (j : Nat) : offN x gs lv s (j + 1) = offN x gs lv s j ++ (if sellE x (offB x gs lv s (j : Int)) 1 = 0 then [(j : Int)] else []) := by
  unfold offN
  rw [List.range_succ, List.filter_append, List.map_append]
  by_cases h : sellE x (offB x gs lv s (j : Int)) 1 = 0 <;> simp [h]
theorem offB_in {x : Sai} {gs : Int} {lv : Bool} {s : Span} {c : Int} (hf : freeI x.bks ≤ 1000) (hg : InI gs) (hs : InI s.frm) (hu : InI s.upto) (hc : 0 ≤ c ∧ c ≤ 1000) : BkIn (offB x gs lv s c) :=
  ⟨.of (by show _ ≤ freeI x.bks; have := freeI_bd x.bks; omega) (by show freeI x.bks ≤ _; omega), .of (by show _ ≤ (1 : Int); decide) (by show (1 : Int) ≤ _; decide), .of (by show _ ≤ (2 : Int); decide) (by show (2 : Int) ≤ _; decide), hg, .of (by show _ ≤ c; omega) (by show c ≤ _; omega), .of (by show _ ≤ (0 : Int); decide) (by show (0 : Int) ≤ _; decide), hs, hu, .of (by show _ ≤ (0 : Int); decide) (by show (0 : Int) ≤ _; decide)⟩
theorem offN_len (x : Sai) (gs : Int) (lv : Bool) (s : Span) (j : Nat) : (offN x gs lv s j).length ≤ j := by
  unfold offN
  rw [List.length_map]
  exact Nat.le_trans (List.length_filter_le _ _) (by simp)
set_option maxRecDepth 100000 in
set_option maxHeartbeats 16000000 in
theorem Offers_any (x : Sai) (p : SaiV) (gs : Int) (lv : Bool) (sf su : Int) (w : World) (hS : SaiR w x p) (hgs : InI gs) (hsf : InI sf) (hsu : InI su) :
    Calls Tryz.prog 27 #[.agg (saiA x p), .int .i64 gs, .bool lv, .agg #[.int .i64 sf, .int .i64 su]] w fun e w' => ∃ v xs, e = .returned (.tuple #[v, .int .i64 (offE x gs ⟨sf, su⟩)]) ∧ Own intC 1 3 w' w.heap.size v (okL (offE x gs ⟨sf, su⟩) (offL x gs lv ⟨sf, su⟩)) xs ∧ Below w.heap.size w w' := by
  have HCK0 := Lib.hid (fun X hX => saiCheck_any x p X hX)
  have HFR0 := Lib.hid (fun X hl (ho : OkSai x) => free_any x p X hl ho.bs.len)
  have hfb := freeI_bd x.bks
  have HNA0 := Lib.hid (fun (c : Nat) X hX (hc : (c : Int) ≤ 1000) (ho : OkSai x) => Named_any x p (offB x gs lv ⟨sf, su⟩ (c : Int)) none 0 0 X hX (Sl.nil _ _ _ _) (offB_in (by have := ho.bs.len; omega) hgs hsf hsu ⟨by omega, hc⟩))
  have HSC0 := Lib.hid (fun l X => spanCheck_any sf su l X)
  obtain ⟨R, hR⟩ : ∃ r, r = offE x gs ⟨sf, su⟩ := ⟨_, rfl⟩
  obtain ⟨r, hr⟩ : ∃ r, r = saiE x := ⟨_, rfl⟩
  obtain ⟨se, hse⟩ : ∃ r, r = spanE ⟨sf, su⟩ x.ship.legs := ⟨_, rfl⟩
  obtain ⟨fr, hfr⟩ : ∃ r, r = freeI x.bks := ⟨_, rfl⟩
  have hnb : x.bks.length = p.nb := hS.bks.len
  have HR := Lib.hid (show R = if r ≠ 0 then r else if betB gs 1 4 = false then 3 else if se ≠ 0 then se else if x.leaves ≤ x.day then 4 else if p.nb = 16 then 2 else 0 by rw [hR, hr, hse, ← hnb]; rfl)
  have HOB := Lib.hid (show ∀ (c : Int) v, bkgA (offB x gs lv ⟨sf, su⟩ c) v = #[.int .i64 fr, .int .i64 1, .int .i64 2, .int .i64 gs, .bool lv, .int .i64 c, .int .i64 0, .int .i64 sf, .int .i64 su, .int .i64 0, v] by intro c v; rw [hfr]; rfl)
  have HCL := Lib.hid (show p.m = x.ship.cabs.length from hS.cabs.len.symm)
  obtain ⟨on, hon⟩ : ∃ q, q = offN x gs lv ⟨sf, su⟩ := ⟨_, rfl⟩
  have HON := Lib.hid (show ∀ j, on (j + 1) = on j ++ (if sellE x (offB x gs lv ⟨sf, su⟩ (j : Int)) 1 = 0 then [(j : Int)] else []) by intro j; rw [hon]; exact offN_succ _ _ _ _ _)
  have HONL := Lib.hid (show ∀ j, (on j).length ≤ j by intro j; rw [hon]; exact offN_len _ _ _ _ _)
  have HOL := Lib.hid (show offL x gs lv ⟨sf, su⟩ = on p.m by rw [hon, HCL.out]; rfl)
  have HON0 := Lib.hid (show on 0 = [] by rw [hon]; rfl)
  obtain ⟨sc, hsc⟩ : ∃ q : Nat → Int, q = fun j : Nat => sellE x (offB x gs lv ⟨sf, su⟩ (j : Int)) 1 := ⟨_, rfl⟩
  have HSC := Lib.hid (show ∀ j : Nat, sellE x (offB x gs lv ⟨sf, su⟩ (j : Int)) 1 = sc j by intro j; rw [hsc])
  rw [← hr] at HCK0
  rw [← hfr] at HFR0
  rw [← hR, HOL.out]
  have HRE := Lib.hid hr
  have HSE := Lib.hid (show spanE ⟨sf, su⟩ x.ship.legs = se from hse.symm)
  have HS := Lib.hid hS
  have hmb := hS.cabs.bd
  clear hR hr hse hfr hon hsc hS hfb hnb
  obtain ⟨A, n, cap, B, m, cap2, D, nd, cd, E, ne, ce, C, nb, cb⟩ := p
  simp only at HR HCL hmb HOL
  go_enter Tryz.func27, Tryz.ntmps27
  go_upto_region 0 with (fail)
  go_cut [4, 7, 8, 9] (fun p p2 _ _ wx => ∃ g s, p = .pointer (some ⟨g, 0, none⟩) ∧ p2 = .pointer (some ⟨s, 0, none⟩) ∧ Blk wx g (saiA x ⟨A, n, cap, B, m, cap2, D, nd, cd, E, ne, ce, C, nb, cb⟩) 32 ∧ Blk wx s #[.int .i64 sf, .int .i64 su] 34 ∧ Below w.heap.size w wx)
  case first => as_aux_lemma =>
    go_wp2_with fail
    go_meet
    exact ⟨_, _, rfl, rfl, blk2_0 _ _ _, blk2_1 _ _ _, bel2 _ _ _⟩
  obtain ⟨g, s, rfl, rfl, hG, hSP, hb0⟩ := hcut
  obtain ⟨W1, hW1⟩ : ∃ V, V = wc := ⟨_, rfl⟩
  subst hW1
  have HT := Lib.hid (fun X (hX : Below W1.heap.size W1 X) => hb0.trans (hX.mono hb0.size))
  have HG := Lib.hid (fun X (hX : Below W1.heap.size W1 X) => hG.bel hX)
  have HP := Lib.hid (fun X (hX : Below W1.heap.size W1 X) => hSP.bel hX)
  have HSX := Lib.hid (fun X (hX : Below W1.heap.size W1 X) => HS.out.bel (HT.out X hX))
  have HWW := Lib.hid hb0.size
  have hb : Below W1.heap.size W1 W1 := Below.refl _ _
  clear hG hSP hb0
  have HC := Lib.hid (HCK0.out _ (HSX.out _ hb))
  go_wp2_with (refine wpList_load_row rfl 32 (.tmp 4) rfl g rfl 32 _ (0, 0) _ (HG.out _ hb) Tryz.underlying32 rfl (by kernel_rfl) ?_)
  refine HC.out.mono ?_
  rintro e w1 ⟨rfl, hb1⟩
  replace hb := hb.trans (hb1.mono hb.size)
  clear hb1 HC HCK0
  by_cases q0 : r = 0
  rotate_left
  · obtain rfl : R = r := by rw [HR.out, if_pos q0]
    have q0' : (R == 0) = false := by simpa using q0
    have q0'' : (R != 0) = true := by simpa using q0
    have Q0 := Lib.hid q0
    clear q0
    go_wp2_with fail
    go_ret2
    exact ⟨_, [], rfl, Own.nilE Q0.out, HT.out _ hb⟩
  have HOK := Lib.hid (sai_ok (HRE.out.symm.trans q0))
  have HR1 := Lib.hid (HR.out.trans (if_neg (by rw [q0]; simp)))
  subst q0
  by_cases q1 : gs < 1
  · obtain rfl : R = 3 := by rw [HR1.out, if_pos (betB_false (.inl q1))]
    have d1 : decide (gs < 1) = true := decide_eq_true q1
    clear q1
    go_wp2_with fail
    go_ret2
    exact ⟨_, [], rfl, Own.nilE (by decide), HT.out _ hb⟩
  have d1 : decide (gs < 1) = false := decide_eq_false q1
  by_cases q2 : 4 < gs
  · obtain rfl : R = 3 := by rw [HR1.out, if_pos (betB_false (.inr q2))]
    have d2 : decide (4 < gs) = true := decide_eq_true q2
    clear q1 q2
    go_wp2_with fail
    go_ret2
    exact ⟨_, [], rfl, Own.nilE (by decide), HT.out _ hb⟩
  have d2 : decide (4 < gs) = false := decide_eq_false q2
  have HR2 := Lib.hid (HR1.out.trans (if_neg (by rw [betB_true (by omega) (by omega)]; simp)))
  clear q1 q2
  have g0 : w1.cell? ⟨g, 0, none⟩ = some (.int .i64 x.ship.legs) := (HG.out _ hb).cell rfl
  have s0 : w1.cell? ⟨s, 0, none⟩ = some (.int .i64 sf) := (HP.out _ hb).cell rfl
  have s1 : w1.cell? ⟨s, 1, none⟩ = some (.int .i64 su) := (HP.out _ hb).cell rfl
  have HC := Lib.hid (HSC0.out x.ship.legs w1)
  rw [HSE.out] at HC
  go_wp2_with fail
  refine HC.out.mono ?_
  rintro e w2 ⟨rfl, hb1⟩
  replace hb := hb.trans (hb1.mono hb.size)
  clear hb1 HC HSC0 g0 s0 s1
  by_cases q3 : se = 0
  rotate_left
  · obtain rfl : R = se := by rw [HR2.out, if_pos q3]
    have q3'' : (R != 0) = true := by simpa using q3
    have Q3 := Lib.hid q3
    clear q3
    go_wp2_with fail
    go_ret2
    exact ⟨_, [], rfl, Own.nilE Q3.out, HT.out _ hb⟩
  have HR3 := Lib.hid (HR2.out.trans (if_neg (by rw [q3]; simp)))
  subst q3
  have g9 : w2.cell? ⟨g, 9, none⟩ = some (.int .i64 x.day) := (HG.out _ hb).cell rfl
  have g10 : w2.cell? ⟨g, 10, none⟩ = some (.int .i64 x.leaves) := (HG.out _ hb).cell rfl
  have g11 : w2.cell? ⟨g, 11, none⟩ = some (.slice C nb cb) := (HG.out _ hb).cell rfl
  have g3 : w2.cell? ⟨g, 3, none⟩ = some (.slice B m cap2) := (HG.out _ hb).cell rfl
  by_cases q4 : x.leaves ≤ x.day
  · obtain rfl : R = 4 := by rw [HR3.out, if_pos q4]
    have d4 : decide (x.leaves ≤ x.day) = true := decide_eq_true q4
    clear q4
    go_wp2_with fail
    go_ret2
    exact ⟨_, [], rfl, Own.nilE (by decide), HT.out _ hb⟩
  have d4 : decide (x.leaves ≤ x.day) = false := decide_eq_false q4
  have HR4 := Lib.hid (HR3.out.trans (if_neg q4))
  clear q4
  by_cases q5 : nb = 16
  · obtain rfl : R = 2 := by rw [HR4.out, if_pos q5]
    subst q5
    go_wp2_with fail
    go_ret2
    exact ⟨_, [], rfl, Own.nilE (by decide), HT.out _ hb⟩
  obtain rfl : R = 0 := by rw [HR4.out, if_neg q5]
  have q5' : ((nb : Int) == 16) = false := by simp; omega
  have hm12 : m ≤ 12 := by rw [HCL.out]; exact HOK.out.bs.ship.cabs12
  clear q5
  go_wp2_with fail
  clear g9 g10 g11 g3 d4 q5' d1 d2
  obtain ⟨W2, hW2⟩ : ∃ V, V = w2 := ⟨_, rfl⟩
  subst hW2
  go_loopg [54, 11] m (fun gk i v wr => ∃ (k : Nat) (A1 : Option Addr) (n1 c1 : Nat) (xs : List Value), k ≤ m ∧ m - k ≤ gk ∧ i = .int .i64 k ∧ v = .slice A1 n1 c1 ∧ Own intC 1 3 wr W1.heap.size (.slice A1 n1 c1) (on k) xs ∧ Below W1.heap.size W1 wr)
  case atStart => exact ⟨0, none, 0, 0, [], Nat.zero_le _, by omega, rfl, rfl, by rw [HON0.out]; exact Own.nil _ _ _ _ _, hb⟩
  case round =>
    clear hb
    obtain ⟨k, A1, n1, c1, xs, hk, hgk, rfl, rfl, hO, hb⟩ := hrel
    by_cases hlt : k < m
    · go_upto_region 16 with (fail)
      obtain ⟨w5, hw5⟩ : ∃ V, V = wr := ⟨_, rfl⟩
      subst hw5
      have HB := Lib.hid hb
      clear hb
      have HO := Lib.hid hO
      clear hO
      have hk12 : (k : Int) ≤ 1000 := by omega
      go_cut [13] (fun p wx => ∃ y, p = .pointer (some ⟨y, 0, none⟩) ∧ w5.heap.size ≤ y ∧ Blk wx y (bkgA (offB x gs lv ⟨sf, su⟩ (k : Int)) (.slice none 0 0)) 37 ∧ Below w5.heap.size w5 wx)
      case first =>
        have hbx : Below w5.heap.size w5 w5.drew := (Below.refl _ _).drew
        have HSS := Lib.hid (show ∀ w', Below w5.heap.size w5 w' → ((w'.cell? ⟨g, 0, none⟩ = some (.int .i64 x.ship.legs) ∧ w'.cell? ⟨g, 1, none⟩ = some (.int .i64 x.ship.souls) ∧ w'.cell? ⟨g, 2, none⟩ = some (.slice A n cap) ∧ w'.cell? ⟨g, 3, none⟩ = some (.slice B m cap2) ∧ w'.cell? ⟨g, 4, none⟩ = some (.slice D nd cd) ∧ w'.cell? ⟨g, 5, none⟩ = some (.int .i64 x.fares.alone) ∧ w'.cell? ⟨g, 6, none⟩ = some (.int .i64 x.fares.third) ∧ w'.cell? ⟨g, 7, none⟩ = some (.slice E ne ce) ∧ w'.cell? ⟨g, 8, none⟩ = some (.int .i64 x.fares.down) ∧ w'.cell? ⟨g, 9, none⟩ = some (.int .i64 x.day) ∧ w'.cell? ⟨g, 10, none⟩ = some (.int .i64 x.leaves) ∧ w'.cell? ⟨g, 11, none⟩ = some (.slice C nb cb) ∧ w'.cell? ⟨g, 12, none⟩ = some (.bool x.closed)) ∧ (w'.cell? ⟨s, 0, none⟩ = some (.int .i64 sf) ∧ w'.cell? ⟨s, 1, none⟩ = some (.int .i64 su))) from fun w' hX0 => by
          have hX := HB.out.trans (hX0.mono HB.out.size)
          exact ⟨⟨(HG.out _ hX).cell rfl, (HG.out _ hX).cell rfl, (HG.out _ hX).cell rfl, (HG.out _ hX).cell rfl, (HG.out _ hX).cell rfl, (HG.out _ hX).cell rfl, (HG.out _ hX).cell rfl, (HG.out _ hX).cell rfl, (HG.out _ hX).cell rfl, (HG.out _ hX).cell rfl, (HG.out _ hX).cell rfl, (HG.out _ hX).cell rfl, (HG.out _ hX).cell rfl⟩, (HP.out _ hX).cell rfl, (HP.out _ hX).cell rfl⟩)
        have HFC := Lib.hid (fun X (hX : Below w5.heap.size w5 X) => HFR0.out X (HSX.out X (HB.out.trans (hX.mono HB.out.size))).bks HOK.out)
        refine wp_region_held_drew (S := (fun w' => (w'.cell? ⟨g, 0, none⟩ = some (.int .i64 x.ship.legs) ∧ w'.cell? ⟨g, 1, none⟩ = some (.int .i64 x.ship.souls) ∧ w'.cell? ⟨g, 2, none⟩ = some (.slice A n cap) ∧ w'.cell? ⟨g, 3, none⟩ = some (.slice B m cap2) ∧ w'.cell? ⟨g, 4, none⟩ = some (.slice D nd cd) ∧ w'.cell? ⟨g, 5, none⟩ = some (.int .i64 x.fares.alone) ∧ w'.cell? ⟨g, 6, none⟩ = some (.int .i64 x.fares.third) ∧ w'.cell? ⟨g, 7, none⟩ = some (.slice E ne ce) ∧ w'.cell? ⟨g, 8, none⟩ = some (.int .i64 x.fares.down) ∧ w'.cell? ⟨g, 9, none⟩ = some (.int .i64 x.day) ∧ w'.cell? ⟨g, 10, none⟩ = some (.int .i64 x.leaves) ∧ w'.cell? ⟨g, 11, none⟩ = some (.slice C nb cb) ∧ w'.cell? ⟨g, 12, none⟩ = some (.bool x.closed)) ∧ (w'.cell? ⟨s, 0, none⟩ = some (.int .i64 sf) ∧ w'.cell? ⟨s, 1, none⟩ = some (.int .i64 su)))) (by kernel_rfl) (HSS.out _ hbx) (fun hHeld => ?_)
        refine wpAnyH_take (i := 0) (v := ?v5) (gA rfl) (by kernel_rfl) (by kernel_rfl) (by kernel_rfl) (fun _ _ _ h => h) (Or.inl ⟨rfl, ?y5⟩) (by assumption) ?_
        case y5 => (intro w hSw; (try dsimp only at hSw); go_simp <;> with_reducible rfl)
        simp only [Act.put, List.setIfInBounds_toArray, List.set_cons_zero, List.set_cons_succ]
        refine wpAnyH_take (i := 2) (v := ?v6) (gA rfl) (by kernel_rfl) (by kernel_rfl) (by kernel_rfl) (fun _ _ _ h => h) (Or.inl ⟨rfl, ?y6⟩) (by assumption) ?_
        case y6 => (intro w hSw; (try dsimp only at hSw); go_simp <;> with_reducible rfl)
        simp only [Act.put, List.setIfInBounds_toArray, List.set_cons_zero, List.set_cons_succ]
        refine wpAnyH_take (i := 3) (v := ?v7) (gA rfl) (by kernel_rfl) (by kernel_rfl) (by kernel_rfl) (fun _ _ _ h => h) (Or.inl ⟨rfl, ?y7⟩) (by assumption) ?_
        case y7 => (intro w hSw; (try dsimp only at hSw); go_simp <;> with_reducible rfl)
        simp only [Act.put, List.setIfInBounds_toArray, List.set_cons_zero, List.set_cons_succ]
        refine wpAnyH_take (i := 4) (v := ?v8) (gA rfl) (by kernel_rfl) (by kernel_rfl) (by kernel_rfl) (fun _ _ _ h => h) (Or.inl ⟨rfl, ?y8⟩) (by assumption) ?_
        case y8 => (intro w hSw; (try dsimp only at hSw); go_simp <;> with_reducible rfl)
        simp only [Act.put, List.setIfInBounds_toArray, List.set_cons_zero, List.set_cons_succ]
        refine wpAnyH_take (i := 5) (v := ?v9) (gA rfl) (by kernel_rfl) (by kernel_rfl) (by kernel_rfl) (fun _ _ _ h => h) (Or.inl ⟨rfl, ?y9⟩) (by assumption) ?_
        case y9 => (intro w hSw; (try dsimp only at hSw); go_simp <;> with_reducible rfl)
        simp only [Act.put, List.setIfInBounds_toArray, List.set_cons_zero, List.set_cons_succ]
        refine wpAnyH_ready (rs := [1, 7]) (by kernel_rfl) (by simp) ?_
        refine AllReadyH.cons (gA rfl) (fun K hK => ?_) ?m_1
        case m_1 =>
          refine AllReadyH.cons (gA rfl) (fun K hK => ?_) AllReadyH.nil
          go_simp
          refine hK.out _ _ ?_ (fun hHeld => ?_)
          · exact HSS.out _ (hbx.alloc hbx.size (.cells #[.int .i64 0, .int .i64 0, .int .i64 0, .int .i64 0, .bool false, .int .i64 0, .int .i64 0, .int .i64 0, .int .i64 0, .int .i64 0, .slice none 0 0] 37))
          clear hK K
          try simp only [Act.put, List.setIfInBounds_toArray, List.set_cons_zero, List.set_cons_succ]
          (have hL := freshG hbx #[.int .i64 0, .int .i64 0, .int .i64 0, .int .i64 0, .bool false, .int .i64 0, .int .i64 0, .int .i64 0, .int .i64 0, .int .i64 0, .slice none 0 0] 37; have hge := geOf hbx; replace hbx := hbx.alloc hbx.size (.cells #[.int .i64 0, .int .i64 0, .int .i64 0, .int .i64 0, .bool false, .int .i64 0, .int .i64 0, .int .i64 0, .int .i64 0, .int .i64 0, .slice none 0 0] 37))
          refine wpAnyH_ready (rs := [1]) (by kernel_rfl) (by simp) ?_
          refine AllReadyH.cons (gA rfl) (fun K hK => ?_) AllReadyH.nil
          go_simp
          (go_at_call 94; refine (HFC.out _ hbx).mono ?_; rintro e w6 ⟨rfl, hb6⟩; (try replace hL := fun g hg => (hL g hg).bel hb6); replace hbx := hbx.trans (hb6.mono hbx.size); clear hb6)
          go_wp2_with fail
          refine hK.out _ _ ?_ (fun hHeld => ?_)
          · exact HSS.out _ hbx
          clear hK K
          try simp only [Act.put, List.setIfInBounds_toArray, List.set_cons_zero, List.set_cons_succ]
          refine wpAnyH_take (i := 6) (v := ?v10) (gA rfl) (by kernel_rfl) (by kernel_rfl) (by kernel_rfl) (fun _ _ _ h => h) (Or.inl ⟨rfl, ?y10⟩) (by assumption) ?_
          case y10 => (intro w hSw; (try dsimp only at hSw); go_simp <;> with_reducible rfl)
          simp only [Act.put, List.setIfInBounds_toArray, List.set_cons_zero, List.set_cons_succ]
          refine wpAnyH_ready (rs := [8]) (by kernel_rfl) (by simp) (AllReadyH.cons (gA rfl) (fun K hK => ?_) AllReadyH.nil)
          (refine wp_store_row 37 (.tmp 13) (.tmp 63) rfl _ #[.int .i64 fr, .int .i64 1, .int .i64 2, .int .i64 gs, .bool lv, .int .i64 (k : Int), .int .i64 0, .int .i64 sf, .int .i64 su, .int .i64 0, .slice none 0 0] rfl rfl 37 _ (hL _ (by simp)) (by kernel_rfl) rfl (by simp [Value.oneCell']) ?_)
          refine hK.out _ _ ?_ (fun hHeld => ?_)
          · exact HSS.out _ (below_setRow hbx (hge _ (by simp)) _)
          clear hK K
          try simp only [Act.put, List.setIfInBounds_toArray, List.set_cons_zero, List.set_cons_succ]
          refine wpAnyH_done (by kernel_rfl) ?_ _
          go_wp2_with fail
          go_meet
          exact ⟨_, rfl, hge _ (by simp), by rw [HOB.out]; exact (hL _ (by simp)).row _, below_setRow hbx (hge _ (by simp)) _⟩
        go_simp
        (go_at_call 94; refine (HFC.out _ hbx).mono ?_; rintro e w6 ⟨rfl, hb6⟩; (try replace hL := fun g hg => (hL g hg).bel hb6); replace hbx := hbx.trans (hb6.mono hbx.size); clear hb6)
        go_wp2_with fail
        refine hK.out _ _ ?_ (fun hHeld => ?_)
        · exact HSS.out _ hbx
        clear hK K
        try simp only [Act.put, List.setIfInBounds_toArray, List.set_cons_zero, List.set_cons_succ]
        refine wpAnyH_take (i := 6) (v := ?v12) (gA rfl) (by kernel_rfl) (by kernel_rfl) (by kernel_rfl) (fun _ _ _ h => h) (Or.inl ⟨rfl, ?y12⟩) (by assumption) ?_
        case y12 => (intro w hSw; (try dsimp only at hSw); go_simp <;> with_reducible rfl)
        simp only [Act.put, List.setIfInBounds_toArray, List.set_cons_zero, List.set_cons_succ]
        refine wpAnyH_ready (rs := [7]) (by kernel_rfl) (by simp) ?_
        refine AllReadyH.cons (gA rfl) (fun K hK => ?_) AllReadyH.nil
        go_simp
        refine hK.out _ _ ?_ (fun hHeld => ?_)
        · exact HSS.out _ (hbx.alloc hbx.size (.cells #[.int .i64 0, .int .i64 0, .int .i64 0, .int .i64 0, .bool false, .int .i64 0, .int .i64 0, .int .i64 0, .int .i64 0, .int .i64 0, .slice none 0 0] 37))
        clear hK K
        try simp only [Act.put, List.setIfInBounds_toArray, List.set_cons_zero, List.set_cons_succ]
        (have hL := freshG hbx #[.int .i64 0, .int .i64 0, .int .i64 0, .int .i64 0, .bool false, .int .i64 0, .int .i64 0, .int .i64 0, .int .i64 0, .int .i64 0, .slice none 0 0] 37; have hge := geOf hbx; replace hbx := hbx.alloc hbx.size (.cells #[.int .i64 0, .int .i64 0, .int .i64 0, .int .i64 0, .bool false, .int .i64 0, .int .i64 0, .int .i64 0, .int .i64 0, .int .i64 0, .slice none 0 0] 37))
        refine wpAnyH_ready (rs := [8]) (by kernel_rfl) (by simp) (AllReadyH.cons (gA rfl) (fun K hK => ?_) AllReadyH.nil)
        (refine wp_store_row 37 (.tmp 13) (.tmp 63) rfl _ #[.int .i64 fr, .int .i64 1, .int .i64 2, .int .i64 gs, .bool lv, .int .i64 (k : Int), .int .i64 0, .int .i64 sf, .int .i64 su, .int .i64 0, .slice none 0 0] rfl rfl 37 _ (hL _ (by simp)) (by kernel_rfl) rfl (by simp [Value.oneCell']) ?_)
        refine hK.out _ _ ?_ (fun hHeld => ?_)
        · exact HSS.out _ (below_setRow hbx (hge _ (by simp)) _)
        clear hK K
        try simp only [Act.put, List.setIfInBounds_toArray, List.set_cons_zero, List.set_cons_succ]
        refine wpAnyH_done (by kernel_rfl) ?_ _
        go_wp2_with fail
        go_meet
        exact ⟨_, rfl, hge _ (by simp), by rw [HOB.out]; exact (hL _ (by simp)).row _, below_setRow hbx (hge _ (by simp)) _⟩
      obtain ⟨y, rfl, hy, hY, hb6⟩ := hcut
      have hb7 := HB.out.trans (hb6.mono HB.out.size)
      have hO7 := HO.out.bel hb6
      have HC := Lib.hid (HNA0.out k _ (HSX.out _ hb7) hk12 HOK.out)
      rw [HSC.out] at HC
      have HY := Lib.hid hY
      have HG7 := Lib.hid (HG.out _ hb7)
      have HO7 := Lib.hid hO7
      clear hO7
      have HB7 := Lib.hid hb7
      clear hb7
      clear hY hb6
      go_upto_region 17 with (fail)
      obtain ⟨w7, hw7⟩ : ∃ V, V = wc := ⟨_, rfl⟩
      subst hw7
      go_cut [14, 15] (fun _ p wx => p = .int .i64 (sc k) ∧ Below w7.heap.size w7 wx)
      case first =>
        go_wp2_with (first | (refine wpList_load_row rfl 32 (.tmp 4) rfl g rfl 32 _ (0, 0) _ HG7.out Tryz.underlying32 rfl (by kernel_rfl) ?_) | (refine wpList_load_row rfl 37 (.tmp 13) rfl y rfl 37 _ (0, 0) _ HY.out Tryz.underlying37 rfl (by kernel_rfl) ?_))
        refine HC.out.mono ?_
        rintro e w8 ⟨⟨z, p8, rfl, -, -⟩, hb8⟩
        go_wp2_with (refine wpList_store_row rfl 32 (.tmp 14) (.tmp 68) rfl w8.heap.size (saiA z p8) rfl rfl 32 _ (Blk.new w8 #[.int .i64 0, .int .i64 0, .slice none 0 0, .slice none 0 0, .slice none 0 0, .int .i64 0, .int .i64 0, .slice none 0 0, .int .i64 0, .int .i64 0, .int .i64 0, .slice none 0 0, .bool false] 32) (by kernel_rfl) rfl (by simp [Value.oneCell']) ?_)
        go_meet
        exact ⟨rfl, hb8.trans ((below_setRow (bel1 w8 _) (Nat.le_refl _) _).mono hb8.size)⟩
      obtain ⟨rfl, hb8⟩ := hcut
      have hO8 := HO7.out.bel hb8
      have hb9 := HB7.out.trans (hb8.mono HB7.out.size)
      have HN := Lib.hid (HON.out k)
      rw [HSC.out] at HN
      have hlen := HONL.out k
      clear hb8 HC
      by_cases q : sc k = 0
      · have HN2 := Lib.hid (HN.out.trans (by rw [if_pos q]))
        have hq : (sc k == 0) = true := by simpa using q
        obtain ⟨w9, hw9⟩ : ∃ V, V = wc := ⟨_, rfl⟩
        subst hw9
        have hOq := hO8.bel (bel1 w9 (.cells #[.int .i64 (k : Int)] 3))
        have hsq : W1.heap.size ≤ (w9.alloc (.cells #[.int .i64 (k : Int)] 3)).heap.size := by have := hb9.size; simp; omega
        have HOQ := Lib.hid hOq
        have HB9 := Lib.hid (hb9.alloc hb9.size (.cells #[.int .i64 (k : Int)] 3))
        clear hOq hO8 hb9 q
        go_wp2_with (at_builtin; refine list_app (t := 47) (e := 3) (bytes := 8) rfl (.tmp 72) (.tmp 74) rfl int_elem intC_good rfl HOQ.out rfl (sl_int _ All (k : Int) 3 (.of (by omega) (by omega)) trivial) (fun _ _ hc => hc) (by omega) (by omega) hsq ?_; intro v' w' xs' hown' hg' _; obtain ⟨A6, n6, c6, rfl, _⟩ := hown'.sl intC_good; have HBE := Lib.hid (below_app HB9.out HOQ.out hg' hsq); have HOE := Lib.hid hown'; clear hown' hg')
        go_roundg (m - (k + 1))
        case measure => omega
        case rel => exact ⟨k + 1, A6, n6, c6, xs', by omega, by omega, by go_num, rfl, by rw [HN2.out]; exact HOE.out, HBE.out⟩
      · have HN2 := Lib.hid (HN.out.trans (by rw [if_neg q, List.append_nil]))
        have hq : (sc k == 0) = false := by simpa using q
        clear q
        have HO8 := Lib.hid hO8
        clear hO8
        go_wp2_with fail
        go_roundg (m - (k + 1))
        case measure => omega
        case rel => exact ⟨k + 1, A1, n1, c1, xs, by omega, by omega, by go_num, rfl, by rw [HN2.out]; exact HO8.out, hb9⟩
    · obtain rfl : k = m := by omega
      have HO := Lib.hid hO
      clear hO
      go_wp2_with fail
      go_ret2
      exact ⟨_, xs, rfl, by rw [okL_zero]; exact HO.out.mono intC_good HWW.out, HT.out _ hb⟩
end Go.Proofs.YtoilcdgpeilgaaaGreat
namespace Go.Proofs.YtoilcdgpeilgaaaGreat
open Go.RowKit Go.Shelf
theorem sellE_ok {x : Sai} {b : Bkg} {k : Int} (h : saiE x = 0) : sellE x b k = sellE1 x b k := by
  unfold sellE
  rw [h, if_neg (by simp)]
end Go.Proofs.YtoilcdgpeilgaaaGreat
namespace Go.Proofs.YtoilcdgpeilgaaaGreat
open Go.RowKit Go.Shelf
theorem cruise_sold {b : Bkg} {es : List Edg} {s : List Int} (h1 : ∀ c : Nat, c < 3 → takB (insS cruiseX.bks b) (c : Int) = true) (h2 : soulL (insS cruiseX.bks b) 3 = s) (h3 : ¬ 6 < mx s) (h4 : idsL (withS cruiseX b) = [9]) (h5 : edgL (withS cruiseX b) = es) (h6 : allB 1 es = true) : roomE (withS cruiseX b) = 0 := by
  unfold roomE
  rw [if_neg (by
    unfold twiceB
    simp only [List.any_eq_true, not_exists, not_and, List.mem_range]
    intro c hc
    rw [show (withS cruiseX b).bks = insS cruiseX.bks b from rfl, h1 c hc]; simp), show (withS cruiseX b).ship.legs.toNat = 3 from rfl, show (withS cruiseX b).bks = insS cruiseX.bks b from rfl, h2, if_neg (show ¬ (withS cruiseX b).ship.souls < mx s from h3), h4, h5, show ([9] : List Int).length = 1 from rfl, h6]
  rfl
theorem sell_zero {b : Bkg} {k : Int} (h0 : b.kind = k) (h1 : b.state ≠ 3) (h2 : b.fol = []) (h3 : ¬ (k = 2 ∧ b.cab ≠ -1)) (h4 : ofE vesselX b = 0) (h5 : put0 cruiseX b = false) (h6 : hasId cruiseX.bks b.id = false) : sellE cruiseX b k = roomE (sellX cruiseX b) := by
  unfold sellE sellE1 putE
  rw [cruise_e, if_neg (by simp), if_neg (by simp [h0, h1]), if_neg (by rw [h2]; simpa using h3), show cruiseX.ship = vesselX from rfl, h4, if_neg (by simp), h5, if_neg (by simp), h6, if_neg (by simp), if_neg (by decide)]
  rfl
def nB3 : Bkg := ⟨3, 1, 2, 1, false, 1, 0, 0, 1, 0, []⟩
def pB10 : Bkg := ⟨10, 2, 1, 2, false, -1, 0, 0, 3, 4, []⟩
def oB (c : Int) : Bkg := ⟨1, 1, 2, 1, false, c, 0, 0, 1, 0, []⟩
theorem nB3_sold : soldB cruiseX nB3 = ⟨3, 1, 2, 1, false, 1, 0, 0, 1, 0, [⟨2, 1, 225⟩]⟩ := by kernel_rfl
theorem nB3_ins : insS cruiseX.bks (soldB cruiseX nB3) = [soldB cruiseX nB3, namedF, promisedF] := by kernel_rfl
theorem nB3_room : roomE (sellX cruiseX nB3) = 0 :=
  cruise_sold (es := [⟨0, 0⟩, ⟨0, 2⟩]) (s := [3, 5, 5]) (fun c hc => by
    rcases c with _ | _ | _ | c
    · exact (tak_of (show spF (spL (insS cruiseX.bks (soldB cruiseX nB3)) 0) = some [] by decide)).1
    · exact (tak_of (show spF (spL (insS cruiseX.bks (soldB cruiseX nB3)) 1) = some [⟨0, 1⟩, ⟨1, 3⟩] by decide)).1
    · exact (tak_of (show spF (spL (insS cruiseX.bks (soldB cruiseX nB3)) 2) = some [] by decide)).1
    · omega) (by decide) (by decide) (by decide) (by decide) cruise_all
theorem nB3_e : sellE cruiseX nB3 1 = 0 := (sell_zero rfl (by decide) rfl (by decide) (by decide) (by decide) (by decide)).trans nB3_room
theorem named_e : sellE cruiseX namedX 1 = 6 := by
  unfold sellE sellE1 putE
  rw [cruise_e, if_neg (by simp), if_neg (by decide), if_neg (by decide), if_neg (by decide), if_neg (by decide), if_pos (by decide)]
theorem pB10_room : roomE (sellX cruiseX pB10) = 8 := by
  unfold roomE
  rw [if_neg (by
    unfold twiceB
    simp only [List.any_eq_true, not_exists, not_and, List.mem_range]
    intro c hc
    rcases c with _ | _ | _ | c
    · rw [(tak_of (show spF (spL (sellX cruiseX pB10).bks (0 : Nat)) = some [] by decide)).1]; simp
    · rw [(tak_of (show spF (spL (sellX cruiseX pB10).bks (1 : Nat)) = some [⟨1, 3⟩] by decide)).1]; simp
    · rw [(tak_of (show spF (spL (sellX cruiseX pB10).bks (2 : Nat)) = some [] by decide)).1]; simp
    · exact absurd hc (by show ¬ c + 3 < 3; omega)), if_pos (by decide)]
theorem pB10_e : sellE cruiseX pB10 2 = 8 := (sell_zero rfl (by decide) rfl (by decide) (by decide) (by decide) (by decide)).trans pB10_room
theorem free_cruise : freeI cruiseX.bks = 1 := by decide
theorem off_e : offE cruiseX 1 ⟨0, 1⟩ = 0 := by
  unfold offE
  rw [cruise_e, if_neg (by simp), if_neg (by decide), if_neg (by decide), if_neg (by decide), if_neg (by decide)]
theorem oB0_e : sellE cruiseX (oB 0) 1 = 0 := (sell_zero rfl (by decide) rfl (by decide) (by decide) (by decide) (by decide)).trans
  (cruise_sold (es := [⟨0, 2⟩]) (s := [3, 5, 5]) (fun c hc => by
    rcases c with _ | _ | _ | c
    · exact (tak_of (show spF (spL (insS cruiseX.bks (soldB cruiseX (oB 0))) 0) = some [⟨0, 1⟩] by decide)).1
    · exact (tak_of (show spF (spL (insS cruiseX.bks (soldB cruiseX (oB 0))) 1) = some [⟨1, 3⟩] by decide)).1
    · exact (tak_of (show spF (spL (insS cruiseX.bks (soldB cruiseX (oB 0))) 2) = some [] by decide)).1
    · omega) (by decide) (by decide) (by decide) (by decide) (allB_true ⟨[(0, 2)], ⟨by decide, by decide, by decide⟩, rfl⟩))
theorem oB1_e : sellE cruiseX (oB 1) 1 = 0 := (sell_zero rfl (by decide) rfl (by decide) (by decide) (by decide) (by decide)).trans
  (cruise_sold (es := [⟨0, 0⟩, ⟨0, 2⟩]) (s := [3, 5, 5]) (fun c hc => by
    rcases c with _ | _ | _ | c
    · exact (tak_of (show spF (spL (insS cruiseX.bks (soldB cruiseX (oB 1))) 0) = some [] by decide)).1
    · exact (tak_of (show spF (spL (insS cruiseX.bks (soldB cruiseX (oB 1))) 1) = some [⟨0, 1⟩, ⟨1, 3⟩] by decide)).1
    · exact (tak_of (show spF (spL (insS cruiseX.bks (soldB cruiseX (oB 1))) 2) = some [] by decide)).1
    · omega) (by decide) (by decide) (by decide) (by decide) cruise_all)
theorem oB2_e : sellE cruiseX (oB 2) 1 = 0 := (sell_zero rfl (by decide) rfl (by decide) (by decide) (by decide) (by decide)).trans
  (cruise_sold (es := [⟨0, 0⟩]) (s := [3, 5, 5]) (fun c hc => by
    rcases c with _ | _ | _ | c
    · exact (tak_of (show spF (spL (insS cruiseX.bks (soldB cruiseX (oB 2))) 0) = some [] by decide)).1
    · exact (tak_of (show spF (spL (insS cruiseX.bks (soldB cruiseX (oB 2))) 1) = some [⟨1, 3⟩] by decide)).1
    · exact (tak_of (show spF (spL (insS cruiseX.bks (soldB cruiseX (oB 2))) 2) = some [⟨0, 1⟩] by decide)).1
    · omega) (by decide) (by decide) (by decide) (by decide) (allB_true ⟨[(0, 0)], ⟨by decide, by decide, by decide⟩, rfl⟩))
theorem off_cruise : offL cruiseX 1 false ⟨0, 1⟩ = [0, 1, 2] := by
  have h : ∀ c : Int, offB cruiseX 1 false ⟨0, 1⟩ c = oB c := fun c => by
    show (⟨freeI cruiseX.bks, 1, 2, 1, false, c, 0, 0, 1, 0, []⟩ : Bkg) = _
    rw [free_cruise]; rfl
  show offN cruiseX 1 false ⟨0, 1⟩ 3 = _
  rw [offN_succ, offN_succ, offN_succ, h, h, h, show ((0 : Nat) : Int) = 0 from rfl, show ((1 : Nat) : Int) = 1 from rfl, show ((2 : Nat) : Int) = 2 from rfl, oB0_e, oB1_e, oB2_e]
  rfl
end Go.Proofs.YtoilcdgpeilgaaaGreat
