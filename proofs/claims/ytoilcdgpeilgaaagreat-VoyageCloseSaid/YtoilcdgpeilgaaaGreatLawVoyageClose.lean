/-
  The law VoyageClose returns true, whatever it is handed, and changes nothing that was there.
-/
import Derived.Test.YtoilcdgpeilgaaaGreatBun0
import Derived.Test.YtoilcdgpeilgaaaGreatBun29
import Derived.Test.YtoilcdgpeilgaaaGreatBun37
import Derived.Test.YtoilcdgpeilgaaaGreatBun41
import Derived.BigQuiet
set_option linter.unusedSimpArgs false
set_option linter.unusedVariables false
namespace Go.Proofs.YtoilcdgpeilgaaaGreat
open Go.ChangeShapes Go.WideShapes Go.ChangeAt Go.RowKit Go.Shelf

set_option maxRecDepth 100000 in
set_option maxHeartbeats 20000000 in
theorem VoyageClose_walk (W : World) (cs0 : Array Value) (x : Sai) (hx0 : saiC W All x cs0.toList) :
    Calls Tryz.prog 10 #[.agg cs0] W fun e w' => e = .returned (.bool true) ∧ Below W.heap.size W w' := by
  obtain ⟨p, rfl, hS, i1, i2, _, _⟩ := sai_in hx0
  have HP1 := Lib.hid (fun X hX => Close_any x p X hX)
  have HCK := Lib.hid (fun p1 X hX => saiCheck_any (closeX x) p1 X hX)
  have HCS0 := Lib.hid (fun X hX => CheckSailing_any x p X hX)
  obtain ⟨e1, he1⟩ : ∃ r, r = closeEx x := ⟨_, rfl⟩
  obtain ⟨s1, hs1⟩ : ∃ r, r = saiE (closeX x) := ⟨_, rfl⟩
  obtain ⟨r, hr⟩ : ∃ r, r = saiE x := ⟨_, rfl⟩
  obtain ⟨xc, hxc⟩ : ∃ q, q = x.closed := ⟨_, rfl⟩
  have HOK := Lib.hid (show e1 = 0 → OkSai x ∧ shipE x.ship = 0 ∧ s1 = 0 from fun q => by
    have h := close_zero (he1.symm.trans q)
    exact ⟨sai_ok h.1, (bks_zero h.1).1, hs1.trans (close_right h.1)⟩)
  have HBAD := Lib.hid (show ¬ e1 = 0 → xc = false → ¬ r = 0 from fun q h h2 => close_bad (x := x) (fun h3 => q (he1.trans h3)) (hxc.symm.trans h) (hr.symm.trans h2))
  rw [← he1] at HP1
  rw [← hs1] at HCK
  rw [← hr] at HCS0
  have HXC := Lib.hid hxc
  have HS := Lib.hid hS
  clear he1 hs1 hr hS hx0 i1 i2 hxc
  obtain ⟨A, n, cap, B, m, cap2, D, nd, cd, E, ne, ce, C, nb, cb⟩ := p
  have HNB := Lib.hid (show x.bks.length = nb from HS.out.bks.len)
  have HM := Lib.hid (show x.ship.cabs.length = m from HS.out.cabs.len)
  go_enter Tryz.func10, Tryz.ntmps10
  go_upto_region 0 with (fail)
  go_cut [1, 2] (fun p _ wx => ∃ g, p = .pointer (some ⟨g, 0, none⟩) ∧ Blk wx g (saiA x ⟨A, n, cap, B, m, cap2, D, nd, cd, E, ne, ce, C, nb, cb⟩) 32 ∧ Below W.heap.size W wx)
  case first => as_aux_lemma =>
    go_wp2_with fail
    go_meet
    exact ⟨_, rfl, blk1 _ _, bel1 _ _⟩
  obtain ⟨g, rfl, hG, hb0⟩ := hcut
  obtain ⟨W0, hW0⟩ : ∃ V, V = wc := ⟨_, rfl⟩
  subst hW0
  have HT := Lib.hid (fun X (hX : Below W0.heap.size W0 X) => hb0.trans (hX.mono hb0.size))
  have HG := Lib.hid (fun X (hX : Below W0.heap.size W0 X) => hG.bel hX)
  have HSX := Lib.hid (fun X (hX : Below W0.heap.size W0 X) => HS.out.bel (HT.out X hX))
  clear hG hb0
  go_wp2_with fail
  refine (voyageBegun_any _).mono ?_
  rintro e v1 ⟨rfl, hb⟩
  go_wp2_with fail
  refine (stockBegun_any _).mono ?_
  rintro e v2 ⟨rfl, hb2⟩
  replace hb := hb.trans (hb2.mono hb.size)
  clear hb2
  go_wp2_with fail
  refine (shipBegun_any _).mono ?_
  rintro e v3 ⟨rfl, hb2⟩
  replace hb := hb.trans (hb2.mono hb.size)
  clear hb2
  obtain ⟨V2, hV2⟩ : ∃ V, V = v3 := ⟨_, rfl⟩
  subst hV2
  go_upto_region 3 with (fail)
  go_cut [3, 4] (fun q e wx => e = .int .i64 e1 ∧ (∃ z y p', q = .pointer (some ⟨z, 0, none⟩) ∧ Blk wx z (saiA y p') 32 ∧ y = okS e1 (closeX x) ∧ SaiR wx y p') ∧ Below W0.heap.size W0 wx)
  case first =>
    have HC := Lib.hid (HP1.out _ (HSX.out _ hb))
    have HB := Lib.hid hb
    clear HP1 HCK HOK HBAD HCS0
    go_wp2_with (refine wpList_load_row rfl 32 (.tmp 1) rfl g rfl 32 _ (0, 0) _ (HG.out _ hb) Tryz.underlying32 rfl (by kernel_rfl) ?_)
    refine HC.out.mono ?_
    rintro e w8 ⟨⟨y, p', rfl, hy, hO⟩, hb8⟩
    have HO8 := Lib.hid hO.sai
    have HY8 := Lib.hid hy
    have HB8 := Lib.hid (HB.out.trans (hb8.mono HB.out.size))
    clear hy hO hb8 HC hb
    go_wp2_with (refine wpList_store_row rfl 32 (.tmp 3) (.tmp 23) rfl w8.heap.size (saiA y p') rfl rfl 32 _ (Blk.new w8 #[.int .i64 0, .int .i64 0, .slice none 0 0, .slice none 0 0, .slice none 0 0, .int .i64 0, .int .i64 0, .slice none 0 0, .int .i64 0, .int .i64 0, .int .i64 0, .slice none 0 0, .bool false] 32) (by kernel_rfl) rfl (by simp [Value.oneCell']) ?_)
    go_meet
    have hbe : Below w8.heap.size w8 ((w8.alloc (.cells #[.int .i64 0, .int .i64 0, .slice none 0 0, .slice none 0 0, .slice none 0 0, .int .i64 0, .int .i64 0, .slice none 0 0, .int .i64 0, .int .i64 0, .int .i64 0, .slice none 0 0, .bool false] 32)).setRow w8.heap.size (saiA y p')) := below_setRow (bel1 w8 _) (Nat.le_refl _) _
    exact ⟨rfl, ⟨_, y, p', rfl, (Blk.new w8 _ _).row _, HY8.out, HO8.out.bel hbe⟩, HB8.out.trans (hbe.mono HB8.out.size)⟩
  obtain ⟨rfl, ⟨z1, y1, p1, rfl, hZ1, hy1, hS1⟩, hb1⟩ := hcut
  obtain ⟨W1, hW1⟩ : ∃ V, V = wc := ⟨_, rfl⟩
  subst hW1
  replace hb := hb1
  clear hb1 HP1
  by_cases q1 : e1 = 0
  rotate_left
  · have q2 : (e1 != 0) = true := by simpa using q1
    have HBB := Lib.hid (HBAD.out q1)
    have HB := Lib.hid (HT.out _ hb)
    have g12 : W1.cell? ⟨g, 12, none⟩ = some (.bool xc) := by rw [HXC.out]; exact (HG.out _ hb).cell rfl
    clear q1 hZ1 hy1 hS1 HOK HBAD HCK
    cases xc
    rotate_left
    · skip
      go_wp2_with fail
      go_ret
      exact ⟨rfl, HB.out⟩
    have q3 : (r != 0) = true := by have := HBB.out rfl; simpa using this
    have hcL := HCS0.out _ (HSX.out _ hb)
    simp only [saiA] at hcL
    rw [← HXC.out] at hcL
    have HC := Lib.hid hcL
    clear g12 hcL
    obtain ⟨a0, a1, a2, a3, a4, a5, a6, a7, a8, a9, a10, a11, a12⟩ := saiCells (HG.out _ hb)
    rw [← HXC.out] at a12
    go_wp2_with fail
    refine HC.out.mono ?_
    rintro e w6 ⟨rfl, hb6⟩
    clear a0 a1 a2 a3 a4 a5 a6 a7 a8 a9 a10 a11 a12
    have HB6 := Lib.hid (HT.out _ (hb.trans (hb6.mono hb.size)))
    clear hb6 HC hb
    go_wp2_with fail
    go_ret
    exact ⟨rfl, HB6.out⟩
  obtain ⟨ho, hz, z1e⟩ := HOK.out q1
  have HO := Lib.hid ho
  have HZE := Lib.hid hz
  subst q1
  obtain rfl : y1 = closeX x := hy1
  subst z1e
  have hp1 : p1.nb = nb := by have h := hS1.bks.len; rw [closeX_len ho, HNB.out] at h; exact h.symm
  have hpm : p1.m = m := by have h := hS1.cabs.len; rw [closeX_ship ho, HM.out] at h; exact h.symm
  have hnb : nb ≤ 16 := by have := ho.bs.len; have := HNB.out; omega
  have hm12 : m ≤ 12 := by have := ho.bs.ship.cabs12; have := HM.out; omega
  have HZZ := Lib.hid (fun X (hX : Below W1.heap.size W1 X) => show Blk X z1 (saiA { x with closed := true } p1) 32 from by rw [← saiA_close ho]; exact hZ1.bel hX)
  have HS1 := Lib.hid (fun X (hX : Below W1.heap.size W1 X) => hS1.bel hX)
  have HB1 := Lib.hid (fun X (hX : Below W1.heap.size W1 X) => hb.trans (hX.mono hb.size))
  have HP1N := Lib.hid hp1
  have HP1M := Lib.hid hpm
  have HC := Lib.hid (HCK.out p1 _ hS1)
  have hZ0 := hZ1
  clear hZ1 hS1 hb HOK HCK hp1 hpm ho hz HBAD HCS0
  go_wp2_with (refine wpList_load_row rfl 32 (.tmp 3) rfl z1 rfl 32 _ (0, 0) _ hZ0 Tryz.underlying32 rfl (by kernel_rfl) ?_)
  refine HC.out.mono ?_
  rintro e w5 ⟨rfl, hx⟩
  have z11 : w5.cell? ⟨z1, 11, none⟩ = some (.slice p1.C nb p1.cb) := by rw [← HP1N.out]; exact (HZZ.out _ hx).cell rfl
  have z12 : w5.cell? ⟨z1, 12, none⟩ = some (.bool true) := (HZZ.out _ hx).cell rfl
  have g11 : w5.cell? ⟨g, 11, none⟩ = some (.slice C nb cb) := (HG.out _ (HB1.out _ hx)).cell rfl
  have HX5 := Lib.hid hx
  clear hZ0 hx HC
  obtain ⟨W5, hW5⟩ : ∃ V, V = w5 := ⟨_, rfl⟩
  subst hW5
  go_wp2_with fail
  go_loopg [5] nb (fun gk iv wr => ∃ k : Nat, k ≤ nb ∧ nb - k ≤ gk ∧ iv = .int .i64 k ∧ Below W1.heap.size W1 wr)
  case atStart => exact ⟨0, Nat.zero_le _, by omega, rfl, HX5.out⟩
  case round =>
    clear z11 z12 g11
    obtain ⟨k, hk, hgk, rfl, hx⟩ := hrel
    have z11 : wr.cell? ⟨z1, 11, none⟩ = some (.slice p1.C nb p1.cb) := by rw [← HP1N.out]; exact (HZZ.out _ hx).cell rfl
    by_cases hlt : k < nb
    · have hxb := HB1.out _ hx
      obtain ⟨ab, of1, b, A5, n5, c5, hA, hbx, hF, hI, hcel⟩ := (HSX.out _ hxb).bks.bkg hlt
      obtain ⟨bb, of2, q, A6, n6, c6, hA2, hqx, hF2, hI2, hcel2⟩ := (HS1.out _ hx).bks.bkg (k := k) (by rw [HP1N.out]; exact hlt)
      have hqe : HasCab x.ship b q := by
        obtain ⟨q', h1, h2⟩ := closeX_at HO.out hbx
        rw [h1] at hqx; injection hqx with h; rw [← h]; exact h2
      simp only at hA
      rw [hA2] at z11
      have g11 : wr.cell? ⟨g, 11, none⟩ = some (.slice (some ⟨ab, of1, none⟩) nb cb) := by rw [← hA]; exact (HG.out _ hxb).cell rfl
      have hk0 : (0 : Int) ≤ (k : Int) := Int.natCast_nonneg _
      have hk1 : (k : Int) < (nb : Int) := by omega
      obtain ⟨V1, hV1⟩ : ∃ V, V = wr := ⟨_, rfl⟩
      subst hV1
      have HCL := Lib.hid (show ∀ X, Below V1.heap.size V1 X → (fun w' => (w'.cell? ⟨g, 11, none⟩ = some (.slice (some ⟨ab, of1, none⟩) nb cb) ∧ w'.cell? ⟨z1, 11, none⟩ = some (.slice (some ⟨bb, of2, none⟩) nb p1.cb)) ∧ (w'.cell? ⟨ab, of1 + k * 11, none⟩ = some (.int .i64 b.id) ∧ w'.cell? ⟨ab, of1 + k * 11 + 1, none⟩ = some (.int .i64 b.kind) ∧ w'.cell? ⟨ab, of1 + k * 11 + 2, none⟩ = some (.int .i64 b.state) ∧ w'.cell? ⟨ab, of1 + k * 11 + 3, none⟩ = some (.int .i64 b.gst) ∧ w'.cell? ⟨ab, of1 + k * 11 + 4, none⟩ = some (.bool b.lev) ∧ w'.cell? ⟨ab, of1 + k * 11 + 5, none⟩ = some (.int .i64 b.cab) ∧ w'.cell? ⟨ab, of1 + k * 11 + 6, none⟩ = some (.int .i64 b.cat) ∧ w'.cell? ⟨ab, of1 + k * 11 + 7, none⟩ = some (.int .i64 b.frm) ∧ w'.cell? ⟨ab, of1 + k * 11 + 8, none⟩ = some (.int .i64 b.upto) ∧ w'.cell? ⟨ab, of1 + k * 11 + 9, none⟩ = some (.int .i64 b.til) ∧ w'.cell? ⟨ab, of1 + k * 11 + 10, none⟩ = some (.slice A5 n5 c5)) ∧ (w'.cell? ⟨bb, of2 + k * 11, none⟩ = some (.int .i64 q.id) ∧ w'.cell? ⟨bb, of2 + k * 11 + 1, none⟩ = some (.int .i64 q.kind) ∧ w'.cell? ⟨bb, of2 + k * 11 + 2, none⟩ = some (.int .i64 q.state) ∧ w'.cell? ⟨bb, of2 + k * 11 + 3, none⟩ = some (.int .i64 q.gst) ∧ w'.cell? ⟨bb, of2 + k * 11 + 4, none⟩ = some (.bool q.lev) ∧ w'.cell? ⟨bb, of2 + k * 11 + 5, none⟩ = some (.int .i64 q.cab) ∧ w'.cell? ⟨bb, of2 + k * 11 + 6, none⟩ = some (.int .i64 q.cat) ∧ w'.cell? ⟨bb, of2 + k * 11 + 7, none⟩ = some (.int .i64 q.frm) ∧ w'.cell? ⟨bb, of2 + k * 11 + 8, none⟩ = some (.int .i64 q.upto) ∧ w'.cell? ⟨bb, of2 + k * 11 + 9, none⟩ = some (.int .i64 q.til) ∧ w'.cell? ⟨bb, of2 + k * 11 + 10, none⟩ = some (.slice A6 n6 c6))) X from fun X hX => ⟨⟨cellB hX g11, cellB hX z11⟩, ⟨cellB hX (hcel 0 _ rfl), cellB hX (hcel 1 _ rfl), cellB hX (hcel 2 _ rfl), cellB hX (hcel 3 _ rfl), cellB hX (hcel 4 _ rfl), cellB hX (hcel 5 _ rfl), cellB hX (hcel 6 _ rfl), cellB hX (hcel 7 _ rfl), cellB hX (hcel 8 _ rfl), cellB hX (hcel 9 _ rfl), cellB hX (hcel 10 _ rfl)⟩, ⟨cellB hX (hcel2 0 _ rfl), cellB hX (hcel2 1 _ rfl), cellB hX (hcel2 2 _ rfl), cellB hX (hcel2 3 _ rfl), cellB hX (hcel2 4 _ rfl), cellB hX (hcel2 5 _ rfl), cellB hX (hcel2 6 _ rfl), cellB hX (hcel2 7 _ rfl), cellB hX (hcel2 8 _ rfl), cellB hX (hcel2 9 _ rfl), cellB hX (hcel2 10 _ rfl)⟩⟩)
      have HBX := Lib.hid hbx
      have HQE := Lib.hid hqe
      have HF := Lib.hid hF
      have HF2 := Lib.hid hF2
      have HX := Lib.hid hx
      have HBI := Lib.hid hI
      clear hbx hqx hqe hF hF2 hI hI2 hcel hcel2 g11 hx hxb hA hA2
      go_upto_region 11 with (fail)
      clear z11
      go_cut [6, 7] (fun p1 p2 wx => ∃ u1 u2, p1 = .pointer (some ⟨u1, 0, none⟩) ∧ p2 = .pointer (some ⟨u2, 0, none⟩) ∧ (V1.heap.size ≤ u1 ∧ V1.heap.size ≤ u2 ∧ u1 ≠ u2) ∧ Blk wx u1 (bkgA b (.slice A5 n5 c5)) 37 ∧ Blk wx u2 (bkgA q (.slice A6 n6 c6)) 37 ∧ Below V1.heap.size V1 wx)
      case first =>
        have hbx : Below V1.heap.size V1 V1.drew := (Below.refl _ V1).drew
        refine wp_region_held_drew (S := (fun w' => (w'.cell? ⟨g, 11, none⟩ = some (.slice (some ⟨ab, of1, none⟩) nb cb) ∧ w'.cell? ⟨z1, 11, none⟩ = some (.slice (some ⟨bb, of2, none⟩) nb p1.cb)) ∧ (w'.cell? ⟨ab, of1 + k * 11, none⟩ = some (.int .i64 b.id) ∧ w'.cell? ⟨ab, of1 + k * 11 + 1, none⟩ = some (.int .i64 b.kind) ∧ w'.cell? ⟨ab, of1 + k * 11 + 2, none⟩ = some (.int .i64 b.state) ∧ w'.cell? ⟨ab, of1 + k * 11 + 3, none⟩ = some (.int .i64 b.gst) ∧ w'.cell? ⟨ab, of1 + k * 11 + 4, none⟩ = some (.bool b.lev) ∧ w'.cell? ⟨ab, of1 + k * 11 + 5, none⟩ = some (.int .i64 b.cab) ∧ w'.cell? ⟨ab, of1 + k * 11 + 6, none⟩ = some (.int .i64 b.cat) ∧ w'.cell? ⟨ab, of1 + k * 11 + 7, none⟩ = some (.int .i64 b.frm) ∧ w'.cell? ⟨ab, of1 + k * 11 + 8, none⟩ = some (.int .i64 b.upto) ∧ w'.cell? ⟨ab, of1 + k * 11 + 9, none⟩ = some (.int .i64 b.til) ∧ w'.cell? ⟨ab, of1 + k * 11 + 10, none⟩ = some (.slice A5 n5 c5)) ∧ (w'.cell? ⟨bb, of2 + k * 11, none⟩ = some (.int .i64 q.id) ∧ w'.cell? ⟨bb, of2 + k * 11 + 1, none⟩ = some (.int .i64 q.kind) ∧ w'.cell? ⟨bb, of2 + k * 11 + 2, none⟩ = some (.int .i64 q.state) ∧ w'.cell? ⟨bb, of2 + k * 11 + 3, none⟩ = some (.int .i64 q.gst) ∧ w'.cell? ⟨bb, of2 + k * 11 + 4, none⟩ = some (.bool q.lev) ∧ w'.cell? ⟨bb, of2 + k * 11 + 5, none⟩ = some (.int .i64 q.cab) ∧ w'.cell? ⟨bb, of2 + k * 11 + 6, none⟩ = some (.int .i64 q.cat) ∧ w'.cell? ⟨bb, of2 + k * 11 + 7, none⟩ = some (.int .i64 q.frm) ∧ w'.cell? ⟨bb, of2 + k * 11 + 8, none⟩ = some (.int .i64 q.upto) ∧ w'.cell? ⟨bb, of2 + k * 11 + 9, none⟩ = some (.int .i64 q.til) ∧ w'.cell? ⟨bb, of2 + k * 11 + 10, none⟩ = some (.slice A6 n6 c6)))) (by kernel_rfl) (HCL.out _ hbx) (fun hHeld => ?_)
        refine wpAnyH_take (i := 0) (v := ?v5) (gA rfl) (by kernel_rfl) (by kernel_rfl) (by kernel_rfl) (fun _ _ _ h => h) (Or.inl ⟨rfl, ?y5⟩) (by assumption) ?_
        case y5 => (intro w hSw; (try dsimp only at hSw); go_simp <;> with_reducible rfl)
        simp only [Act.put, List.setIfInBounds_toArray, List.set_cons_zero, List.set_cons_succ]
        refine wpAnyH_take (i := 1) (v := ?v6) (gA rfl) (by kernel_rfl) (by kernel_rfl) (by kernel_rfl) (fun _ _ _ h => h) (Or.inl ⟨rfl, ?y6⟩) (by assumption) ?_
        case y6 => (intro w hSw; (try dsimp only at hSw); go_simp <;> with_reducible rfl)
        simp only [Act.put, List.setIfInBounds_toArray, List.set_cons_zero, List.set_cons_succ]
        refine wpAnyH_take (i := 2) (v := ?v7) (gA rfl) (by kernel_rfl) (by kernel_rfl) (by kernel_rfl) (fun _ _ _ h => h) (Or.inl ⟨rfl, ?y7⟩) (by assumption) ?_
        case y7 => (intro w hSw; (try dsimp only at hSw); go_simp <;> with_reducible rfl)
        simp only [Act.put, List.setIfInBounds_toArray, List.set_cons_zero, List.set_cons_succ]
        refine wpAnyH_take (i := 3) (v := ?v8) (gA rfl) (by kernel_rfl) (by kernel_rfl) (by kernel_rfl) (fun _ _ _ h => h) (Or.inl ⟨rfl, ?y8⟩) (by assumption) ?_
        case y8 => (intro w hSw; (try dsimp only at hSw); go_simp <;> with_reducible rfl)
        simp only [Act.put, List.setIfInBounds_toArray, List.set_cons_zero, List.set_cons_succ]
        refine wpAnyH_take (i := 4) (v := ?v9) (gA rfl) (by kernel_rfl) (by kernel_rfl) (by kernel_rfl) (fun _ _ _ h => h) (Or.inl ⟨rfl, ?y9⟩) (by assumption) ?_
        case y9 => (intro w hSw; (try dsimp only at hSw); go_simp <;> with_reducible rfl)
        simp only [Act.put, List.setIfInBounds_toArray, List.set_cons_zero, List.set_cons_succ]
        refine wpAnyH_take (i := 5) (v := ?v10) (gA rfl) (by kernel_rfl) (by kernel_rfl) (by kernel_rfl) (fun _ _ _ h => h) (Or.inl ⟨rfl, ?y10⟩) (by assumption) ?_
        case y10 => (intro w hSw; (try dsimp only at hSw); go_simp <;> with_reducible rfl)
        simp only [Act.put, List.setIfInBounds_toArray, List.set_cons_zero, List.set_cons_succ]
        refine wpAnyH_take (i := 6) (v := ?v11) (gA rfl) (by kernel_rfl) (by kernel_rfl) (by kernel_rfl) (fun _ _ _ h => h) (Or.inl ⟨rfl, ?y11⟩) (by assumption) ?_
        case y11 => (intro w hSw; (try dsimp only at hSw); go_simp <;> with_reducible rfl)
        simp only [Act.put, List.setIfInBounds_toArray, List.set_cons_zero, List.set_cons_succ]
        refine wpAnyH_take (i := 7) (v := ?v12) (gA rfl) (by kernel_rfl) (by kernel_rfl) (by kernel_rfl) (fun _ _ _ h => h) (Or.inl ⟨rfl, ?y12⟩) (by assumption) ?_
        case y12 => (intro w hSw; (try dsimp only at hSw); go_simp <;> with_reducible rfl)
        simp only [Act.put, List.setIfInBounds_toArray, List.set_cons_zero, List.set_cons_succ]
        refine wpAnyH_take (i := 8) (v := ?v13) (gA rfl) (by kernel_rfl) (by kernel_rfl) (by kernel_rfl) (fun _ _ _ h => h) (Or.inl ⟨rfl, ?y13⟩) (by assumption) ?_
        case y13 => (intro w hSw; (try dsimp only at hSw); go_simp <;> with_reducible rfl)
        simp only [Act.put, List.setIfInBounds_toArray, List.set_cons_zero, List.set_cons_succ]
        refine wpAnyH_take (i := 9) (v := ?v14) (gA rfl) (by kernel_rfl) (by kernel_rfl) (by kernel_rfl) (fun _ _ _ h => h) (Or.inl ⟨rfl, ?y14⟩) (by assumption) ?_
        case y14 => (intro w hSw; (try dsimp only at hSw); go_simp <;> with_reducible rfl)
        simp only [Act.put, List.setIfInBounds_toArray, List.set_cons_zero, List.set_cons_succ]
        have hb1a : ∀ o1, Below V1.heap.size V1 (V1.drew.alloc o1) := fun o1 => hbx.alloc hbx.size o1
        have hb2a : ∀ o1 o2, Below V1.heap.size V1 ((V1.drew.alloc o1).alloc o2) := fun o1 o2 => (hb1a o1).alloc (hb1a o1).size o2
        have hsd := hbx.size
        refine wpAnyH_ready (rs := [10, 11]) (by kernel_rfl) (by simp) ?_
        refine AllReadyH.cons (gA rfl) (fun K hK => ?_) ?m_1
        case m_1 =>
          refine AllReadyH.cons (gA rfl) (fun K hK => ?_) AllReadyH.nil
          go_simp
          refine hK.out _ _ ?_ (fun hHeld => ?_)
          · exact (by first | exact HCL.out _ (hb1a (.cells #[.int .i64 0, .int .i64 0, .int .i64 0, .int .i64 0, .bool false, .int .i64 0, .int .i64 0, .int .i64 0, .int .i64 0, .int .i64 0, .slice none 0 0] 37)) | exact HCL.out _ (hb2a (.cells #[.int .i64 0, .int .i64 0, .int .i64 0, .int .i64 0, .bool false, .int .i64 0, .int .i64 0, .int .i64 0, .int .i64 0, .int .i64 0, .slice none 0 0] 37) (.cells #[.int .i64 0, .int .i64 0, .int .i64 0, .int .i64 0, .bool false, .int .i64 0, .int .i64 0, .int .i64 0, .int .i64 0, .int .i64 0, .slice none 0 0] 37)))
          clear hK K
          try simp only [Act.put, List.setIfInBounds_toArray, List.set_cons_zero, List.set_cons_succ]
          refine wpAnyH_ready (rs := [10]) (by kernel_rfl) (by simp) ?_
          refine AllReadyH.cons (gA rfl) (fun K hK => ?_) AllReadyH.nil
          go_simp
          refine hK.out _ _ ?_ (fun hHeld => ?_)
          · exact (by first | exact HCL.out _ (hb1a (.cells #[.int .i64 0, .int .i64 0, .int .i64 0, .int .i64 0, .bool false, .int .i64 0, .int .i64 0, .int .i64 0, .int .i64 0, .int .i64 0, .slice none 0 0] 37)) | exact HCL.out _ (hb2a (.cells #[.int .i64 0, .int .i64 0, .int .i64 0, .int .i64 0, .bool false, .int .i64 0, .int .i64 0, .int .i64 0, .int .i64 0, .int .i64 0, .slice none 0 0] 37) (.cells #[.int .i64 0, .int .i64 0, .int .i64 0, .int .i64 0, .bool false, .int .i64 0, .int .i64 0, .int .i64 0, .int .i64 0, .int .i64 0, .slice none 0 0] 37)))
          clear hK K
          try simp only [Act.put, List.setIfInBounds_toArray, List.set_cons_zero, List.set_cons_succ]
          refine wpAnyH_ready (rs := [12]) (by kernel_rfl) (by simp) (AllReadyH.cons (gA rfl) (fun K hK => ?_) AllReadyH.nil)
          go_simp
          refine hK.out _ _ ?_ (fun hHeld => ?_)
          · exact (by first | exact HCL.out _ (hb2a _ _) | exact HCL.out _ (hb2a (.cells #[.int .i64 b.id, .int .i64 b.kind, .int .i64 b.state, .int .i64 b.gst, .bool b.lev, .int .i64 b.cab, .int .i64 b.cat, .int .i64 b.frm, .int .i64 b.upto, .int .i64 b.til, .slice A5 n5 c5] 37) (.cells #[.int .i64 0, .int .i64 0, .int .i64 0, .int .i64 0, .bool false, .int .i64 0, .int .i64 0, .int .i64 0, .int .i64 0, .int .i64 0, .slice none 0 0] 37)) | exact HCL.out _ (hb2a (.cells #[.int .i64 0, .int .i64 0, .int .i64 0, .int .i64 0, .bool false, .int .i64 0, .int .i64 0, .int .i64 0, .int .i64 0, .int .i64 0, .slice none 0 0] 37) (.cells #[.int .i64 b.id, .int .i64 b.kind, .int .i64 b.state, .int .i64 b.gst, .bool b.lev, .int .i64 b.cab, .int .i64 b.cat, .int .i64 b.frm, .int .i64 b.upto, .int .i64 b.til, .slice A5 n5 c5] 37)))
          clear hK K
          try simp only [Act.put, List.setIfInBounds_toArray, List.set_cons_zero, List.set_cons_succ]
          refine wpAnyH_ready (rs := [13]) (by kernel_rfl) (by simp) (AllReadyH.cons (gA rfl) (fun K hK => ?_) AllReadyH.nil)
          go_simp
          refine hK.out _ _ ?_ (fun hHeld => ?_)
          · exact (by first | exact HCL.out _ (hb2a _ _) | exact HCL.out _ (hb2a (.cells #[.int .i64 b.id, .int .i64 b.kind, .int .i64 b.state, .int .i64 b.gst, .bool b.lev, .int .i64 b.cab, .int .i64 b.cat, .int .i64 b.frm, .int .i64 b.upto, .int .i64 b.til, .slice A5 n5 c5] 37) (.cells #[.int .i64 q.id, .int .i64 q.kind, .int .i64 q.state, .int .i64 q.gst, .bool q.lev, .int .i64 q.cab, .int .i64 q.cat, .int .i64 q.frm, .int .i64 q.upto, .int .i64 q.til, .slice A6 n6 c6] 37)) | exact HCL.out _ (hb2a (.cells #[.int .i64 q.id, .int .i64 q.kind, .int .i64 q.state, .int .i64 q.gst, .bool q.lev, .int .i64 q.cab, .int .i64 q.cat, .int .i64 q.frm, .int .i64 q.upto, .int .i64 q.til, .slice A6 n6 c6] 37) (.cells #[.int .i64 b.id, .int .i64 b.kind, .int .i64 b.state, .int .i64 b.gst, .bool b.lev, .int .i64 b.cab, .int .i64 b.cat, .int .i64 b.frm, .int .i64 b.upto, .int .i64 b.til, .slice A5 n5 c5] 37)))
          clear hK K
          try simp only [Act.put, List.setIfInBounds_toArray, List.set_cons_zero, List.set_cons_succ]
          refine wpAnyH_done (by kernel_rfl) ?_ _
          go_wp2_with fail
          go_meet
          first | exact ⟨_, _, rfl, rfl, ⟨hsd, by omega, by omega⟩, blk2_0 _ _ _, blk2_1 _ _ _, hb2a _ _⟩ | exact ⟨_, _, rfl, rfl, ⟨by omega, hsd, by omega⟩, blk2_1 _ _ _, blk2_0 _ _ _, hb2a _ _⟩
        go_simp
        refine hK.out _ _ ?_ (fun hHeld => ?_)
        · exact (by first | exact HCL.out _ (hb1a (.cells #[.int .i64 0, .int .i64 0, .int .i64 0, .int .i64 0, .bool false, .int .i64 0, .int .i64 0, .int .i64 0, .int .i64 0, .int .i64 0, .slice none 0 0] 37)) | exact HCL.out _ (hb2a (.cells #[.int .i64 0, .int .i64 0, .int .i64 0, .int .i64 0, .bool false, .int .i64 0, .int .i64 0, .int .i64 0, .int .i64 0, .int .i64 0, .slice none 0 0] 37) (.cells #[.int .i64 0, .int .i64 0, .int .i64 0, .int .i64 0, .bool false, .int .i64 0, .int .i64 0, .int .i64 0, .int .i64 0, .int .i64 0, .slice none 0 0] 37)))
        clear hK K
        try simp only [Act.put, List.setIfInBounds_toArray, List.set_cons_zero, List.set_cons_succ]
        refine wpAnyH_ready (rs := [11]) (by kernel_rfl) (by simp) ?_
        refine AllReadyH.cons (gA rfl) (fun K hK => ?_) AllReadyH.nil
        go_simp
        refine hK.out _ _ ?_ (fun hHeld => ?_)
        · exact (by first | exact HCL.out _ (hb1a (.cells #[.int .i64 0, .int .i64 0, .int .i64 0, .int .i64 0, .bool false, .int .i64 0, .int .i64 0, .int .i64 0, .int .i64 0, .int .i64 0, .slice none 0 0] 37)) | exact HCL.out _ (hb2a (.cells #[.int .i64 0, .int .i64 0, .int .i64 0, .int .i64 0, .bool false, .int .i64 0, .int .i64 0, .int .i64 0, .int .i64 0, .int .i64 0, .slice none 0 0] 37) (.cells #[.int .i64 0, .int .i64 0, .int .i64 0, .int .i64 0, .bool false, .int .i64 0, .int .i64 0, .int .i64 0, .int .i64 0, .int .i64 0, .slice none 0 0] 37)))
        clear hK K
        try simp only [Act.put, List.setIfInBounds_toArray, List.set_cons_zero, List.set_cons_succ]
        refine wpAnyH_ready (rs := [12]) (by kernel_rfl) (by simp) (AllReadyH.cons (gA rfl) (fun K hK => ?_) AllReadyH.nil)
        go_simp
        refine hK.out _ _ ?_ (fun hHeld => ?_)
        · exact (by first | exact HCL.out _ (hb2a _ _) | exact HCL.out _ (hb2a (.cells #[.int .i64 b.id, .int .i64 b.kind, .int .i64 b.state, .int .i64 b.gst, .bool b.lev, .int .i64 b.cab, .int .i64 b.cat, .int .i64 b.frm, .int .i64 b.upto, .int .i64 b.til, .slice A5 n5 c5] 37) (.cells #[.int .i64 0, .int .i64 0, .int .i64 0, .int .i64 0, .bool false, .int .i64 0, .int .i64 0, .int .i64 0, .int .i64 0, .int .i64 0, .slice none 0 0] 37)) | exact HCL.out _ (hb2a (.cells #[.int .i64 0, .int .i64 0, .int .i64 0, .int .i64 0, .bool false, .int .i64 0, .int .i64 0, .int .i64 0, .int .i64 0, .int .i64 0, .slice none 0 0] 37) (.cells #[.int .i64 b.id, .int .i64 b.kind, .int .i64 b.state, .int .i64 b.gst, .bool b.lev, .int .i64 b.cab, .int .i64 b.cat, .int .i64 b.frm, .int .i64 b.upto, .int .i64 b.til, .slice A5 n5 c5] 37)))
        clear hK K
        try simp only [Act.put, List.setIfInBounds_toArray, List.set_cons_zero, List.set_cons_succ]
        refine wpAnyH_ready (rs := [13]) (by kernel_rfl) (by simp) (AllReadyH.cons (gA rfl) (fun K hK => ?_) AllReadyH.nil)
        go_simp
        refine hK.out _ _ ?_ (fun hHeld => ?_)
        · exact (by first | exact HCL.out _ (hb2a _ _) | exact HCL.out _ (hb2a (.cells #[.int .i64 b.id, .int .i64 b.kind, .int .i64 b.state, .int .i64 b.gst, .bool b.lev, .int .i64 b.cab, .int .i64 b.cat, .int .i64 b.frm, .int .i64 b.upto, .int .i64 b.til, .slice A5 n5 c5] 37) (.cells #[.int .i64 q.id, .int .i64 q.kind, .int .i64 q.state, .int .i64 q.gst, .bool q.lev, .int .i64 q.cab, .int .i64 q.cat, .int .i64 q.frm, .int .i64 q.upto, .int .i64 q.til, .slice A6 n6 c6] 37)) | exact HCL.out _ (hb2a (.cells #[.int .i64 q.id, .int .i64 q.kind, .int .i64 q.state, .int .i64 q.gst, .bool q.lev, .int .i64 q.cab, .int .i64 q.cat, .int .i64 q.frm, .int .i64 q.upto, .int .i64 q.til, .slice A6 n6 c6] 37) (.cells #[.int .i64 b.id, .int .i64 b.kind, .int .i64 b.state, .int .i64 b.gst, .bool b.lev, .int .i64 b.cab, .int .i64 b.cat, .int .i64 b.frm, .int .i64 b.upto, .int .i64 b.til, .slice A5 n5 c5] 37)))
        clear hK K
        try simp only [Act.put, List.setIfInBounds_toArray, List.set_cons_zero, List.set_cons_succ]
        refine wpAnyH_done (by kernel_rfl) ?_ _
        go_wp2_with fail
        go_meet
        first | exact ⟨_, _, rfl, rfl, ⟨hsd, by omega, by omega⟩, blk2_0 _ _ _, blk2_1 _ _ _, hb2a _ _⟩ | exact ⟨_, _, rfl, rfl, ⟨by omega, hsd, by omega⟩, blk2_1 _ _ _, blk2_0 _ _ _, hb2a _ _⟩
      obtain ⟨u1, u2, rfl, rfl, ⟨hu1, hu2, hu12⟩, hU1, hU2, hb2⟩ := hcut
      obtain ⟨V2', hV2'⟩ : ∃ V, V = wc := ⟨_, rfl⟩
      subst hV2'
      have hx2 := HX.out.trans (hb2.mono HX.out.size)
      have hs2 := hb2.size
      have hu2l := hU2.lt
      obtain ⟨kd, hkd⟩ : ∃ r, r = b.kind := ⟨_, rfl⟩
      obtain ⟨st, hst⟩ : ∃ r, r = b.state := ⟨_, rfl⟩
      obtain ⟨ca, hca⟩ : ∃ r, r = b.cab := ⟨_, rfl⟩
      have a1 : V2'.cell? ⟨u1, 1, none⟩ = some (.int .i64 kd) := by rw [hkd]; exact hU1.cell rfl
      have a2 : V2'.cell? ⟨u1, 2, none⟩ = some (.int .i64 st) := by rw [hst]; exact hU1.cell rfl
      have a5 : V2'.cell? ⟨u1, 5, none⟩ = some (.int .i64 ca) := by rw [hca]; exact hU1.cell rfl
      obtain ⟨lo, hlo⟩ : ∃ r, r = openB b := ⟨_, rfl⟩
      have HLO := Lib.hid (show lo = (decide (kd = 2) && (!decide (st = 3) && decide (ca < 0))) by rw [hlo, hst, hkd, hca]; rfl)
      have HLL := Lib.hid hlo
      have HCA := Lib.hid hca
      have HU1 := Lib.hid hU1
      have HU2 := Lib.hid hU2
      have HX2 := Lib.hid hx2
      have HB2 := Lib.hid hb2
      clear hst hkd hca hlo hU1 hU2 hx2 hb2 HCL
      go_upto_region 12 with (fail)
      go_cut [80] (fun q wx => q = .bool lo ∧ V2' = wx)
      case first => as_aux_lemma =>
        by_cases q1 : kd = 2
        · by_cases q2 : st = 3
          · obtain rfl : lo = false := by rw [HLO.out, decide_eq_true q1, decide_eq_true q2]; rfl
            subst q1 q2
            go_wp2_with fail
            go_meet
            exact ⟨rfl, rfl⟩
          · have hv : lo = decide (ca < 0) := by rw [HLO.out, decide_eq_true q1, decide_eq_false q2]; rfl
            have HV := Lib.hid hv
            have q3 : (st != 3) = true := by simpa using q2
            clear hv q2
            subst q1
            go_wp2_with fail
            go_meet
            exact ⟨by rw [HV.out], rfl⟩
        · obtain rfl : lo = false := by rw [HLO.out, decide_eq_false q1]; rfl
          have q3 : (kd == 2) = false := by simpa using q1
          clear q1
          go_wp2_with fail
          go_meet
          exact ⟨rfl, rfl⟩
      obtain ⟨rfl, rfl⟩ := hcut
      clear a1 a2 a5
      cases lo
      · obtain rfl : q = b := HQE.out.no HLL.out.symm
        have HSB := Lib.hid (SameBooking_any q A5 n5 c5 A6 n6 c6 V2' (HF.out.bel HB2.out) (HF2.out.bel HB2.out))
        go_wp2_with (first | (refine wpList_load_row rfl 37 (.tmp 6) rfl u1 rfl 37 _ (0, 0) _ HU1.out Tryz.underlying37 rfl (by kernel_rfl) ?_) | (refine wpList_load_row rfl 37 (.tmp 7) rfl u2 rfl 37 _ (0, 0) _ HU2.out Tryz.underlying37 rfl (by kernel_rfl) ?_))
        refine HSB.out.mono ?_
        rintro e w6 ⟨rfl, hb6⟩
        have HX6 := Lib.hid (HX2.out.trans (hb6.mono HX2.out.size))
        clear hb6 HSB
        go_wp2_with fail
        go_roundg (nb - (k + 1))
        case measure => omega
        case rel => exact ⟨k + 1, by omega, by omega, by go_num, HX6.out⟩
      obtain ⟨c, hcm, hel, hqm⟩ := HQE.out.yes HLL.out.symm
      have hbk := HO.out.bs.bk b (List.mem_of_getElem? HBX.out)
      have hoc := open_cat hbk HLL.out.symm
      have hck : x.ship.cabs[c]? = some (x.ship.cabs[c]'hcm) := List.getElem?_eq_getElem hcm
      have hea := elig_cab HO.out.bs.ship HZE.out hck hel hoc.1 hoc.2
      obtain ⟨ck, hckd⟩ : ∃ q, q = x.ship.cabs[c]'hcm := ⟨_, rfl⟩
      rw [← hckd] at hck hea
      have hsc := (HS1.out _ HX2.out).cabs
      rw [closeX_ship HO.out, HP1M.out] at hsc
      obtain ⟨kb, ko, ck', k0, k1, k2, k3, hKA, hck', ⟨hkd, _⟩, f0, f1, f2, f3⟩ := hsc.at4 (k := c) (by rw [← HM.out]; exact hcm)
      obtain rfl : ck' = ck := by rw [hck] at hck'; injection hck' with h; exact h.symm
      obtain ⟨rfl, rfl, rfl, rfl⟩ : k0 = strV ck'.name ∧ k1 = .int .i64 ck'.cat ∧ k2 = .int .i64 ck'.ber ∧ k3 = .bool ck'.lev := by simpa using hkd
      have hqc : V2'.cell? ⟨u2, 5, none⟩ = some (.int .i64 (c : Int)) := by
        have h : V2'.cell? ⟨u2, 5, none⟩ = some (.int .i64 q.cab) := HU2.out.cell rfl
        rw [hqm] at h; exact h
      have HSY := Lib.hid (show ∀ X, Below V2'.heap.size V2' X → (fun ck => (fun w' => (w'.cell? ⟨z1, 0, none⟩ = some (.int .i64 x.ship.legs) ∧ w'.cell? ⟨z1, 1, none⟩ = some (.int .i64 x.ship.souls) ∧ w'.cell? ⟨z1, 2, none⟩ = some (.slice p1.A p1.n p1.cap) ∧ w'.cell? ⟨z1, 3, none⟩ = some (.slice (some ⟨kb, ko, none⟩) m p1.cap2)) ∧ (w'.cell? ⟨kb, ko + c * 4 + 1, none⟩ = some (.int .i64 ck.cat) ∧ w'.cell? ⟨kb, ko + c * 4 + 2, none⟩ = some (.int .i64 ck.ber) ∧ w'.cell? ⟨kb, ko + c * 4 + 3, none⟩ = some (.bool ck.lev)) ∧ w'.cell? ⟨u1, 3, none⟩ = some (.int .i64 b.gst) ∧ w'.cell? ⟨u1, 4, none⟩ = some (.bool b.lev) ∧ w'.cell? ⟨u1, 6, none⟩ = some (.int .i64 b.cat) ∧ w'.cell? ⟨u2, 5, none⟩ = some (.int .i64 (c : Int))) X) ck' from fun X hX => by
        have hz := (HZZ.out _ HX2.out).bel hX
        exact ⟨⟨hz.cell rfl, hz.cell rfl, hz.cell rfl, by rw [← hKA, ← HP1M.out]; exact hz.cell rfl⟩, ⟨cellB hX f1, cellB hX f2, cellB hX f3⟩, (HU1.out.bel hX).cell rfl, (HU1.out.bel hX).cell rfl, (HU1.out.bel hX).cell rfl, cellB hX hqc⟩)
      have hc0 : decide ((c : Int) < 0) = false := decide_eq_false (by omega)
      have hcm' : c < m := by rw [← HM.out]; exact hcm
      have hc1 : decide ((m : Int) ≤ (c : Int)) = false := decide_eq_false (by omega)
      have hc1n : decide (m ≤ c) = false := decide_eq_false (by omega)
      have hc2 : (0 : Int) ≤ (c : Int) := Int.natCast_nonneg _
      have hc3 : (c : Int) < (m : Int) := by omega
      have hgb : decide (ck'.ber < b.gst) = false := decide_eq_false (by have := hea.1; omega)
      have HLV := Lib.hid hea.2.1
      have HSV := Lib.hid (Serves_any x.ship p1.A p1.n p1.cap (some ⟨kb, ko, none⟩) m p1.cap2 ck'.cat b.cat)
      have hcs := (HS1.out _ HX2.out).cats
      rw [closeX_ship HO.out] at hcs
      have HCS := Lib.hid (fun X (hX : Below V2'.heap.size V2' X) => hcs.bel hX)
      have HKS := Lib.hid (fun X (hX : Below V2'.heap.size V2' X) => (by have h := hsc.bel hX; rw [hKA] at h; exact h : Sl cabC 4 X All (some ⟨kb, ko, none⟩) m p1.cap2 x.ship.cabs))
      have HSE := Lib.hid hea.2.2.1
      have HSB2 := Lib.hid hea.2.2.2
      have HQM := Lib.hid hqm
      obtain ⟨lv, hlv⟩ : ∃ r, r = b.lev := ⟨_, rfl⟩
      obtain ⟨kl, hkl⟩ : ∃ r, r = ck'.lev := ⟨_, rfl⟩
      have HLV2 := Lib.hid (show (kl || !lv) = true by rw [hkl, hlv]; exact HLV.out)
      have HLE := Lib.hid hlv
      have HKE := Lib.hid hkl
      clear hel hqm hbk hoc hck hea hckd hsc hck' hkd f0 f1 f2 f3 hqc hcs hKA hlv hkl HLV
      go_upto_region 13 with (fail)
      go_cut [120] (fun q wx => q = .bool false ∧ Below V2'.heap.size V2' wx)
      case first =>
        obtain ⟨⟨s0, s1, s2, s3⟩, ⟨e1, e2, e3⟩, e4, e5, e6, e7⟩ := HSY.out V2' (Below.refl _ _)
        rw [← HKE.out] at e3
        rw [← HLE.out] at e5
        clear HCS HKS HSV HSE HSB2 HSY HQM HF HF2 HBX HQE
        cases lv
        · go_quiet (fail)
          go_wp2_with fail
          go_meet
          exact ⟨rfl, below_drewN (Below.refl _ _) _⟩
        · obtain rfl : kl = true := by have := HLV2.out; simpa using this
          go_quiet (fail)
          go_wp2_with fail
          go_meet
          exact ⟨rfl, below_drewN (Below.refl _ _) _⟩
      obtain ⟨rfl, hb3⟩ := hcut
      obtain ⟨V3, hV3⟩ : ∃ V, V = wc := ⟨_, rfl⟩
      subst hV3
      have HB3 := Lib.hid hb3
      clear hb3 hc0 hc1 hc1n hgb HLV2 HLE HKE
      go_upto_region 15 with (fail)
      go_cut [8, 9] (fun q e wx => q = .bool true ∧ e = .int .i64 0 ∧ Below V2'.heap.size V2' wx)
      case first =>
        have hbx := HB3.out.drew
        have HSW := Lib.hid (fun X (hX : Below V2'.heap.size V2' X) => HSV.out X (HCS.out X hX) (HKS.out X hX))
        rw [HSE.out, HSB2.out] at HSW
        refine wp_region_held_drew (S := (fun ck => (fun w' => (w'.cell? ⟨z1, 0, none⟩ = some (.int .i64 x.ship.legs) ∧ w'.cell? ⟨z1, 1, none⟩ = some (.int .i64 x.ship.souls) ∧ w'.cell? ⟨z1, 2, none⟩ = some (.slice p1.A p1.n p1.cap) ∧ w'.cell? ⟨z1, 3, none⟩ = some (.slice (some ⟨kb, ko, none⟩) m p1.cap2)) ∧ (w'.cell? ⟨kb, ko + c * 4 + 1, none⟩ = some (.int .i64 ck.cat) ∧ w'.cell? ⟨kb, ko + c * 4 + 2, none⟩ = some (.int .i64 ck.ber) ∧ w'.cell? ⟨kb, ko + c * 4 + 3, none⟩ = some (.bool ck.lev)) ∧ w'.cell? ⟨u1, 3, none⟩ = some (.int .i64 b.gst) ∧ w'.cell? ⟨u1, 4, none⟩ = some (.bool b.lev) ∧ w'.cell? ⟨u1, 6, none⟩ = some (.int .i64 b.cat) ∧ w'.cell? ⟨u2, 5, none⟩ = some (.int .i64 (c : Int)))) ck') (by kernel_rfl) (HSY.out _ hbx) (fun hHeld => ?_)
        refine wpAnyH_take (i := 0) (v := ?v19) (gA rfl) (by kernel_rfl) (by kernel_rfl) (by kernel_rfl) (fun _ _ _ h => h) (Or.inl ⟨rfl, ?y19⟩) (by assumption) ?_
        case y19 => (intro w hSw; (try dsimp only at hSw); go_simp <;> with_reducible rfl)
        simp only [Act.put, List.setIfInBounds_toArray, List.set_cons_zero, List.set_cons_succ]
        refine wpAnyH_take (i := 1) (v := ?v20) (gA rfl) (by kernel_rfl) (by kernel_rfl) (by kernel_rfl) (fun _ _ _ h => h) (Or.inl ⟨rfl, ?y20⟩) (by assumption) ?_
        case y20 => (intro w hSw; (try dsimp only at hSw); go_simp <;> with_reducible rfl)
        simp only [Act.put, List.setIfInBounds_toArray, List.set_cons_zero, List.set_cons_succ]
        refine wpAnyH_take (i := 2) (v := ?v21) (gA rfl) (by kernel_rfl) (by kernel_rfl) (by kernel_rfl) (fun _ _ _ h => h) (Or.inl ⟨rfl, ?y21⟩) (by assumption) ?_
        case y21 => (intro w hSw; (try dsimp only at hSw); go_simp <;> with_reducible rfl)
        simp only [Act.put, List.setIfInBounds_toArray, List.set_cons_zero, List.set_cons_succ]
        refine wpAnyH_take (i := 3) (v := ?v22) (gA rfl) (by kernel_rfl) (by kernel_rfl) (by kernel_rfl) (fun _ _ _ h => h) (Or.inl ⟨rfl, ?y22⟩) (by assumption) ?_
        case y22 => (intro w hSw; (try dsimp only at hSw); go_simp <;> with_reducible rfl)
        simp only [Act.put, List.setIfInBounds_toArray, List.set_cons_zero, List.set_cons_succ]
        refine wpAnyH_take (i := 4) (v := ?v23) (gA rfl) (by kernel_rfl) (by kernel_rfl) (by kernel_rfl) (fun _ _ _ h => h) (Or.inl ⟨rfl, ?y23⟩) (by assumption) ?_
        case y23 => (intro w hSw; (try dsimp only at hSw); go_simp <;> with_reducible rfl)
        simp only [Act.put, List.setIfInBounds_toArray, List.set_cons_zero, List.set_cons_succ]
        refine wpAnyH_take (i := 5) (v := ?v24) (gA rfl) (by kernel_rfl) (by kernel_rfl) (by kernel_rfl) (fun _ _ _ h => h) (Or.inl ⟨rfl, ?y24⟩) (by assumption) ?_
        case y24 => (intro w hSw; (try dsimp only at hSw); go_simp <;> with_reducible rfl)
        simp only [Act.put, List.setIfInBounds_toArray, List.set_cons_zero, List.set_cons_succ]
        refine wpAnyH_take (i := 6) (v := ?v25) (gA rfl) (by kernel_rfl) (by kernel_rfl) (by kernel_rfl) (fun _ _ _ h => h) (Or.inl ⟨rfl, ?y25⟩) (by assumption) ?_
        case y25 => (intro w hSw; (try dsimp only at hSw); go_simp <;> with_reducible rfl)
        simp only [Act.put, List.setIfInBounds_toArray, List.set_cons_zero, List.set_cons_succ]
        refine wpAnyH_take (i := 7) (v := ?v26) (gA rfl) (by kernel_rfl) (by kernel_rfl) (by kernel_rfl) (fun _ _ _ h => h) (Or.inl ⟨rfl, ?y26⟩) (by assumption) ?_
        case y26 => (intro w hSw; (try dsimp only at hSw); go_simp <;> with_reducible rfl)
        simp only [Act.put, List.setIfInBounds_toArray, List.set_cons_zero, List.set_cons_succ]
        refine wpAnyH_take (i := 8) (v := ?v27) (gA rfl) (by kernel_rfl) (by kernel_rfl) (by kernel_rfl) (fun _ _ _ h => h) (Or.inl ⟨rfl, ?y27⟩) (by assumption) ?_
        case y27 => (intro w hSw; (try dsimp only at hSw); go_simp <;> with_reducible rfl)
        simp only [Act.put, List.setIfInBounds_toArray, List.set_cons_zero, List.set_cons_succ]
        refine wpAnyH_take (i := 9) (v := ?v28) (gA rfl) (by kernel_rfl) (by kernel_rfl) (by kernel_rfl) (fun _ _ _ h => h) (Or.inl ⟨rfl, ?y28⟩) (by assumption) ?_
        case y28 => (intro w hSw; (try dsimp only at hSw); go_simp <;> with_reducible rfl)
        simp only [Act.put, List.setIfInBounds_toArray, List.set_cons_zero, List.set_cons_succ]
        refine wpAnyH_take (i := 10) (v := ?v29) (gA rfl) (by kernel_rfl) (by kernel_rfl) (by kernel_rfl) (fun _ _ _ h => h) (Or.inl ⟨rfl, ?y29⟩) (by assumption) ?_
        case y29 => (intro w hSw; (try dsimp only at hSw); go_simp <;> with_reducible rfl)
        simp only [Act.put, List.setIfInBounds_toArray, List.set_cons_zero, List.set_cons_succ]
        refine wpAnyH_take (i := 11) (v := ?v30) (gA rfl) (by kernel_rfl) (by kernel_rfl) (by kernel_rfl) (fun _ _ _ h => h) (Or.inl ⟨rfl, ?y30⟩) (by assumption) ?_
        case y30 => (intro w hSw; (try dsimp only at hSw); go_simp <;> with_reducible rfl)
        simp only [Act.put, List.setIfInBounds_toArray, List.set_cons_zero, List.set_cons_succ]
        refine wpAnyH_ready (rs := [12]) (by kernel_rfl) (by simp) (AllReadyH.cons (gA rfl) (fun K hK => ?_) AllReadyH.nil)
        go_simp
        (go_at_call 52; refine (HSW.out _ hbx).mono ?_; rintro e w6 ⟨rfl, hb6⟩; replace hbx := hbx.trans (hb6.mono hbx.size); clear hb6)
        go_wp2_with fail
        refine hK.out _ _ ?_ (fun hHeld => ?_)
        · exact HSY.out _ hbx
        clear hK K
        try simp only [Act.put, List.setIfInBounds_toArray, List.set_cons_zero, List.set_cons_succ]
        refine wpAnyH_take (i := 13) (v := ?v32) (gA rfl) (by kernel_rfl) (by kernel_rfl) (by kernel_rfl) (fun _ _ _ h => h) (Or.inl ⟨rfl, ?y32⟩) (by assumption) ?_
        case y32 => (intro w hSw; (try dsimp only at hSw); go_simp <;> with_reducible rfl)
        simp only [Act.put, List.setIfInBounds_toArray, List.set_cons_zero, List.set_cons_succ]
        refine wpAnyH_take (i := 14) (v := ?v33) (gA rfl) (by kernel_rfl) (by kernel_rfl) (by kernel_rfl) (fun _ _ _ h => h) (Or.inl ⟨rfl, ?y33⟩) (by assumption) ?_
        case y33 => (intro w hSw; (try dsimp only at hSw); go_simp <;> with_reducible rfl)
        simp only [Act.put, List.setIfInBounds_toArray, List.set_cons_zero, List.set_cons_succ]
        refine wpAnyH_take (i := 15) (v := ?v34) (gA rfl) (by kernel_rfl) (by kernel_rfl) (by kernel_rfl) (fun _ _ _ h => h) (Or.inl ⟨rfl, ?y34⟩) (by assumption) ?_
        case y34 => (intro w hSw; (try dsimp only at hSw); go_simp <;> with_reducible rfl)
        simp only [Act.put, List.setIfInBounds_toArray, List.set_cons_zero, List.set_cons_succ]
        refine wpAnyH_take (i := 16) (v := ?v35) (gA rfl) (by kernel_rfl) (by kernel_rfl) (by kernel_rfl) (fun _ _ _ h => h) (Or.inl ⟨rfl, ?y35⟩) (by assumption) ?_
        case y35 => (intro w hSw; (try dsimp only at hSw); go_simp <;> with_reducible rfl)
        simp only [Act.put, List.setIfInBounds_toArray, List.set_cons_zero, List.set_cons_succ]
        refine wpAnyH_take (i := 17) (v := ?v36) (gA rfl) (by kernel_rfl) (by kernel_rfl) (by kernel_rfl) (fun _ _ _ h => h) (Or.inl ⟨rfl, ?y36⟩) (by assumption) ?_
        case y36 => (intro w hSw; (try dsimp only at hSw); go_simp <;> with_reducible rfl)
        simp only [Act.put, List.setIfInBounds_toArray, List.set_cons_zero, List.set_cons_succ]
        refine wpAnyH_done (by kernel_rfl) ?_ _
        go_wp2_with fail
        go_meet
        exact ⟨rfl, rfl, hbx⟩
      obtain ⟨rfl, rfl, hb4⟩ := hcut
      obtain ⟨V4, hV4⟩ : ∃ V, V = wc := ⟨_, rfl⟩
      subst hV4
      have hs4 := hb4.size
      have hU1 := HU1.out.bel hb4
      have hU2 := HU2.out.bel hb4
      have a5 : V4.cell? ⟨u1, 5, none⟩ = some (.int .i64 b.cab) := hU1.cell rfl
      have b5 : V4.cell? ⟨u2, 5, none⟩ = some (.int .i64 q.cab) := hU2.cell rfl
      have f5 := hU2.free 5
      have HV1 := Lib.hid hU1
      have HV2 := Lib.hid hU2
      have HX4 := Lib.hid (HX2.out.trans (hb4.mono HX2.out.size))
      have HB4 := Lib.hid (HB2.out.trans (hb4.mono HB2.out.size))
      clear hb4 hU1 hU2 HCS HKS HSV HSE HSB2 HSY HB3 HU1 HU2
      go_upto_region 18 with (fail)
      go_cut [] (fun wx => Blk wx u2 (bkgA b (.slice A6 n6 c6)) 37 ∧ Kept (fun j => j = u2) V4 wx)
      case first => as_aux_lemma =>
        go_wp2_with fail
        go_meet
        have h := HV2.out.set (j := 5) (.int .i64 b.cab)
        rw [HQM.out] at h
        exact ⟨h, kset V4 u2 [(5, .int .i64 b.cab)]⟩
      obtain ⟨hU5, hK5⟩ := hcut
      obtain ⟨V5, hV5⟩ : ∃ V, V = wc := ⟨_, rfl⟩
      subst hV5
      have hb15 : Below V1.heap.size V1 V5 := HB4.out.trans (hK5.below (B := V1.heap.size) HB4.out.size (fun j hj e => by omega))
      have hU6 := HV1.out.kept hK5 hu12
      have hfq : q.fol = b.fol := by rw [HQM.out]; rfl
      have hF2 := HF2.out
      rw [hfq] at hF2
      have HSB := Lib.hid (SameBooking_any b A5 n5 c5 A6 n6 c6 V5 (HF.out.bel hb15) (hF2.bel hb15))
      have HU5 := Lib.hid hU5
      have HU6 := Lib.hid hU6
      have HX5' := Lib.hid (HX.out.trans (hb15.mono HX.out.size))
      clear hU5 hK5 hb15 hU6 hfq hF2 a5 b5 f5
      go_wp2_with (first | (refine wpList_load_row rfl 37 (.tmp 6) rfl u1 rfl 37 _ (0, 0) _ HU6.out Tryz.underlying37 rfl (by kernel_rfl) ?_) | (refine wpList_load_row rfl 37 (.tmp 7) rfl u2 rfl 37 _ (0, 0) _ HU5.out Tryz.underlying37 rfl (by kernel_rfl) ?_))
      refine HSB.out.mono ?_
      rintro e w6 ⟨rfl, hb6⟩
      have HX6 := Lib.hid (HX5'.out.trans (hb6.mono HX5'.out.size))
      clear hb6 HSB
      go_wp2_with fail
      go_roundg (nb - (k + 1))
      case measure => omega
      case rel => exact ⟨k + 1, by omega, by omega, by go_num, HX6.out⟩
    · obtain rfl : k = nb := by omega
      have HB := Lib.hid (HT.out _ (HB1.out _ hx))
      clear hx
      go_wp2_with fail
      go_ret
      exact ⟨rfl, HB.out⟩
set_option maxRecDepth 100000 in
theorem VoyageClose_lifted (os : Os) (started : os.Started) (H : Type) (enc : TypeId × Value → H) :
    ReturnsInHanded {} Tryz.checked os 10 .any (Rows.voyageCloseSpec.pre6 enc Tryz.prog Tryz.f10 Rows.voyageCloseRow.domain false) (Rows.voyageCloseSpec.post enc Tryz.prog Tryz.f10 false true false false) := by
  refine returnsInHanded_of_change (C := Tryz.checked) own started (by kernel_rfl) Tryz.func10
    (ChangeSpec.witness6 (enc := enc) (C := Tryz.checked) false ⟨#[], #[.agg #[.int .i64 0, .int .i64 0, .slice none 0 0, .slice none 0 0, .slice none 0 0, .int .i64 0, .int .i64 0, .slice none 0 0, .int .i64 0, .int .i64 0, .int .i64 0, .slice none 0 0, .bool false]], []⟩ 8 (by kernel_rfl) (by kernel_rfl) (by kernel_rfl) (by kernel_rfl)) ?_
  intro W base args ds gs before hval0 hW hcnd _
  have hval : ∀ (j : Nat) t v, Tryz.f10.params[j]? = some t → args[j]? = some v → Value.okWide Tryz.prog W .any base t v := hval0
  have hW' := hW
  obtain ⟨p, q, hA0, hV, rfl, hfz, hnd⟩ := hW
  have hA : DataW.TrodAll enc Tryz.prog W 0 (fun _ => true) true Tryz.f10.params.toList args.toList ds p := hA0
  rw [Tryz.params10] at hA hval
  obtain ⟨v0, vs0, d0, ds0, p0, q0, hargs, rfl, rfl, h0, r0⟩ := trodAll_cons hA
  obtain ⟨rfl, rfl, rfl⟩ := trodAll_nil r0
  obtain rfl : args = #[v0] := by cases args; simp_all
  obtain ⟨rfl, rfl⟩ := trodVars_none hV
  have lt0 := arg_lt h0
  have k0 := h0
  obtain ⟨cs0, a0, rfl, w0⟩ := arg_agg (c := saiC) Tryz.underlying32 opens_saiC (hval 0 32 v0 rfl rfl) h0
  clear hA0 hval0
  refine (VoyageClose_walk W cs0 a0 w0).mono fun e W' ⟨he, bel⟩ => ?_
  subst he
  exact ⟨_, rfl, _, _, _, [], _, [], hW', trodAll_mk1 (shut_bool Tryz.underlying4 _), (trodAll_cons_mk (Below.trod laidOut (by kernel_rfl) (of_decide_eq_true (by kernel_rfl)) k0 bel lt0) trodAll_mk0), rfl, bel.frame _, fun h => by cases h⟩

theorem VoyageClose_fit1 : (Rows.voyageCloseRow.wf (OpenSpec.ofChange Rows.voyageCloseSpec) && Tryz.f10.params.all (Tryz.prog.readableRec ·) && namedTie Tryz.prog Rows.voyageCloseRow.named Rows.voyageCloseSpec.vars && (Rows.voyageCloseRow.stops == []) && (Tryz.prog.stops == []) && (Rows.voyageCloseRow.knobs == []) && (Tryz.prog.stopKnobs == [])) = true := by kernel_rfl
theorem VoyageClose_fit2 : ((Rows.voyageCloseRow.inPlace == Tryz.prog.inPlace 10) && (Rows.voyageCloseRow.unfollowed == Tryz.prog.unfollowed 10) && (Rows.voyageCloseRow.recurses == Tryz.prog.recurses 10) && (Rows.voyageCloseRow.named == Tryz.prog.varsNamed 10)) = true := by kernel_rfl
theorem VoyageClose_fit3 : ((Rows.voyageCloseRow.maps == (Tryz.f10.params.toList ++ Rows.voyageCloseSpec.plain.varTypes Tryz.prog).any (Tryz.prog.mapsRec ·)) && (Rows.voyageCloseRow.ifaces == (Tryz.f10.params.toList ++ Rows.voyageCloseSpec.plain.varTypes Tryz.prog).any (Tryz.prog.ifacesRec ·)) && (Rows.voyageCloseRow.mapsOut == Tryz.prog.mapsAmong Tryz.f10.resultTypes.toList) && (Rows.voyageCloseRow.loops == (Tryz.f10.params.toList ++ Rows.voyageCloseSpec.plain.varTypes Tryz.prog).any (Tryz.prog.loopsFrom ·)) && (Rows.voyageCloseRow.wideKeys == (Tryz.f10.params.toList ++ Rows.voyageCloseSpec.plain.varTypes Tryz.prog ++ Tryz.f10.resultTypes.toList).any (Tryz.prog.wideKeysFrom ·)) &&
    Rows.voyageCloseSpec.vars.all (Tryz.prog.varReadable ·) && Tryz.f10.resultTypes.all (fun t => Tryz.prog.readableRec t && decide (t < Tryz.prog.types.size)) && (Rows.voyageCloseRow.ifacesOut == Tryz.f10.resultTypes.toList.any (Tryz.prog.ifacesRec ·)) && (Rows.voyageCloseRow.loopsOut == Tryz.f10.resultTypes.toList.any (Tryz.prog.loopsFrom ·)) && (Rows.voyageCloseRow.plainKeys == Tryz.prog.plainKeys) && Rows.voyageCloseRow.shortTexts.isNone) = true := by kernel_rfl
theorem VoyageClose_fit4 : ((Rows.voyageCloseRow.lifted == Tryz.prog.liftsFinal) && (Tryz.prog.make == some Rows.voyageCloseRow.make)) = true := by kernel_rfl
theorem VoyageClose_fit5 : ((Rows.voyageCloseRow.kinds == (if Rows.voyageCloseRow.domain.isEmpty then [] else Tryz.f10.params.toList.map fun t => match Tryz.prog.underlying t with | some (.int k) => some k | _ => none)) && (Rows.voyageCloseRow.pinned == Rows.voyageCloseRow.pinnedBy) && (Rows.voyageCloseRow.veiled == (Tryz.f10.params.toList ++ Rows.voyageCloseSpec.plain.varTypes Tryz.prog ++ Tryz.f10.resultTypes.toList).any (Tryz.prog.veiledRec ·)) && Rows.voyageCloseRow.veiledFits Tryz.prog Tryz.f10.params.toList (Tryz.f10.params.toList ++ Rows.voyageCloseSpec.plain.varTypes Tryz.prog ++ Tryz.f10.resultTypes.toList)) = true := by kernel_rfl

set_option maxRecDepth 100000 in
/-- THE GIVEN STATEMENT VoyageClose. -/
theorem voyageClose_holds : Rows.VoyageCloseSaid :=
  OpenClaim.holds_of_wide 10 Tryz.f10 rfl rfl rfl rfl rfl rfl rfl ⟨rfl, rfl, rfl, rfl, rfl⟩ rfl rfl rfl rfl rfl (by kernel_rfl) Tryz.func10
    (joined_of VoyageClose_fit1 fit_laid fit_rows VoyageClose_fit2 VoyageClose_fit3 fit_heard fit_enter VoyageClose_fit4 VoyageClose_fit5)
    (of_decide_eq_true (by kernel_rfl)) (by unfold Func.isWrapper; rw [if_neg (of_decide_eq_false (by kernel_rfl))]; exact ⟨rfl, rfl⟩)
    (fun os started H enc _ => VoyageClose_lifted os started H enc)
#print axioms voyageClose_holds
end Go.Proofs.YtoilcdgpeilgaaaGreat
