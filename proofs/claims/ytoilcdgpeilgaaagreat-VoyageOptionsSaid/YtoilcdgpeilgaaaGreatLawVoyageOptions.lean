/-
  The law VoyageOptions returns true, whatever it is handed, and changes nothing that was there.
-/
import Derived.Test.YtoilcdgpeilgaaaGreatBun0
import Derived.Test.YtoilcdgpeilgaaaGreatBun37
import Derived.Test.YtoilcdgpeilgaaaGreatBun41
import Derived.BigQuiet
set_option linter.unusedSimpArgs false
set_option linter.unusedVariables false
namespace Go.Proofs.YtoilcdgpeilgaaaGreat
open Go.ChangeShapes Go.WideShapes Go.ChangeAt Go.RowKit Go.Shelf

set_option maxRecDepth 100000 in
set_option maxHeartbeats 20000000 in
theorem VoyageOptions_walk (W : World) (cs0 : Array Value) (x : Sai) (hx0 : saiC W All x cs0.toList) (day : Int) (_ : InI day) (more : Int) (_ : InI more) :
    Calls Tryz.prog 9 #[.agg cs0, .int .i64 day, .int .i64 more] W fun e w' => e = .returned (.bool true) ∧ Below W.heap.size W w' := by
  obtain ⟨p, rfl, hS, i1, i2, _, _⟩ := sai_in hx0
  have HP1 := Lib.hid (fun X hX => Turn_any x p day X hX)
  have HP2 := Lib.hid (fun p1 X hX => Turn_any (turnX x day) p1 more X hX)
  have HP3 := Lib.hid (fun X hX => Turn_any x p more X hX)
  have HCK := Lib.hid (fun p1 X hX => saiCheck_any (turnX x day) p1 X hX)
  obtain ⟨e1, he1⟩ : ∃ r, r = turnEx x day := ⟨_, rfl⟩
  obtain ⟨e2, he2⟩ : ∃ r, r = turnEx (turnX x day) more := ⟨_, rfl⟩
  obtain ⟨e3, he3⟩ : ∃ r, r = turnEx x more := ⟨_, rfl⟩
  obtain ⟨s1, hs1⟩ : ∃ r, r = saiE (turnX x day) := ⟨_, rfl⟩
  obtain ⟨LI, hLI⟩ : ∃ r, r = turnI x day := ⟨_, rfl⟩
  have HZ1 := Lib.hid (show e1 = 0 → s1 = 0 ∧ (e2 = 0 → e3 = 0 ∧ day < more) from fun q => by
    have q1 := he1.symm.trans q
    have q2 := turn_zero q1
    refine ⟨hs1.trans (turn_right q2.1 q2.2.1), fun q3 => ?_⟩
    have := turn_again q1 (he2.symm.trans q3)
    exact ⟨he3.trans this.2, this.1⟩)
  rw [← he1] at HP1
  rw [← he2] at HP2
  rw [← he3] at HP3
  rw [← hs1] at HCK
  have HL16 := Lib.hid (show e1 = 0 → x.bks.length ≤ 16 from fun q => (sai_ok (turn_zero (he1.symm.trans q)).1).bs.len)
  have HLI := Lib.hid hLI
  have HS := Lib.hid hS
  clear he1 he2 he3 hs1 hLI hS hx0 i1 i2
  obtain ⟨A, n, cap, B, m, cap2, D, nd, cd, E, ne, ce, C, nb, cb⟩ := p
  have HNB := Lib.hid (show x.bks.length = nb from HS.out.bks.len)
  go_enter Tryz.func9, Tryz.ntmps9
  go_upto_region 0 with (fail)
  go_cut [3, 6] (fun p _ wx => ∃ g, p = .pointer (some ⟨g, 0, none⟩) ∧ Blk wx g (saiA x ⟨A, n, cap, B, m, cap2, D, nd, cd, E, ne, ce, C, nb, cb⟩) 32 ∧ Below W.heap.size W wx)
  case first => as_aux_lemma =>
    go_wp2_with fail
    go_meet
    exact ⟨_, rfl, blk1 _ _, bel1 _ _⟩
  obtain ⟨g, rfl, hG, hb0⟩ := hcut
  obtain ⟨W0, hW0⟩ : ∃ V, V = wc := ⟨_, rfl⟩
  subst hW0
  have HT := Lib.hid (fun X (hX : Below W0.heap.size W0 X) => hb0.trans (hX.mono hb0.size))
  have HG := Lib.hid (fun X (hX : Below W0.heap.size W0 X) => hG.bel hX)
  have HSX := Lib.hid (fun X (hX : Below W0.heap.size W0 X) => HS.out.bel (HT.out X hX))
  clear hG hb0
  go_wp2_with fail
  refine (voyageBegun_any _).mono ?_
  rintro e v1 ⟨rfl, hb⟩
  go_wp2_with fail
  refine (stockBegun_any _).mono ?_
  rintro e v2 ⟨rfl, hb2⟩
  replace hb := hb.trans (hb2.mono hb.size)
  clear hb2
  obtain ⟨V2, hV2⟩ : ∃ V, V = v2 := ⟨_, rfl⟩
  subst hV2
  go_upto_region 3 with (fail)
  go_cut [7, 8, 9] (fun q v e wx => e = .int .i64 e1 ∧ (∃ z y p', q = .pointer (some ⟨z, 0, none⟩) ∧ Blk wx z (saiA y p') 32 ∧ y = okS e1 (turnX x day) ∧ SaiR wx y p') ∧ (∃ A n c, v = .slice A n c ∧ Sl intC 1 wx All A n c (okL e1 (turnI x day))) ∧ Below W0.heap.size W0 wx)
  case first =>
    have HC := Lib.hid (HP1.out _ (HSX.out _ hb))
    have HB := Lib.hid hb
    clear HP1 HP2 HP3 HCK HZ1
    go_wp2_with (refine wpList_load_row rfl 32 (.tmp 3) rfl g rfl 32 _ (0, 0) _ (HG.out _ hb) Tryz.underlying32 rfl (by kernel_rfl) ?_)
    refine HC.out.mono ?_
    rintro e w8 ⟨⟨y, p', v, xs, rfl, hy, hO, hI⟩, hb8⟩
    obtain ⟨A5, n5, c5, rfl, hs⟩ := hI.sl intC_good
    have HS8 := Lib.hid (hs.all intC_good (by omega))
    have HO8 := Lib.hid hO.sai
    have HY8 := Lib.hid hy
    have HB8 := Lib.hid (HB.out.trans (hb8.mono HB.out.size))
    clear hy hO hI hs hb8 HC hb
    go_wp2_with (refine wpList_store_row rfl 32 (.tmp 7) (.tmp 29) rfl w8.heap.size (saiA y p') rfl rfl 32 _ (Blk.new w8 #[.int .i64 0, .int .i64 0, .slice none 0 0, .slice none 0 0, .slice none 0 0, .int .i64 0, .int .i64 0, .slice none 0 0, .int .i64 0, .int .i64 0, .int .i64 0, .slice none 0 0, .bool false] 32) (by kernel_rfl) rfl (by simp [Value.oneCell']) ?_)
    go_meet
    have hbe : Below w8.heap.size w8 ((w8.alloc (.cells #[.int .i64 0, .int .i64 0, .slice none 0 0, .slice none 0 0, .slice none 0 0, .int .i64 0, .int .i64 0, .slice none 0 0, .int .i64 0, .int .i64 0, .int .i64 0, .slice none 0 0, .bool false] 32)).setRow w8.heap.size (saiA y p')) := below_setRow (bel1 w8 _) (Nat.le_refl _) _
    exact ⟨rfl, ⟨_, y, p', rfl, (Blk.new w8 _ _).row _, HY8.out, HO8.out.bel hbe⟩, ⟨A5, n5, c5, rfl, HS8.out.bel hbe⟩, HB8.out.trans (hbe.mono HB8.out.size)⟩
  obtain ⟨rfl, ⟨z1, y1, p1, rfl, hZ1, hy1, hS1⟩, ⟨A1, n1, c1, rfl, hI1⟩, hb1⟩ := hcut
  obtain ⟨W1, hW1⟩ : ∃ V, V = wc := ⟨_, rfl⟩
  subst hW1
  replace hb := hb1
  clear hb1 HP1
  by_cases q1 : e1 = 0
  rotate_left
  · have q2 : (e1 != 0) = true := by simpa using q1
    obtain rfl : 0 = n1 := by have := hI1.len; rw [okL_ne q1] at this; exact this
    have HB := Lib.hid (HT.out _ hb)
    clear q1 hZ1 hy1 hS1 hI1 hb
    go_wp2_with fail
    go_ret
    exact ⟨rfl, HB.out⟩
  have HL := Lib.hid (HL16.out q1)
  obtain ⟨z1e, z2e⟩ := HZ1.out q1
  have HZ2 := Lib.hid z2e
  subst q1
  rw [okL_zero, ← HLI.out] at hI1
  obtain rfl : y1 = turnX x day := hy1
  subst z1e
  have hp1 : p1.nb = nb := by have h := hS1.bks.len; rw [turnX_len, HNB.out] at h; exact h.symm
  have hnb : nb ≤ 16 := by have := HL.out; have := HNB.out; omega
  have HN1 := Lib.hid (show LI.length = n1 from hI1.len)
  have hn16 : n1 ≤ 16 := by
    have h1 := HN1.out
    rw [HLI.out] at h1
    unfold turnI at h1
    rw [List.length_map] at h1
    have := List.length_filter_le (lateO day) x.bks
    have := HL.out
    omega
  have HZZ := Lib.hid (fun X (hX : Below W1.heap.size W1 X) => hZ1.bel hX)
  have HS1 := Lib.hid (fun X (hX : Below W1.heap.size W1 X) => hS1.bel hX)
  have HI1 := Lib.hid (fun X (hX : Below W1.heap.size W1 X) => hI1.bel hX)
  have HB1 := Lib.hid (fun X (hX : Below W1.heap.size W1 X) => hb.trans (hX.mono hb.size))
  have HP1N := Lib.hid hp1
  have HC := Lib.hid (HCK.out p1 _ hS1)
  have hZ0 := hZ1
  clear hZ1 hS1 hI1 hb HL16 HZ1 HCK hp1 z2e
  go_wp2_with (refine wpList_load_row rfl 32 (.tmp 7) rfl z1 rfl 32 _ (0, 0) _ hZ0 Tryz.underlying32 rfl (by kernel_rfl) ?_)
  refine HC.out.mono ?_
  rintro e w5 ⟨rfl, hx⟩
  have z11 : w5.cell? ⟨z1, 11, none⟩ = some (.slice p1.C nb p1.cb) := by rw [← HP1N.out]; exact (HZZ.out _ hx).cell rfl
  have g11 : w5.cell? ⟨g, 11, none⟩ = some (.slice C nb cb) := (HG.out _ (HB1.out _ hx)).cell rfl
  have HX5 := Lib.hid hx
  clear hZ0 hx HC
  obtain ⟨W5, hW5⟩ : ∃ V, V = w5 := ⟨_, rfl⟩
  subst hW5
  go_wp2_with fail
  go_loopg [10, 11] nb (fun gk cv iv wr => ∃ (k c : Nat), k ≤ nb ∧ nb - k ≤ gk ∧ iv = .int .i64 k ∧ cv = .int .i64 (c : Int) ∧ c = (idsK x day k).length ∧ Below W1.heap.size W1 wr)
  case atStart => exact ⟨0, 0, Nat.zero_le _, by omega, rfl, rfl, rfl, HX5.out⟩
  case round =>
    clear z11 g11
    obtain ⟨k, c, hk, hgk, rfl, rfl, hc, hx⟩ := hrel
    have g11 : wr.cell? ⟨g, 11, none⟩ = some (.slice C nb cb) := (HG.out _ (HB1.out _ hx)).cell rfl
    by_cases hlt : k < nb
    · have hxb := HB1.out _ hx
      obtain ⟨ab, of1, b, A5, n5, c5, hA, hbx, hF, hI, hcel⟩ := (HSX.out _ hxb).bks.bkg hlt
      obtain ⟨bb, of2, q, A6, n6, c6, hA2, hqx, hF2, hI2, hcel2⟩ := (HS1.out _ hx).bks.bkg (k := k) (by rw [HP1N.out]; exact hlt)
      have hqe : q = turn1 x day b := by rw [turnX_at hbx] at hqx; injection hqx with h; exact h.symm
      simp only at hA
      have z11 : wr.cell? ⟨z1, 11, none⟩ = some (.slice (some ⟨bb, of2, none⟩) nb p1.cb) := by rw [← hA2, ← HP1N.out]; exact (HZZ.out _ hx).cell rfl
      rw [hA] at g11
      have hk0 : (0 : Int) ≤ (k : Int) := Int.natCast_nonneg _
      have hk1 : (k : Int) < (nb : Int) := by omega
      obtain ⟨V1, hV1⟩ : ∃ V, V = wr := ⟨_, rfl⟩
      subst hV1
      have HCL := Lib.hid (show ∀ X, Below V1.heap.size V1 X → (fun w' => (w'.cell? ⟨g, 11, none⟩ = some (.slice (some ⟨ab, of1, none⟩) nb cb) ∧ w'.cell? ⟨z1, 11, none⟩ = some (.slice (some ⟨bb, of2, none⟩) nb p1.cb)) ∧ (w'.cell? ⟨ab, of1 + k * 11, none⟩ = some (.int .i64 b.id) ∧ w'.cell? ⟨ab, of1 + k * 11 + 1, none⟩ = some (.int .i64 b.kind) ∧ w'.cell? ⟨ab, of1 + k * 11 + 2, none⟩ = some (.int .i64 b.state) ∧ w'.cell? ⟨ab, of1 + k * 11 + 3, none⟩ = some (.int .i64 b.gst) ∧ w'.cell? ⟨ab, of1 + k * 11 + 4, none⟩ = some (.bool b.lev) ∧ w'.cell? ⟨ab, of1 + k * 11 + 5, none⟩ = some (.int .i64 b.cab) ∧ w'.cell? ⟨ab, of1 + k * 11 + 6, none⟩ = some (.int .i64 b.cat) ∧ w'.cell? ⟨ab, of1 + k * 11 + 7, none⟩ = some (.int .i64 b.frm) ∧ w'.cell? ⟨ab, of1 + k * 11 + 8, none⟩ = some (.int .i64 b.upto) ∧ w'.cell? ⟨ab, of1 + k * 11 + 9, none⟩ = some (.int .i64 b.til) ∧ w'.cell? ⟨ab, of1 + k * 11 + 10, none⟩ = some (.slice A5 n5 c5)) ∧ (w'.cell? ⟨bb, of2 + k * 11, none⟩ = some (.int .i64 q.id) ∧ w'.cell? ⟨bb, of2 + k * 11 + 1, none⟩ = some (.int .i64 q.kind) ∧ w'.cell? ⟨bb, of2 + k * 11 + 2, none⟩ = some (.int .i64 q.state) ∧ w'.cell? ⟨bb, of2 + k * 11 + 3, none⟩ = some (.int .i64 q.gst) ∧ w'.cell? ⟨bb, of2 + k * 11 + 4, none⟩ = some (.bool q.lev) ∧ w'.cell? ⟨bb, of2 + k * 11 + 5, none⟩ = some (.int .i64 q.cab) ∧ w'.cell? ⟨bb, of2 + k * 11 + 6, none⟩ = some (.int .i64 q.cat) ∧ w'.cell? ⟨bb, of2 + k * 11 + 7, none⟩ = some (.int .i64 q.frm) ∧ w'.cell? ⟨bb, of2 + k * 11 + 8, none⟩ = some (.int .i64 q.upto) ∧ w'.cell? ⟨bb, of2 + k * 11 + 9, none⟩ = some (.int .i64 q.til) ∧ w'.cell? ⟨bb, of2 + k * 11 + 10, none⟩ = some (.slice A6 n6 c6))) X from fun X hX => ⟨⟨cellB hX g11, cellB hX z11⟩, ⟨cellB hX (hcel 0 _ rfl), cellB hX (hcel 1 _ rfl), cellB hX (hcel 2 _ rfl), cellB hX (hcel 3 _ rfl), cellB hX (hcel 4 _ rfl), cellB hX (hcel 5 _ rfl), cellB hX (hcel 6 _ rfl), cellB hX (hcel 7 _ rfl), cellB hX (hcel 8 _ rfl), cellB hX (hcel 9 _ rfl), cellB hX (hcel 10 _ rfl)⟩, ⟨cellB hX (hcel2 0 _ rfl), cellB hX (hcel2 1 _ rfl), cellB hX (hcel2 2 _ rfl), cellB hX (hcel2 3 _ rfl), cellB hX (hcel2 4 _ rfl), cellB hX (hcel2 5 _ rfl), cellB hX (hcel2 6 _ rfl), cellB hX (hcel2 7 _ rfl), cellB hX (hcel2 8 _ rfl), cellB hX (hcel2 9 _ rfl), cellB hX (hcel2 10 _ rfl)⟩⟩)
      have HBX := Lib.hid hbx
      have HQE := Lib.hid hqe
      have HF := Lib.hid hF
      have HF2 := Lib.hid hF2
      have HC0 := Lib.hid hc
      have HX := Lib.hid hx
      clear hbx hqx hqe hF hF2 hI hI2 hcel hcel2 z11 hx hxb hA hA2 hc
      go_upto_region 12 with (fail)
      clear g11
      go_cut [12, 13] (fun p1 p2 wx => ∃ u1 u2, p1 = .pointer (some ⟨u1, 0, none⟩) ∧ p2 = .pointer (some ⟨u2, 0, none⟩) ∧ Blk wx u1 (bkgA b (.slice A5 n5 c5)) 37 ∧ Blk wx u2 (bkgA q (.slice A6 n6 c6)) 37 ∧ Below V1.heap.size V1 wx)
      case first =>
        have hbx : Below V1.heap.size V1 V1.drew := (Below.refl _ V1).drew
        refine wp_region_held_drew (S := (fun w' => (w'.cell? ⟨g, 11, none⟩ = some (.slice (some ⟨ab, of1, none⟩) nb cb) ∧ w'.cell? ⟨z1, 11, none⟩ = some (.slice (some ⟨bb, of2, none⟩) nb p1.cb)) ∧ (w'.cell? ⟨ab, of1 + k * 11, none⟩ = some (.int .i64 b.id) ∧ w'.cell? ⟨ab, of1 + k * 11 + 1, none⟩ = some (.int .i64 b.kind) ∧ w'.cell? ⟨ab, of1 + k * 11 + 2, none⟩ = some (.int .i64 b.state) ∧ w'.cell? ⟨ab, of1 + k * 11 + 3, none⟩ = some (.int .i64 b.gst) ∧ w'.cell? ⟨ab, of1 + k * 11 + 4, none⟩ = some (.bool b.lev) ∧ w'.cell? ⟨ab, of1 + k * 11 + 5, none⟩ = some (.int .i64 b.cab) ∧ w'.cell? ⟨ab, of1 + k * 11 + 6, none⟩ = some (.int .i64 b.cat) ∧ w'.cell? ⟨ab, of1 + k * 11 + 7, none⟩ = some (.int .i64 b.frm) ∧ w'.cell? ⟨ab, of1 + k * 11 + 8, none⟩ = some (.int .i64 b.upto) ∧ w'.cell? ⟨ab, of1 + k * 11 + 9, none⟩ = some (.int .i64 b.til) ∧ w'.cell? ⟨ab, of1 + k * 11 + 10, none⟩ = some (.slice A5 n5 c5)) ∧ (w'.cell? ⟨bb, of2 + k * 11, none⟩ = some (.int .i64 q.id) ∧ w'.cell? ⟨bb, of2 + k * 11 + 1, none⟩ = some (.int .i64 q.kind) ∧ w'.cell? ⟨bb, of2 + k * 11 + 2, none⟩ = some (.int .i64 q.state) ∧ w'.cell? ⟨bb, of2 + k * 11 + 3, none⟩ = some (.int .i64 q.gst) ∧ w'.cell? ⟨bb, of2 + k * 11 + 4, none⟩ = some (.bool q.lev) ∧ w'.cell? ⟨bb, of2 + k * 11 + 5, none⟩ = some (.int .i64 q.cab) ∧ w'.cell? ⟨bb, of2 + k * 11 + 6, none⟩ = some (.int .i64 q.cat) ∧ w'.cell? ⟨bb, of2 + k * 11 + 7, none⟩ = some (.int .i64 q.frm) ∧ w'.cell? ⟨bb, of2 + k * 11 + 8, none⟩ = some (.int .i64 q.upto) ∧ w'.cell? ⟨bb, of2 + k * 11 + 9, none⟩ = some (.int .i64 q.til) ∧ w'.cell? ⟨bb, of2 + k * 11 + 10, none⟩ = some (.slice A6 n6 c6)))) (by kernel_rfl) (HCL.out _ hbx) (fun hHeld => ?_)
        refine wpAnyH_take (i := 0) (v := ?v5) (gA rfl) (by kernel_rfl) (by kernel_rfl) (by kernel_rfl) (fun _ _ _ h => h) (Or.inl ⟨rfl, ?y5⟩) (by assumption) ?_
        case y5 => (intro w hSw; (try dsimp only at hSw); go_simp <;> with_reducible rfl)
        simp only [Act.put, List.setIfInBounds_toArray, List.set_cons_zero, List.set_cons_succ]
        refine wpAnyH_take (i := 1) (v := ?v6) (gA rfl) (by kernel_rfl) (by kernel_rfl) (by kernel_rfl) (fun _ _ _ h => h) (Or.inl ⟨rfl, ?y6⟩) (by assumption) ?_
        case y6 => (intro w hSw; (try dsimp only at hSw); go_simp <;> with_reducible rfl)
        simp only [Act.put, List.setIfInBounds_toArray, List.set_cons_zero, List.set_cons_succ]
        refine wpAnyH_take (i := 2) (v := ?v7) (gA rfl) (by kernel_rfl) (by kernel_rfl) (by kernel_rfl) (fun _ _ _ h => h) (Or.inl ⟨rfl, ?y7⟩) (by assumption) ?_
        case y7 => (intro w hSw; (try dsimp only at hSw); go_simp <;> with_reducible rfl)
        simp only [Act.put, List.setIfInBounds_toArray, List.set_cons_zero, List.set_cons_succ]
        refine wpAnyH_take (i := 3) (v := ?v8) (gA rfl) (by kernel_rfl) (by kernel_rfl) (by kernel_rfl) (fun _ _ _ h => h) (Or.inl ⟨rfl, ?y8⟩) (by assumption) ?_
        case y8 => (intro w hSw; (try dsimp only at hSw); go_simp <;> with_reducible rfl)
        simp only [Act.put, List.setIfInBounds_toArray, List.set_cons_zero, List.set_cons_succ]
        refine wpAnyH_take (i := 4) (v := ?v9) (gA rfl) (by kernel_rfl) (by kernel_rfl) (by kernel_rfl) (fun _ _ _ h => h) (Or.inl ⟨rfl, ?y9⟩) (by assumption) ?_
        case y9 => (intro w hSw; (try dsimp only at hSw); go_simp <;> with_reducible rfl)
        simp only [Act.put, List.setIfInBounds_toArray, List.set_cons_zero, List.set_cons_succ]
        refine wpAnyH_take (i := 5) (v := ?v10) (gA rfl) (by kernel_rfl) (by kernel_rfl) (by kernel_rfl) (fun _ _ _ h => h) (Or.inl ⟨rfl, ?y10⟩) (by assumption) ?_
        case y10 => (intro w hSw; (try dsimp only at hSw); go_simp <;> with_reducible rfl)
        simp only [Act.put, List.setIfInBounds_toArray, List.set_cons_zero, List.set_cons_succ]
        refine wpAnyH_take (i := 6) (v := ?v11) (gA rfl) (by kernel_rfl) (by kernel_rfl) (by kernel_rfl) (fun _ _ _ h => h) (Or.inl ⟨rfl, ?y11⟩) (by assumption) ?_
        case y11 => (intro w hSw; (try dsimp only at hSw); go_simp <;> with_reducible rfl)
        simp only [Act.put, List.setIfInBounds_toArray, List.set_cons_zero, List.set_cons_succ]
        refine wpAnyH_take (i := 7) (v := ?v12) (gA rfl) (by kernel_rfl) (by kernel_rfl) (by kernel_rfl) (fun _ _ _ h => h) (Or.inl ⟨rfl, ?y12⟩) (by assumption) ?_
        case y12 => (intro w hSw; (try dsimp only at hSw); go_simp <;> with_reducible rfl)
        simp only [Act.put, List.setIfInBounds_toArray, List.set_cons_zero, List.set_cons_succ]
        refine wpAnyH_take (i := 8) (v := ?v13) (gA rfl) (by kernel_rfl) (by kernel_rfl) (by kernel_rfl) (fun _ _ _ h => h) (Or.inl ⟨rfl, ?y13⟩) (by assumption) ?_
        case y13 => (intro w hSw; (try dsimp only at hSw); go_simp <;> with_reducible rfl)
        simp only [Act.put, List.setIfInBounds_toArray, List.set_cons_zero, List.set_cons_succ]
        refine wpAnyH_take (i := 9) (v := ?v14) (gA rfl) (by kernel_rfl) (by kernel_rfl) (by kernel_rfl) (fun _ _ _ h => h) (Or.inl ⟨rfl, ?y14⟩) (by assumption) ?_
        case y14 => (intro w hSw; (try dsimp only at hSw); go_simp <;> with_reducible rfl)
        simp only [Act.put, List.setIfInBounds_toArray, List.set_cons_zero, List.set_cons_succ]
        have hb1a : ∀ o1, Below V1.heap.size V1 (V1.drew.alloc o1) := fun o1 => hbx.alloc hbx.size o1
        have hb2a : ∀ o1 o2, Below V1.heap.size V1 ((V1.drew.alloc o1).alloc o2) := fun o1 o2 => (hb1a o1).alloc (hb1a o1).size o2
        refine wpAnyH_ready (rs := [10, 11]) (by kernel_rfl) (by simp) ?_
        refine AllReadyH.cons (gA rfl) (fun K hK => ?_) ?m_1
        case m_1 =>
          refine AllReadyH.cons (gA rfl) (fun K hK => ?_) AllReadyH.nil
          go_simp
          refine hK.out _ _ ?_ (fun hHeld => ?_)
          · exact (by first | exact HCL.out _ (hb1a (.cells #[.int .i64 0, .int .i64 0, .int .i64 0, .int .i64 0, .bool false, .int .i64 0, .int .i64 0, .int .i64 0, .int .i64 0, .int .i64 0, .slice none 0 0] 37)) | exact HCL.out _ (hb2a (.cells #[.int .i64 0, .int .i64 0, .int .i64 0, .int .i64 0, .bool false, .int .i64 0, .int .i64 0, .int .i64 0, .int .i64 0, .int .i64 0, .slice none 0 0] 37) (.cells #[.int .i64 0, .int .i64 0, .int .i64 0, .int .i64 0, .bool false, .int .i64 0, .int .i64 0, .int .i64 0, .int .i64 0, .int .i64 0, .slice none 0 0] 37)))
          clear hK K
          try simp only [Act.put, List.setIfInBounds_toArray, List.set_cons_zero, List.set_cons_succ]
          refine wpAnyH_ready (rs := [10]) (by kernel_rfl) (by simp) ?_
          refine AllReadyH.cons (gA rfl) (fun K hK => ?_) AllReadyH.nil
          go_simp
          refine hK.out _ _ ?_ (fun hHeld => ?_)
          · exact (by first | exact HCL.out _ (hb1a (.cells #[.int .i64 0, .int .i64 0, .int .i64 0, .int .i64 0, .bool false, .int .i64 0, .int .i64 0, .int .i64 0, .int .i64 0, .int .i64 0, .slice none 0 0] 37)) | exact HCL.out _ (hb2a (.cells #[.int .i64 0, .int .i64 0, .int .i64 0, .int .i64 0, .bool false, .int .i64 0, .int .i64 0, .int .i64 0, .int .i64 0, .int .i64 0, .slice none 0 0] 37) (.cells #[.int .i64 0, .int .i64 0, .int .i64 0, .int .i64 0, .bool false, .int .i64 0, .int .i64 0, .int .i64 0, .int .i64 0, .int .i64 0, .slice none 0 0] 37)))
          clear hK K
          try simp only [Act.put, List.setIfInBounds_toArray, List.set_cons_zero, List.set_cons_succ]
          refine wpAnyH_ready (rs := [12]) (by kernel_rfl) (by simp) (AllReadyH.cons (gA rfl) (fun K hK => ?_) AllReadyH.nil)
          go_simp
          refine hK.out _ _ ?_ (fun hHeld => ?_)
          · exact (by first | exact HCL.out _ (hb2a _ _) | exact HCL.out _ (hb2a (.cells #[.int .i64 b.id, .int .i64 b.kind, .int .i64 b.state, .int .i64 b.gst, .bool b.lev, .int .i64 b.cab, .int .i64 b.cat, .int .i64 b.frm, .int .i64 b.upto, .int .i64 b.til, .slice A5 n5 c5] 37) (.cells #[.int .i64 0, .int .i64 0, .int .i64 0, .int .i64 0, .bool false, .int .i64 0, .int .i64 0, .int .i64 0, .int .i64 0, .int .i64 0, .slice none 0 0] 37)) | exact HCL.out _ (hb2a (.cells #[.int .i64 0, .int .i64 0, .int .i64 0, .int .i64 0, .bool false, .int .i64 0, .int .i64 0, .int .i64 0, .int .i64 0, .int .i64 0, .slice none 0 0] 37) (.cells #[.int .i64 b.id, .int .i64 b.kind, .int .i64 b.state, .int .i64 b.gst, .bool b.lev, .int .i64 b.cab, .int .i64 b.cat, .int .i64 b.frm, .int .i64 b.upto, .int .i64 b.til, .slice A5 n5 c5] 37)))
          clear hK K
          try simp only [Act.put, List.setIfInBounds_toArray, List.set_cons_zero, List.set_cons_succ]
          refine wpAnyH_ready (rs := [13]) (by kernel_rfl) (by simp) (AllReadyH.cons (gA rfl) (fun K hK => ?_) AllReadyH.nil)
          go_simp
          refine hK.out _ _ ?_ (fun hHeld => ?_)
          · exact (by first | exact HCL.out _ (hb2a _ _) | exact HCL.out _ (hb2a (.cells #[.int .i64 b.id, .int .i64 b.kind, .int .i64 b.state, .int .i64 b.gst, .bool b.lev, .int .i64 b.cab, .int .i64 b.cat, .int .i64 b.frm, .int .i64 b.upto, .int .i64 b.til, .slice A5 n5 c5] 37) (.cells #[.int .i64 q.id, .int .i64 q.kind, .int .i64 q.state, .int .i64 q.gst, .bool q.lev, .int .i64 q.cab, .int .i64 q.cat, .int .i64 q.frm, .int .i64 q.upto, .int .i64 q.til, .slice A6 n6 c6] 37)) | exact HCL.out _ (hb2a (.cells #[.int .i64 q.id, .int .i64 q.kind, .int .i64 q.state, .int .i64 q.gst, .bool q.lev, .int .i64 q.cab, .int .i64 q.cat, .int .i64 q.frm, .int .i64 q.upto, .int .i64 q.til, .slice A6 n6 c6] 37) (.cells #[.int .i64 b.id, .int .i64 b.kind, .int .i64 b.state, .int .i64 b.gst, .bool b.lev, .int .i64 b.cab, .int .i64 b.cat, .int .i64 b.frm, .int .i64 b.upto, .int .i64 b.til, .slice A5 n5 c5] 37)))
          clear hK K
          try simp only [Act.put, List.setIfInBounds_toArray, List.set_cons_zero, List.set_cons_succ]
          refine wpAnyH_done (by kernel_rfl) ?_ _
          go_wp2_with fail
          go_meet
          first | exact ⟨_, _, rfl, rfl, blk2_0 _ _ _, blk2_1 _ _ _, hb2a _ _⟩ | exact ⟨_, _, rfl, rfl, blk2_1 _ _ _, blk2_0 _ _ _, hb2a _ _⟩
        go_simp
        refine hK.out _ _ ?_ (fun hHeld => ?_)
        · exact (by first | exact HCL.out _ (hb1a (.cells #[.int .i64 0, .int .i64 0, .int .i64 0, .int .i64 0, .bool false, .int .i64 0, .int .i64 0, .int .i64 0, .int .i64 0, .int .i64 0, .slice none 0 0] 37)) | exact HCL.out _ (hb2a (.cells #[.int .i64 0, .int .i64 0, .int .i64 0, .int .i64 0, .bool false, .int .i64 0, .int .i64 0, .int .i64 0, .int .i64 0, .int .i64 0, .slice none 0 0] 37) (.cells #[.int .i64 0, .int .i64 0, .int .i64 0, .int .i64 0, .bool false, .int .i64 0, .int .i64 0, .int .i64 0, .int .i64 0, .int .i64 0, .slice none 0 0] 37)))
        clear hK K
        try simp only [Act.put, List.setIfInBounds_toArray, List.set_cons_zero, List.set_cons_succ]
        refine wpAnyH_ready (rs := [11]) (by kernel_rfl) (by simp) ?_
        refine AllReadyH.cons (gA rfl) (fun K hK => ?_) AllReadyH.nil
        go_simp
        refine hK.out _ _ ?_ (fun hHeld => ?_)
        · exact (by first | exact HCL.out _ (hb1a (.cells #[.int .i64 0, .int .i64 0, .int .i64 0, .int .i64 0, .bool false, .int .i64 0, .int .i64 0, .int .i64 0, .int .i64 0, .int .i64 0, .slice none 0 0] 37)) | exact HCL.out _ (hb2a (.cells #[.int .i64 0, .int .i64 0, .int .i64 0, .int .i64 0, .bool false, .int .i64 0, .int .i64 0, .int .i64 0, .int .i64 0, .int .i64 0, .slice none 0 0] 37) (.cells #[.int .i64 0, .int .i64 0, .int .i64 0, .int .i64 0, .bool false, .int .i64 0, .int .i64 0, .int .i64 0, .int .i64 0, .int .i64 0, .slice none 0 0] 37)))
        clear hK K
        try simp only [Act.put, List.setIfInBounds_toArray, List.set_cons_zero, List.set_cons_succ]
        refine wpAnyH_ready (rs := [12]) (by kernel_rfl) (by simp) (AllReadyH.cons (gA rfl) (fun K hK => ?_) AllReadyH.nil)
        go_simp
        refine hK.out _ _ ?_ (fun hHeld => ?_)
        · exact (by first | exact HCL.out _ (hb2a _ _) | exact HCL.out _ (hb2a (.cells #[.int .i64 b.id, .int .i64 b.kind, .int .i64 b.state, .int .i64 b.gst, .bool b.lev, .int .i64 b.cab, .int .i64 b.cat, .int .i64 b.frm, .int .i64 b.upto, .int .i64 b.til, .slice A5 n5 c5] 37) (.cells #[.int .i64 0, .int .i64 0, .int .i64 0, .int .i64 0, .bool false, .int .i64 0, .int .i64 0, .int .i64 0, .int .i64 0, .int .i64 0, .slice none 0 0] 37)) | exact HCL.out _ (hb2a (.cells #[.int .i64 0, .int .i64 0, .int .i64 0, .int .i64 0, .bool false, .int .i64 0, .int .i64 0, .int .i64 0, .int .i64 0, .int .i64 0, .slice none 0 0] 37) (.cells #[.int .i64 b.id, .int .i64 b.kind, .int .i64 b.state, .int .i64 b.gst, .bool b.lev, .int .i64 b.cab, .int .i64 b.cat, .int .i64 b.frm, .int .i64 b.upto, .int .i64 b.til, .slice A5 n5 c5] 37)))
        clear hK K
        try simp only [Act.put, List.setIfInBounds_toArray, List.set_cons_zero, List.set_cons_succ]
        refine wpAnyH_ready (rs := [13]) (by kernel_rfl) (by simp) (AllReadyH.cons (gA rfl) (fun K hK => ?_) AllReadyH.nil)
        go_simp
        refine hK.out _ _ ?_ (fun hHeld => ?_)
        · exact (by first | exact HCL.out _ (hb2a _ _) | exact HCL.out _ (hb2a (.cells #[.int .i64 b.id, .int .i64 b.kind, .int .i64 b.state, .int .i64 b.gst, .bool b.lev, .int .i64 b.cab, .int .i64 b.cat, .int .i64 b.frm, .int .i64 b.upto, .int .i64 b.til, .slice A5 n5 c5] 37) (.cells #[.int .i64 q.id, .int .i64 q.kind, .int .i64 q.state, .int .i64 q.gst, .bool q.lev, .int .i64 q.cab, .int .i64 q.cat, .int .i64 q.frm, .int .i64 q.upto, .int .i64 q.til, .slice A6 n6 c6] 37)) | exact HCL.out _ (hb2a (.cells #[.int .i64 q.id, .int .i64 q.kind, .int .i64 q.state, .int .i64 q.gst, .bool q.lev, .int .i64 q.cab, .int .i64 q.cat, .int .i64 q.frm, .int .i64 q.upto, .int .i64 q.til, .slice A6 n6 c6] 37) (.cells #[.int .i64 b.id, .int .i64 b.kind, .int .i64 b.state, .int .i64 b.gst, .bool b.lev, .int .i64 b.cab, .int .i64 b.cat, .int .i64 b.frm, .int .i64 b.upto, .int .i64 b.til, .slice A5 n5 c5] 37)))
        clear hK K
        try simp only [Act.put, List.setIfInBounds_toArray, List.set_cons_zero, List.set_cons_succ]
        refine wpAnyH_done (by kernel_rfl) ?_ _
        go_wp2_with fail
        go_meet
        first | exact ⟨_, _, rfl, rfl, blk2_0 _ _ _, blk2_1 _ _ _, hb2a _ _⟩ | exact ⟨_, _, rfl, rfl, blk2_1 _ _ _, blk2_0 _ _ _, hb2a _ _⟩
      obtain ⟨u1, u2, rfl, rfl, hU1, hU2, hb2⟩ := hcut
      obtain ⟨V2', hV2'⟩ : ∃ V, V = wc := ⟨_, rfl⟩
      subst hV2'
      have hx2 := HX.out.trans (hb2.mono HX.out.size)
      obtain ⟨st, hst⟩ : ∃ r, r = b.state := ⟨_, rfl⟩
      obtain ⟨ti, hti⟩ : ∃ r, r = b.til := ⟨_, rfl⟩
      have a2 : V2'.cell? ⟨u1, 2, none⟩ = some (.int .i64 st) := by rw [hst]; exact hU1.cell rfl
      have a8 : V2'.cell? ⟨u1, 9, none⟩ = some (.int .i64 ti) := by rw [hti]; exact hU1.cell rfl
      obtain ⟨lo, hlo⟩ : ∃ r, r = lateO day b := ⟨_, rfl⟩
      have HLO := Lib.hid (show lo = (decide (st = 1) && decide (ti < day)) by rw [hlo, hst, hti]; rfl)
      have HLL := Lib.hid hlo
      have HU1 := Lib.hid hU1
      have HU2 := Lib.hid hU2
      have HX2 := Lib.hid hx2
      have HB2 := Lib.hid hb2
      clear hst hti hlo hU1 hU2 hx2 hb2 HCL
      go_upto_region 13 with (fail)
      go_cut [74] (fun q wx => q = .bool lo ∧ V2' = wx)
      case first => as_aux_lemma =>
        by_cases q1 : st = 1
        · have hv : lo = decide (ti < day) := by rw [HLO.out, decide_eq_true q1]; rfl
          have HV := Lib.hid hv
          clear hv
          subst q1
          go_wp2_with fail
          go_meet
          exact ⟨by rw [HV.out], rfl⟩
        · obtain rfl : lo = false := by rw [HLO.out, decide_eq_false q1]; rfl
          have q3 : (st == 1) = false := by simpa using q1
          clear q1
          go_wp2_with fail
          go_meet
          exact ⟨rfl, rfl⟩
      obtain ⟨rfl, rfl⟩ := hcut
      clear a2 a8
      cases lo
      · have hq2 : q = b := by rw [HQE.out, turn1_not HLL.out.symm]
        subst hq2
        have HSB := Lib.hid (SameBooking_any q A5 n5 c5 A6 n6 c6 V2' (HF.out.bel HB2.out) (HF2.out.bel HB2.out))
        have HNX := Lib.hid (turnK_same (day := day) HBX.out HLL.out.symm).2
        go_wp2_with (first | (refine wpList_load_row rfl 37 (.tmp 12) rfl u1 rfl 37 _ (0, 0) _ HU1.out Tryz.underlying37 rfl (by kernel_rfl) ?_) | (refine wpList_load_row rfl 37 (.tmp 13) rfl u2 rfl 37 _ (0, 0) _ HU2.out Tryz.underlying37 rfl (by kernel_rfl) ?_))
        refine HSB.out.mono ?_
        rintro e w6 ⟨rfl, hb6⟩
        have HX6 := Lib.hid (HX2.out.trans (hb6.mono HX2.out.size))
        clear hb6 HSB
        go_wp2_with fail
        go_roundg (nb - (k + 1))
        case measure => omega
        case rel => exact ⟨k + 1, c, by omega, by omega, by go_num, rfl, by rw [HNX.out]; exact HC0.out, HX6.out⟩
      have hat := ids_at HBX.out HLL.out.symm
      rw [← HC0.out, ← HLI.out] at hat
      have hcl : c < n1 := by rw [← HN1.out]; exact (List.getElem?_eq_some_iff.1 hat).1
      obtain ⟨ib, io, t, t0, rfl, ht, ⟨htd, _⟩, e0⟩ := (HI1.out _ HX2.out).at1 hcl
      obtain rfl : t = b.id := by rw [hat] at ht; injection ht with ht; exact ht.symm
      obtain rfl : t0 = .int .i64 b.id := by simpa using htd
      have u2s : V2'.cell? ⟨u2, 2, none⟩ = some (.int .i64 3) := by
        have h : V2'.cell? ⟨u2, 2, none⟩ = some (.int .i64 q.state) := HU2.out.cell rfl
        rw [HQE.out, turn1_late HLL.out.symm, turnB_state] at h
        exact h
      have u10 : V2'.cell? ⟨u1, 0, none⟩ = some (.int .i64 b.id) := HU1.out.cell rfl
      have hc0 : (0 : Int) ≤ (c : Int) := Int.natCast_nonneg _
      have hc1 : (c : Int) < (n1 : Int) := by omega
      have hd1 : decide ((n1 : Int) ≤ (c : Int)) = false := decide_eq_false (by omega)
      have hd1n : decide (n1 ≤ c) = false := decide_eq_false (by omega)
      have HNX := Lib.hid (ids_next HBX.out HLL.out.symm)
      have hww : IntKind.i64.wrap ((c : Int) + 1) = ((c + 1 : Nat) : Int) := by rw [IntWalk.i64_in _ (by omega)]; omega
      have HW := Lib.hid hww
      clear hat ht htd hww
      go_upto_region 14 with (fail)
      go_quiet (fail)
      clear e0 u2s u10
      go_wp2_with fail
      go_roundg (nb - (k + 1))
      case measure => omega
      case rel => exact ⟨k + 1, c + 1, by omega, by omega, by go_num, by first | go_num | rfl, by rw [HNX.out, ← HC0.out], by first | exact below_drewN HX2.out _ | exact HX2.out.drew | exact HX2.out⟩
    · obtain rfl : k = nb := by omega
      have hcn : c = n1 := by rw [hc, ← HNB.out, idsK_all, ← HLI.out, HN1.out]
      subst hcn
      have HX := Lib.hid hx
      clear hx hc
      obtain ⟨V3, hV3⟩ : ∃ V, V = wr := ⟨_, rfl⟩
      subst hV3
      go_upto_region 21 with (fail)
      clear g11
      go_cut [14, 15, 9] (fun q _ e wx => e = .int .i64 e2 ∧ (∃ z y p', q = .pointer (some ⟨z, 0, none⟩) ∧ Blk wx z (saiA y p') 32 ∧ y = okS e2 (turnX (turnX x day) more) ∧ SaiR wx y p') ∧ Below W1.heap.size W1 wx)
      case first =>
        have HC := Lib.hid (HP2.out p1 _ (HS1.out _ HX.out))
        clear HP2 HP3 HZ2
        go_wp2_with (refine wpList_load_row rfl 32 (.tmp 7) rfl z1 rfl 32 _ (0, 0) _ (HZZ.out _ HX.out) Tryz.underlying32 rfl (by kernel_rfl) ?_)
        refine HC.out.mono ?_
        rintro e w8 ⟨⟨y, p', v, xs, rfl, hy, hO, -⟩, hb8⟩
        have HO8 := Lib.hid hO.sai
        have HY8 := Lib.hid hy
        have HB8 := Lib.hid (HX.out.trans (hb8.mono HX.out.size))
        clear hy hO hb8 HC
        go_wp2_with (refine wpList_store_row rfl 32 (.tmp 14) (.tmp 107) rfl w8.heap.size (saiA y p') rfl rfl 32 _ (Blk.new w8 #[.int .i64 0, .int .i64 0, .slice none 0 0, .slice none 0 0, .slice none 0 0, .int .i64 0, .int .i64 0, .slice none 0 0, .int .i64 0, .int .i64 0, .int .i64 0, .slice none 0 0, .bool false] 32) (by kernel_rfl) rfl (by simp [Value.oneCell']) ?_)
        go_meet
        have hbe : Below w8.heap.size w8 ((w8.alloc (.cells #[.int .i64 0, .int .i64 0, .slice none 0 0, .slice none 0 0, .slice none 0 0, .int .i64 0, .int .i64 0, .slice none 0 0, .int .i64 0, .int .i64 0, .int .i64 0, .slice none 0 0, .bool false] 32)).setRow w8.heap.size (saiA y p')) := below_setRow (bel1 w8 _) (Nat.le_refl _) _
        exact ⟨rfl, ⟨_, y, p', rfl, (Blk.new w8 _ _).row _, HY8.out, HO8.out.bel hbe⟩, HB8.out.trans (hbe.mono HB8.out.size)⟩
      obtain ⟨rfl, ⟨z3, y3, p3, rfl, hZ3, hy3, hS3⟩, hx3⟩ := hcut
      obtain ⟨V4, hV4⟩ : ∃ V, V = wc := ⟨_, rfl⟩
      subst hV4
      by_cases q3 : e2 = 0
      rotate_left
      · have q4 : (e2 != 0) = true := by simpa using q3
        have HB := Lib.hid (HT.out _ (HB1.out _ hx3))
        clear q3 hZ3 hy3 hS3 hx3
        go_wp2_with fail
        go_ret
        exact ⟨rfl, HB.out⟩
      obtain ⟨z3e, hdm⟩ := HZ2.out q3
      have HDM := Lib.hid hdm
      subst q3 z3e
      obtain rfl : y3 = turnX (turnX x day) more := hy3
      have HZ3 := Lib.hid hZ3
      have HS3 := Lib.hid hS3
      have HX3 := Lib.hid hx3
      clear hdm hZ3 hS3 hx3 HZ2 HP2
      go_upto_region 24 with (fail)
      go_cut [16, 17, 9] (fun q _ e wx => e = .int .i64 0 ∧ (∃ z y p', q = .pointer (some ⟨z, 0, none⟩) ∧ Blk wx z (saiA y p') 32 ∧ y = okS 0 (turnX x more) ∧ SaiR wx y p') ∧ Below V4.heap.size V4 wx)
      case first =>
        have hb := HB1.out _ HX3.out
        have HC := Lib.hid (HP3.out _ (HSX.out _ hb))
        clear HP3
        go_wp2_with (refine wpList_load_row rfl 32 (.tmp 3) rfl g rfl 32 _ (0, 0) _ (HG.out _ hb) Tryz.underlying32 rfl (by kernel_rfl) ?_)
        refine HC.out.mono ?_
        rintro e w8 ⟨⟨y, p', v, xs, rfl, hy, hO, -⟩, hb8⟩
        have HO8 := Lib.hid hO.sai
        have HY8 := Lib.hid hy
        have HB8 := Lib.hid hb8
        clear hy hO hb8 HC hb
        go_wp2_with (refine wpList_store_row rfl 32 (.tmp 16) (.tmp 116) rfl w8.heap.size (saiA y p') rfl rfl 32 _ (Blk.new w8 #[.int .i64 0, .int .i64 0, .slice none 0 0, .slice none 0 0, .slice none 0 0, .int .i64 0, .int .i64 0, .slice none 0 0, .int .i64 0, .int .i64 0, .int .i64 0, .slice none 0 0, .bool false] 32) (by kernel_rfl) rfl (by simp [Value.oneCell']) ?_)
        go_meet
        have hbe : Below w8.heap.size w8 ((w8.alloc (.cells #[.int .i64 0, .int .i64 0, .slice none 0 0, .slice none 0 0, .slice none 0 0, .int .i64 0, .int .i64 0, .slice none 0 0, .int .i64 0, .int .i64 0, .int .i64 0, .slice none 0 0, .bool false] 32)).setRow w8.heap.size (saiA y p')) := below_setRow (bel1 w8 _) (Nat.le_refl _) _
        exact ⟨rfl, ⟨_, y, p', rfl, (Blk.new w8 _ _).row _, HY8.out, HO8.out.bel hbe⟩, HB8.out.trans (hbe.mono HB8.out.size)⟩
      obtain ⟨rfl, ⟨z4, y4, p4, rfl, hZ4, hy4, hS4⟩, hx4⟩ := hcut
      obtain ⟨V5, hV5⟩ : ∃ V, V = wc := ⟨_, rfl⟩
      subst hV5
      obtain rfl : y4 = turnX x more := hy4
      have hZ3 := HZ3.out.bel hx4
      have hS3 := HS3.out.bel hx4
      have hn3 : p3.nb = k := by have h := hS3.bks.len; rw [turnX_len, turnX_len, HNB.out] at h; exact h.symm
      have hn4 : p4.nb = k := by have h := hS4.bks.len; rw [turnX_len, HNB.out] at h; exact h.symm
      have HB5 := Lib.hid (HB1.out _ (HX3.out.trans (hx4.mono HX3.out.size)))
      have a11 : V5.cell? ⟨z3, 11, none⟩ = some (.slice p3.C k p3.cb) := by rw [← hn3]; exact hZ3.cell rfl
      have b11 : V5.cell? ⟨z4, 11, none⟩ = some (.slice p4.C k p4.cb) := by rw [← hn4]; exact hZ4.cell rfl
      have a9 : V5.cell? ⟨z3, 9, none⟩ = some (.int .i64 more) := hZ3.cell rfl
      have b9 : V5.cell? ⟨z4, 9, none⟩ = some (.int .i64 more) := hZ4.cell rfl
      have HZ3 := Lib.hid (fun X (hX : Below V5.heap.size V5 X) => hZ3.bel hX)
      have HZ4 := Lib.hid (fun X (hX : Below V5.heap.size V5 X) => hZ4.bel hX)
      have HS3 := Lib.hid (fun X (hX : Below V5.heap.size V5 X) => hS3.bel hX)
      have HS4 := Lib.hid (fun X (hX : Below V5.heap.size V5 X) => hS4.bel hX)
      have HN3 := Lib.hid hn3
      have HN4 := Lib.hid hn4
      clear hZ3 hZ4 hS3 hS4 hn3 hn4 hx4 HP3 HX3
      go_wp2_with fail
      go_loopg [18] k (fun gk iv wr => ∃ j : Nat, j ≤ k ∧ k - j ≤ gk ∧ iv = .int .i64 j ∧ Below V5.heap.size V5 wr)
      case atStart => exact ⟨0, Nat.zero_le _, by omega, rfl, Below.refl _ _⟩
      case round =>
        clear a11 b11 a9 b9
        obtain ⟨j, hj, hgj, rfl, hx⟩ := hrel
        have a11 : wr.cell? ⟨z3, 11, none⟩ = some (.slice p3.C k p3.cb) := by rw [← HN3.out]; exact (HZ3.out _ hx).cell rfl
        by_cases hjk : j < k
        · obtain ⟨ab, of1, q3, A5, n5, c5, hA, hq3, -, -, hcel⟩ := (HS3.out _ hx).bks.bkg (k := j) (by rw [HN3.out]; exact hjk)
          obtain ⟨bb, of2, q4, A6, n6, c6, hA2, hq4, -, -, hcel2⟩ := (HS4.out _ hx).bks.bkg (k := j) (by rw [HN4.out]; exact hjk)
          obtain ⟨b, hb⟩ : ∃ b, x.bks[j]? = some b := ⟨_, List.getElem?_eq_getElem (by have := HNB.out; omega)⟩
          have e3 : q3 = turn1 (turnX x day) more (turn1 x day b) := by
            have h := turnX_at (day := more) (turnX_at (day := day) hb)
            rw [h] at hq3; injection hq3 with h; exact h.symm
          have e4 : q4 = turn1 x more b := by
            have h := turnX_at (day := more) hb
            rw [h] at hq4; injection hq4 with h; exact h.symm
          obtain ⟨st, hst⟩ : ∃ r, r = q4.state := ⟨_, rfl⟩
          obtain ⟨id, hid⟩ : ∃ r, r = q4.id := ⟨_, rfl⟩
          have hs3 : q3.state = st := by rw [hst, e3, e4]; exact turn_two x b HDM.out
          have hi3 : q3.id = id := by rw [hid, e3, e4, turn1_id, turn1_id, turn1_id]
          rw [hA] at a11
          have b11 : wr.cell? ⟨z4, 11, none⟩ = some (.slice (some ⟨bb, of2, none⟩) k p4.cb) := by rw [← hA2, ← HN4.out]; exact (HZ4.out _ hx).cell rfl
          have s3 : wr.cell? ⟨ab, of1 + j * 11 + 2, none⟩ = some (.int .i64 st) := by rw [← hs3]; exact hcel 2 _ rfl
          have i3 : wr.cell? ⟨ab, of1 + j * 11, none⟩ = some (.int .i64 id) := by rw [← hi3]; exact hcel 0 _ rfl
          have s4 : wr.cell? ⟨bb, of2 + j * 11 + 2, none⟩ = some (.int .i64 st) := by rw [hst]; exact hcel2 2 _ rfl
          have i4 : wr.cell? ⟨bb, of2 + j * 11, none⟩ = some (.int .i64 id) := by rw [hid]; exact hcel2 0 _ rfl
          have hj0 : (0 : Int) ≤ (j : Int) := Int.natCast_nonneg _
          have hj1 : (j : Int) < (k : Int) := by omega
          have HX := Lib.hid hx
          clear hA hq3 hcel hA2 hq4 hcel2 hb e3 e4 hst hid hs3 hi3 hx
          go_upto_region 30 with (fail)
          go_quiet (fail)
          clear a11 b11 s3 i3 s4 i4
          go_wp2_with fail
          go_roundg (k - (j + 1))
          case measure => omega
          case rel => exact ⟨j + 1, by omega, by omega, by go_num, by first | exact below_drewN HX.out _ | exact HX.out.drew | exact HX.out⟩
        · obtain rfl : j = k := by omega
          have HX := Lib.hid hx
          clear hx
          go_wp2_with fail
          go_ret
          exact ⟨rfl, HT.out _ (HB5.out.trans (HX.out.mono HB5.out.size))⟩
set_option maxRecDepth 100000 in
theorem VoyageOptions_lifted (os : Os) (started : os.Started) (H : Type) (enc : TypeId × Value → H) :
    ReturnsInHanded {} Tryz.checked os 9 .any (Rows.voyageOptionsSpec.pre6 enc Tryz.prog Tryz.f9 Rows.voyageOptionsRow.domain false) (Rows.voyageOptionsSpec.post enc Tryz.prog Tryz.f9 false true false false) := by
  refine returnsInHanded_of_change (C := Tryz.checked) own started (by kernel_rfl) Tryz.func9
    (ChangeSpec.witness6 (enc := enc) (C := Tryz.checked) false ⟨#[], #[.agg #[.int .i64 0, .int .i64 0, .slice none 0 0, .slice none 0 0, .slice none 0 0, .int .i64 0, .int .i64 0, .slice none 0 0, .int .i64 0, .int .i64 0, .int .i64 0, .slice none 0 0, .bool false], .int .i64 0, .int .i64 0], []⟩ 8 (by kernel_rfl) (by kernel_rfl) (by kernel_rfl) (by kernel_rfl)) ?_
  intro W base args ds gs before hval0 hW hcnd _
  have hval : ∀ (j : Nat) t v, Tryz.f9.params[j]? = some t → args[j]? = some v → Value.okWide Tryz.prog W .any base t v := hval0
  have hW' := hW
  obtain ⟨p, q, hA0, hV, rfl, hfz, hnd⟩ := hW
  have hA : DataW.TrodAll enc Tryz.prog W 0 (fun _ => true) true Tryz.f9.params.toList args.toList ds p := hA0
  rw [Tryz.params9] at hA hval
  obtain ⟨v0, vs0, d0, ds0, p0, q0, hargs, rfl, rfl, h0, r0⟩ := trodAll_cons hA
  obtain ⟨v1, vs1, d1, ds1, p1, q1, rfl, rfl, rfl, h1, r1⟩ := trodAll_cons r0
  obtain ⟨v2, vs2, d2, ds2, p2, q2, rfl, rfl, rfl, h2, r2⟩ := trodAll_cons r1
  obtain ⟨rfl, rfl, rfl⟩ := trodAll_nil r2
  obtain rfl : args = #[v0, v1, v2] := by cases args; simp_all
  obtain ⟨rfl, rfl⟩ := trodVars_none hV
  have lt0 := arg_lt h0
  have k0 := h0
  obtain ⟨cs0, a0, rfl, w0⟩ := arg_agg (c := saiC) Tryz.underlying32 opens_saiC (hval 0 32 v0 rfl rfl) h0
  have lt1 := arg_lt h1
  have k1 := h1
  obtain ⟨a1, rfl, w1⟩ := arg_int Tryz.underlying3 (hval 1 3 v1 rfl rfl) h1
  have lt2 := arg_lt h2
  have k2 := h2
  obtain ⟨a2, rfl, w2⟩ := arg_int Tryz.underlying3 (hval 2 3 v2 rfl rfl) h2
  clear hA0 hval0
  refine (VoyageOptions_walk W cs0 a0 w0 a1 w1 a2 w2).mono fun e W' ⟨he, bel⟩ => ?_
  subst he
  exact ⟨_, rfl, _, _, _, [], _, [], hW', trodAll_mk1 (shut_bool Tryz.underlying4 _), (trodAll_cons_mk (Below.trod laidOut (by kernel_rfl) (of_decide_eq_true (by kernel_rfl)) k0 bel lt0) (trodAll_cons_mk (Below.trod laidOut (by kernel_rfl) (of_decide_eq_true (by kernel_rfl)) k1 bel lt1) (trodAll_cons_mk (Below.trod laidOut (by kernel_rfl) (of_decide_eq_true (by kernel_rfl)) k2 bel lt2) trodAll_mk0))), rfl, bel.frame _, fun h => by cases h⟩

theorem VoyageOptions_fit1 : (Rows.voyageOptionsRow.wf (OpenSpec.ofChange Rows.voyageOptionsSpec) && Tryz.f9.params.all (Tryz.prog.readableRec ·) && namedTie Tryz.prog Rows.voyageOptionsRow.named Rows.voyageOptionsSpec.vars && (Rows.voyageOptionsRow.stops == []) && (Tryz.prog.stops == []) && (Rows.voyageOptionsRow.knobs == []) && (Tryz.prog.stopKnobs == [])) = true := by kernel_rfl
theorem VoyageOptions_fit2 : ((Rows.voyageOptionsRow.inPlace == Tryz.prog.inPlace 9) && (Rows.voyageOptionsRow.unfollowed == Tryz.prog.unfollowed 9) && (Rows.voyageOptionsRow.recurses == Tryz.prog.recurses 9) && (Rows.voyageOptionsRow.named == Tryz.prog.varsNamed 9)) = true := by kernel_rfl
theorem VoyageOptions_fit3 : ((Rows.voyageOptionsRow.maps == (Tryz.f9.params.toList ++ Rows.voyageOptionsSpec.plain.varTypes Tryz.prog).any (Tryz.prog.mapsRec ·)) && (Rows.voyageOptionsRow.ifaces == (Tryz.f9.params.toList ++ Rows.voyageOptionsSpec.plain.varTypes Tryz.prog).any (Tryz.prog.ifacesRec ·)) && (Rows.voyageOptionsRow.mapsOut == Tryz.prog.mapsAmong Tryz.f9.resultTypes.toList) && (Rows.voyageOptionsRow.loops == (Tryz.f9.params.toList ++ Rows.voyageOptionsSpec.plain.varTypes Tryz.prog).any (Tryz.prog.loopsFrom ·)) && (Rows.voyageOptionsRow.wideKeys == (Tryz.f9.params.toList ++ Rows.voyageOptionsSpec.plain.varTypes Tryz.prog ++ Tryz.f9.resultTypes.toList).any (Tryz.prog.wideKeysFrom ·)) &&
    Rows.voyageOptionsSpec.vars.all (Tryz.prog.varReadable ·) && Tryz.f9.resultTypes.all (fun t => Tryz.prog.readableRec t && decide (t < Tryz.prog.types.size)) && (Rows.voyageOptionsRow.ifacesOut == Tryz.f9.resultTypes.toList.any (Tryz.prog.ifacesRec ·)) && (Rows.voyageOptionsRow.loopsOut == Tryz.f9.resultTypes.toList.any (Tryz.prog.loopsFrom ·)) && (Rows.voyageOptionsRow.plainKeys == Tryz.prog.plainKeys) && Rows.voyageOptionsRow.shortTexts.isNone) = true := by kernel_rfl
theorem VoyageOptions_fit4 : ((Rows.voyageOptionsRow.lifted == Tryz.prog.liftsFinal) && (Tryz.prog.make == some Rows.voyageOptionsRow.make)) = true := by kernel_rfl
theorem VoyageOptions_fit5 : ((Rows.voyageOptionsRow.kinds == (if Rows.voyageOptionsRow.domain.isEmpty then [] else Tryz.f9.params.toList.map fun t => match Tryz.prog.underlying t with | some (.int k) => some k | _ => none)) && (Rows.voyageOptionsRow.pinned == Rows.voyageOptionsRow.pinnedBy) && (Rows.voyageOptionsRow.veiled == (Tryz.f9.params.toList ++ Rows.voyageOptionsSpec.plain.varTypes Tryz.prog ++ Tryz.f9.resultTypes.toList).any (Tryz.prog.veiledRec ·)) && Rows.voyageOptionsRow.veiledFits Tryz.prog Tryz.f9.params.toList (Tryz.f9.params.toList ++ Rows.voyageOptionsSpec.plain.varTypes Tryz.prog ++ Tryz.f9.resultTypes.toList)) = true := by kernel_rfl

set_option maxRecDepth 100000 in
/-- THE GIVEN STATEMENT VoyageOptions. -/
theorem voyageOptions_holds : Rows.VoyageOptionsSaid :=
  OpenClaim.holds_of_wide 9 Tryz.f9 rfl rfl rfl rfl rfl rfl rfl ⟨rfl, rfl, rfl, rfl, rfl⟩ rfl rfl rfl rfl rfl (by kernel_rfl) Tryz.func9
    (joined_of VoyageOptions_fit1 fit_laid fit_rows VoyageOptions_fit2 VoyageOptions_fit3 fit_heard fit_enter VoyageOptions_fit4 VoyageOptions_fit5)
    (of_decide_eq_true (by kernel_rfl)) (by unfold Func.isWrapper; rw [if_neg (of_decide_eq_false (by kernel_rfl))]; exact ⟨rfl, rfl⟩)
    (fun os started H enc _ => VoyageOptions_lifted os started H enc)
#print axioms voyageOptions_holds
end Go.Proofs.YtoilcdgpeilgaaaGreat
