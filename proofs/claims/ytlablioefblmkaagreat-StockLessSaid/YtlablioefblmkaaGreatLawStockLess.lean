/-
  The law StockLess returns true, whatever it is handed, and changes nothing that was there.
-/
import Derived.Test.YtlablioefblmkaaGreatBun30
import Derived.Test.YtlablioefblmkaaGreatBun36
import Derived.BigQuiet
set_option linter.unusedSimpArgs false
set_option linter.unusedVariables false
namespace Go.Proofs.YtlablioefblmkaaGreat
open Go.ChangeShapes Go.WideShapes Go.ChangeAt Go.RowKit Go.Shelf

set_option maxRecDepth 100000 in
set_option maxHeartbeats 20000000 in
theorem StockLess_walk (W : World) (cs0 : Array Value) (x : Sai) (hx0 : saiC W All x cs0.toList) (t : Int) (_ : InI t) :
    Calls Tryz.prog 3 #[.agg cs0, .int .i64 t] W fun e w' => e = .returned (.bool true) ∧ Below W.heap.size W w' := by
  obtain ⟨p, rfl, hS, i1, i2, _, _⟩ := sai_in hx0
  have hCK := fun W h => saiCheck_any x p W h
  obtain ⟨r, hr⟩ : ∃ r, r = saiE x := ⟨_, rfl⟩
  rw [← hr] at hCK
  have HCK := Lib.hid hCK
  clear hCK
  have HR := Lib.hid hr
  clear hr
  have HS := Lib.hid hS
  clear hS
  obtain ⟨A, n, cap, B, m, cap2, D, nd, cd, E, ne, ce, C, nb, cb⟩ := p
  go_enter Tryz.func3, Tryz.ntmps3
  go_upto_region 0 with (fail)
  go_cut [2, 4] (fun q _ wx => ∃ g, q = .pointer (some ⟨g, 0, none⟩) ∧ Blk wx g (saiA x ⟨A, n, cap, B, m, cap2, D, nd, cd, E, ne, ce, C, nb, cb⟩) 32 ∧ Below W.heap.size W wx)
  case first => as_aux_lemma =>
    go_wp2_with fail
    go_meet
    exact ⟨_, rfl, blk1 _ _, bel1 _ _⟩
  obtain ⟨g, rfl, hG, hbw⟩ := hcut
  go_wp2_with fail
  refine (stockBegun_any _).mono ?_
  rintro e w1 ⟨rfl, hb1⟩
  replace hG := hG.bel hb1
  replace hbw := hbw.trans (hb1.mono hbw.size)
  clear hb1
  have s0 : w1.cell? ⟨g, 0, none⟩ = some (.int .i64 x.ship.legs) := hG.cell rfl
  have s1 : w1.cell? ⟨g, 1, none⟩ = some (.int .i64 x.ship.souls) := hG.cell rfl
  have s2 : w1.cell? ⟨g, 2, none⟩ = some (.slice A n cap) := hG.cell rfl
  have s3 : w1.cell? ⟨g, 3, none⟩ = some (.slice B m cap2) := hG.cell rfl
  have s4 : w1.cell? ⟨g, 4, none⟩ = some (.slice D nd cd) := hG.cell rfl
  have s5 : w1.cell? ⟨g, 5, none⟩ = some (.int .i64 x.fares.alone) := hG.cell rfl
  have s6 : w1.cell? ⟨g, 6, none⟩ = some (.int .i64 x.fares.third) := hG.cell rfl
  have s7 : w1.cell? ⟨g, 7, none⟩ = some (.slice E ne ce) := hG.cell rfl
  have s8 : w1.cell? ⟨g, 8, none⟩ = some (.int .i64 x.fares.down) := hG.cell rfl
  have s9 : w1.cell? ⟨g, 9, none⟩ = some (.int .i64 x.day) := hG.cell rfl
  have s10 : w1.cell? ⟨g, 10, none⟩ = some (.int .i64 x.leaves) := hG.cell rfl
  have s11 : w1.cell? ⟨g, 11, none⟩ = some (.slice C nb cb) := hG.cell rfl
  have s12 : w1.cell? ⟨g, 12, none⟩ = some (.bool x.closed) := hG.cell rfl
  have HCALL := Lib.hid (HCK.out w1 (HS.out.bel hbw))
  go_wp2_with fail
  refine HCALL.out.mono ?_
  rintro e w4 ⟨rfl, hb2⟩
  replace hG := hG.bel hb2
  replace hbw := hbw.trans (hb2.mono hbw.size)
  clear hb2 s0 s1 s2 s3 s4 s5 s6 s7 s8 s9 s10 s11 s12 HCALL HCK
  by_cases h0 : r = 0
  rotate_left
  · have h0' : (r != 0) = true := by simpa using h0
    clear h0 hG
    go_wp2_with fail
    go_ret
    exact ⟨rfl, hbw⟩
  have H0 := Lib.hid (HR.out.symm.trans h0)
  have HOK := Lib.hid (sai_ok H0.out)
  subst h0
  have s11 : w4.cell? ⟨g, 11, none⟩ = some (.slice C nb cb) := hG.cell rfl
  have hnbd := HS.out.bks.bd
  simp only at hnbd
  by_cases h1 : t < 0
  · have h1' : decide (t < 0) = true := decide_eq_true h1
    clear h1 hG
    go_wp2_with fail
    go_ret
    exact ⟨rfl, hbw⟩
  have h1' : decide (t < 0) = false := decide_eq_false h1
  by_cases h2 : (nb : Int) ≤ t
  · have h2' : decide ((nb : Int) ≤ t) = true := decide_eq_true h2
    clear h1 h2 hG
    go_wp2_with fail
    go_ret
    exact ⟨rfl, hbw⟩
  obtain ⟨k, rfl⟩ : ∃ k : Nat, t = k := ⟨t.toNat, by omega⟩
  have h2' : decide ((nb : Int) ≤ (k : Int)) = false := decide_eq_false h2
  have hlt : k < nb := by omega
  clear h1 h2
  obtain ⟨W4, hW4⟩ : ∃ V, V = w4 := ⟨_, rfl⟩
  subst hW4
  have hw4 := hbw.size
  have HG := Lib.hid hG
  go_upto_region 5 with (fail)
  go_cut [5] (fun p wx => ∃ y, p = .pointer (some ⟨y, 0, none⟩) ∧ W4.heap.size ≤ y ∧ Blk wx y (saiA x ⟨A, n, cap, B, m, cap2, D, nd, cd, E, ne, ce, C, nb, cb⟩) 32 ∧ Below W4.heap.size W4 wx)
  case first => as_aux_lemma =>
    clear s11 hG
    go_wp2_with (first | (refine wpList_load_row rfl 32 (.tmp 2) rfl g rfl 32 _ (0, 0) _ HG.out Tryz.underlying32 rfl (by kernel_rfl) ?_) | (refine wpList_store_row rfl 32 (.tmp 5) (.tmp 24) rfl W4.heap.size (saiA x ⟨A, n, cap, B, m, cap2, D, nd, cd, E, ne, ce, C, nb, cb⟩) rfl rfl 32 _ (Blk.new W4 #[.int .i64 0, .int .i64 0, .slice none 0 0, .slice none 0 0, .slice none 0 0, .int .i64 0, .int .i64 0, .slice none 0 0, .int .i64 0, .int .i64 0, .int .i64 0, .slice none 0 0, .bool false] 32) (by kernel_rfl) rfl (by simp [Value.oneCell']) ?_))
    go_meet
    exact ⟨_, rfl, Nat.le_refl _, (Blk.new _ _ _).row _, below_setRow (bel1 _ _) (Nat.le_refl _) _⟩
  obtain ⟨y, rfl, hy, hY, hb2⟩ := hcut
  have hgl := hG.lt
  replace hG := hG.bel hb2
  replace hbw := hbw.trans (hb2.mono hbw.size)
  have hyl := hY.lt
  have hyg : ¬ y = g := by omega
  clear hb2 s11 HG
  obtain ⟨W5, hW5⟩ : ∃ V, V = wc := ⟨_, rfl⟩
  subst hW5
  have hSl := (HS.out.bel hbw).bks
  simp only at hSl
  have h16 := HOK.out.bs.len
  rw [hSl.len] at h16
  obtain ⟨ab, off, ⟨id, kind, state, gst, lev, cab, cat, frm, upto, til, fol⟩, A5, n5, c5, hA, hx, hF, hI, hcel⟩ := hSl.bkg hlt
  obtain ⟨L, hLs, hLp⟩ := HS.out.bks.raw bkgC_good
  replace hLs := hLs.bel hbw
  simp only at hA hLs
  subst hA
  have hLl : L.length = nb := hLs.len
  have hle := hSl.le
  have hp1 := hLs.fst (k := k) (by omega)
  have HLP := Lib.hid hLp
  have hwk : IntKind.i64.wrap ((k : Int) + 1) = (k : Int) + 1 := by rw [IntKind.wrap_i64]; omega
  have hk3 : (0 : Int) ≤ (k : Int) + 1 := by omega
  have hk0 : (0 : Int) ≤ (k : Int) := by omega
  have hk1 : (k : Int) < (nb : Int) := by omega
  have hk4 : (k : Int) + 1 ≤ (nb : Int) := by omega
  have hk5 : k ≤ cb := by omega
  have hk6 : k + 1 ≤ cb := by omega
  have hk7 : k + 1 ≤ nb := by omega
  have hk8 : ((k : Int) + 1).toNat = k + 1 := by omega
  have hk9 : (k : Int) ≤ (cb : Int) := by omega
  have hk10 : (k : Int) + 1 ≤ (cb : Int) := by omega
  have hbx : Below W5.heap.size W5 W5.drew := (Below.refl _ W5).drew
  have l11 : W5.cell? ⟨g, 11, none⟩ = some (.slice (some ⟨ab, off, none⟩) nb cb) := hG.cell rfl
  have hby1 : (([] : List (List Value)).length + k) * 104 ≤ 140737488355328 := by simp; omega
  have hbA : Below W5.heap.size W5 (W5.drew.alloc (.cells #[] 42)) := hbx.alloc hbx.size _
  have hownA : Own (rawC 11) 11 42 (W5.drew.alloc (.cells #[] 42)) W5.heap.size (.slice (some ⟨W5.heap.size, 0, none⟩) 0 0) [] [] := Own.empty _ _ (Nat.le_refl _) (blk1 W5 _)
  have hslA := hp1.bel hbA
  have HGG := Lib.hid hG
  clear hG
  have HYY := Lib.hid hY
  clear hY
  have HSL := Lib.hid hSl
  clear hSl
  go_upto_region 6 with (fail)
  go_cut [5] (fun p wx => p = .pointer (some ⟨y, 0, none⟩) ∧ ∃ A6 n6 c6, Blk wx y (saiA (bksS x (lessL x.bks k)) ⟨A, n, cap, B, m, cap2, D, nd, cd, E, ne, ce, A6, n6, c6⟩) 32 ∧ Sl (rawC 11) 11 wx All A6 n6 c6 (L.take k ++ L.drop (k + 1)) ∧ Kept (fun b => b = y) W5 wx)
  case first =>
    by_cases hcap : cb = k + 1
    · obtain rfl : nb = k + 1 := by omega
      subst hcap
      have hd0 : L.drop (k + 1) = [] := List.drop_eq_nil_of_le (by omega)
      have hp2 : ∀ W9 : World, Sl (rawC 11) 11 W9 All (some ⟨ab, off, none⟩) 0 0 [] := fun W9 => ⟨rfl, Nat.le_refl _, by simp [maxLen], fun i x h => by simp at h⟩
      have hby2 : ((L.take k).length + 0) * 104 ≤ 140737488355328 := by rw [List.length_take]; omega
      have HP2 := Lib.hid hp2
      have HD0 := Lib.hid hd0
      have hk11 : (k : Int) ≤ (k : Int) + 1 := by omega
      clear hd0 hp2 hp1 hLs hLp hk4 hk5 hk6 hk7 hLl hle hk9 hk10 hcel
      refine wp_region_held_drew (S := (fun w' => w'.cell? ⟨g, 11, none⟩ = some (.slice (some ⟨ab, off, none⟩) (k + 1) (k + 1)))) (by kernel_rfl) (cellB hbx l11) (fun hHeld => ?_)
      refine wpAnyH_take (i := 1) (oi := ?o_1) (v := ?v_1) ?h_1 (by kernel_rfl) (by kernel_rfl) (by kernel_rfl) ?q_1 (Or.inl ⟨?w_1, ?y_1⟩) (by assumption) ?_
      case h_1 => (simp only [List.getElem?_toArray, List.getElem?_cons_succ, List.getElem?_cons_zero]; rfl)
      case q_1 => exact fun _ _ _ h => h
      case w_1 => rfl
      case y_1 => (intro w hSw; (try dsimp only at hSw); first | (go_simp; done) | (go_simp; with_reducible rfl))
      simp only [Act.put, List.setIfInBounds_toArray, List.set_cons_zero, List.set_cons_succ]
      refine wpAnyH_take (i := 2) (oi := ?o_2) (v := ?v_2) ?h_2 (by kernel_rfl) (by kernel_rfl) (by kernel_rfl) ?q_2 (Or.inl ⟨?w_2, ?y_2⟩) (by assumption) ?_
      case h_2 => (simp only [List.getElem?_toArray, List.getElem?_cons_succ, List.getElem?_cons_zero]; rfl)
      case q_2 => exact fun _ _ _ h => h
      case w_2 => rfl
      case y_2 => (intro w hSw; (try dsimp only at hSw); first | (go_simp; done) | (go_simp; with_reducible rfl))
      simp only [Act.put, List.setIfInBounds_toArray, List.set_cons_zero, List.set_cons_succ]
      refine wpAnyH_take (i := 3) (oi := ?o_3) (v := ?v_3) ?h_3 (by kernel_rfl) (by kernel_rfl) (by kernel_rfl) ?q_3 (Or.inl ⟨?w_3, ?y_3⟩) (by assumption) ?_
      case h_3 => (simp only [List.getElem?_toArray, List.getElem?_cons_succ, List.getElem?_cons_zero]; rfl)
      case q_3 => exact fun _ _ _ h => h
      case w_3 => rfl
      case y_3 => (intro w hSw; (try dsimp only at hSw); first | (go_simp; done) | (go_simp; with_reducible rfl))
      simp only [Act.put, List.setIfInBounds_toArray, List.set_cons_zero, List.set_cons_succ]
      refine wpAnyH_take (i := 4) (oi := ?o_4) (v := ?v_4) ?h_4 (by kernel_rfl) (by kernel_rfl) (by kernel_rfl) ?q_4 (Or.inl ⟨?w_4, ?y_4⟩) (by assumption) ?_
      case h_4 => (simp only [List.getElem?_toArray, List.getElem?_cons_succ, List.getElem?_cons_zero]; rfl)
      case q_4 => exact fun _ _ _ h => h
      case w_4 => rfl
      case y_4 => (intro w hSw; (try dsimp only at hSw); first | (go_simp; done) | (go_simp; with_reducible rfl))
      simp only [Act.put, List.setIfInBounds_toArray, List.set_cons_zero, List.set_cons_succ]
      refine wpAnyH_take (i := 6) (oi := ?o_5) (v := ?v_5) ?h_5 (by kernel_rfl) (by kernel_rfl) (by kernel_rfl) ?q_5 (Or.inl ⟨?w_5, ?y_5⟩) (by assumption) ?_
      case h_5 => (simp only [List.getElem?_toArray, List.getElem?_cons_succ, List.getElem?_cons_zero]; rfl)
      case q_5 => exact fun _ _ _ h => h
      case w_5 => rfl
      case y_5 => (intro w hSw; (try dsimp only at hSw); first | (go_simp; done) | (go_simp; with_reducible rfl))
      simp only [Act.put, List.setIfInBounds_toArray, List.set_cons_zero, List.set_cons_succ]
      refine wpAnyH_take (i := 7) (oi := ?o_6) (v := ?v_6) ?h_6 (by kernel_rfl) (by kernel_rfl) (by kernel_rfl) ?q_6 (Or.inl ⟨?w_6, ?y_6⟩) (by assumption) ?_
      case h_6 => (simp only [List.getElem?_toArray, List.getElem?_cons_succ, List.getElem?_cons_zero]; rfl)
      case q_6 => exact fun _ _ _ h => h
      case w_6 => rfl
      case y_6 => (intro w hSw; (try dsimp only at hSw); first | (go_simp; done) | (go_simp; with_reducible rfl))
      simp only [Act.put, List.setIfInBounds_toArray, List.set_cons_zero, List.set_cons_succ]
      refine wpAnyH_take (i := 8) (oi := ?o_7) (v := ?v_7) ?h_7 (by kernel_rfl) (by kernel_rfl) (by kernel_rfl) ?q_7 (Or.inl ⟨?w_7, ?y_7⟩) (by assumption) ?_
      case h_7 => (simp only [List.getElem?_toArray, List.getElem?_cons_succ, List.getElem?_cons_zero]; rfl)
      case q_7 => exact fun _ _ _ h => h
      case w_7 => rfl
      case y_7 => (intro w hSw; (try dsimp only at hSw); first | (go_simp; done) | (go_simp; with_reducible rfl))
      simp only [Act.put, List.setIfInBounds_toArray, List.set_cons_zero, List.set_cons_succ]
      refine wpAnyH_take (i := 9) (oi := ?o_8) (v := ?v_8) ?h_8 (by kernel_rfl) (by kernel_rfl) (by kernel_rfl) ?q_8 (Or.inl ⟨?w_8, ?y_8⟩) (by assumption) ?_
      case h_8 => (simp only [List.getElem?_toArray, List.getElem?_cons_succ, List.getElem?_cons_zero]; rfl)
      case q_8 => exact fun _ _ _ h => h
      case w_8 => rfl
      case y_8 => (intro w hSw; (try dsimp only at hSw); first | (go_simp; done) | (go_simp; with_reducible rfl))
      simp only [Act.put, List.setIfInBounds_toArray, List.set_cons_zero, List.set_cons_succ]
      refine wpAnyH_take (i := 10) (oi := ?o_9) (v := ?v_9) ?h_9 (by kernel_rfl) (by kernel_rfl) (by kernel_rfl) ?q_9 (Or.inl ⟨?w_9, ?y_9⟩) (by assumption) ?_
      case h_9 => (simp only [List.getElem?_toArray, List.getElem?_cons_succ, List.getElem?_cons_zero]; rfl)
      case q_9 => exact fun _ _ _ h => h
      case w_9 => rfl
      case y_9 => (intro w hSw; (try dsimp only at hSw); first | (go_simp; done) | (go_simp; with_reducible rfl))
      simp only [Act.put, List.setIfInBounds_toArray, List.set_cons_zero, List.set_cons_succ]
      refine wpAnyH_ready (rs := [0]) (by kernel_rfl) (by simp) ?_
      refine AllReadyH.cons (o := ?o_10) ?h_10 (fun K hK => ?_) AllReadyH.nil
      case h_10 => (simp only [List.getElem?_toArray, List.getElem?_cons_zero]; rfl)
      go_simp
      refine hK.out _ _ ?_ (fun hHeld => ?_)
      · exact cellB hbA l11
      clear hK K
      try simp only [Act.put, List.setIfInBounds_toArray, List.set_cons_zero, List.set_cons_succ]
      refine wpAnyH_ready (rs := [5]) (by kernel_rfl) (by simp) ?_
      refine AllReadyH.cons (o := ?o_11) ?h_11 (fun K hK => ?_) AllReadyH.nil
      case h_11 => (simp only [List.getElem?_toArray, List.getElem?_cons_succ, List.getElem?_cons_zero]; rfl)
      (refine step_app (t := 30) (e := 42) (bytes := 104) (base := W5.heap.size) (c := rawC 11) (l := []) (xs := []) (l2 := L.take k) (S := All) rfl (.tmp 25) (.tmp 29) rfl bok_elem (rawC_good 11) rfl rfl hownA hslA (fun _ _ hc => hc) hby1 (by omega) hbA.size ?_; intro v' w' xs' hown' hg' hat'; have hbw5 : Below W5.heap.size W5 w' := below_app hbA hownA hg' hbA.size; clear hownA hslA)
      refine hK.out _ _ ?_ (fun hHeld => ?_)
      · exact cellB hbw5 l11
      clear hK K
      try simp only [Act.put, List.setIfInBounds_toArray, List.set_cons_zero, List.set_cons_succ]
      refine wpAnyH_ready (rs := [11]) (by kernel_rfl) (by simp) ?_
      refine AllReadyH.cons (o := ?o_12) ?h_12 (fun K hK => ?_) AllReadyH.nil
      case h_12 => (simp only [List.getElem?_toArray, List.getElem?_cons_succ, List.getElem?_cons_zero]; rfl)
      (refine step_app (t := 30) (e := 42) (bytes := 104) (base := W5.heap.size) (c := rawC 11) (l := L.take k) (l2 := []) (S := All) rfl (.tmp 30) (.tmp 35) rfl bok_elem (rawC_good 11) rfl rfl hown' (HP2.out _) (fun _ _ hc => hc) hby2 (by omega) hbw5.size ?_; intro v2 w2 xs2 hown2 hg2 hat2; have hbE := below_app hbw5 hown' hg2 hbw5.size; obtain ⟨A8, n8, c8, rfl, hs8⟩ := hown2.sl (rawC_good 11); have hYE := HYY.out.bel hbE; have hGE := HGG.out.bel hbE; have m11 : w2.cell? ⟨y, 11, none⟩ = some (.slice (some ⟨ab, off, none⟩) (k + 1) (k + 1)) := hYE.cell rfl; have mf := hYE.free 11)
      refine hK.out _ _ ?_ (fun hHeld => ?_)
      · exact cellB hbE l11
      clear hK K
      try simp only [Act.put, List.setIfInBounds_toArray, List.set_cons_zero, List.set_cons_succ]
      refine wpAnyH_take (i := 12) (oi := ?o_13) (v := ?v_13) ?h_13 (by kernel_rfl) (by kernel_rfl) (by kernel_rfl) ?q_13 (Or.inl ⟨?w_13, ?y_13⟩) (by assumption) ?_
      case h_13 => (simp only [List.getElem?_toArray, List.getElem?_cons_succ, List.getElem?_cons_zero]; rfl)
      case q_13 => exact fun _ _ _ h => h
      case w_13 => rfl
      case y_13 => (intro w hSw; (try dsimp only at hSw); first | (go_simp; done) | (go_simp; with_reducible rfl))
      simp only [Act.put, List.setIfInBounds_toArray, List.set_cons_zero, List.set_cons_succ]
      refine wpAnyH_ready (rs := [13]) (by kernel_rfl) (by simp) ?_
      refine AllReadyH.cons (o := ?o_14) ?h_14 (fun K hK => ?_) AllReadyH.nil
      case h_14 => (simp only [List.getElem?_toArray, List.getElem?_cons_succ, List.getElem?_cons_zero]; rfl)
      go_simp
      refine hK.out _ _ ?_ (fun hHeld => ?_)
      · exact (hGE.other (p := ⟨y, 11, none⟩) hyg (.slice A8 n8 c8)).cell rfl
      clear hK K
      try simp only [Act.put, List.setIfInBounds_toArray, List.set_cons_zero, List.set_cons_succ]
      have hKy : Kept (fun b => b = y) w2 (w2.setCell ⟨y, 11, none⟩ (.slice A8 n8 c8)) := (Kept.refl (fun b => b = y) w2).setCell (p := ⟨y, 11, none⟩) (.inl rfl) _
      have p1 := hYE.set (j := 11) (.slice A8 n8 c8)
      have p2 := hs8.keep (w' := w2.setCell ⟨y, 11, none⟩ (.slice A8 n8 c8)) (S' := All) (rawC_good 11) (by omega) (fun b hb hlt => ⟨hKy.block b hlt (fun e => by rw [e] at hb; exact absurd hb (by omega)), trivial⟩)
      have p3 := (Kept.of_below (S := fun b => b = y) hbE (fun b hb h2 => absurd h2 (by omega))).trans hKy
      clear m11 mf hKy
      refine wpAnyH_done (by kernel_rfl) ?_ _
      go_wp2_with fail
      go_meet
      exact ⟨rfl, A8, n8, c8, p1, by rw [HD0.out]; exact p2, p3⟩
    · have hp2 := hLs.suf (k := k + 1) (by omega)
      have hby2 : ((L.take k).length + (nb - (k + 1))) * 104 ≤ 140737488355328 := by rw [List.length_take]; omega
      have HP2 := Lib.hid hp2
      have hcap2 : ¬ k + 1 = cb := fun e => hcap e.symm
      clear hp2 hp1 hLs hLp hLl hle hcel
      refine wp_region_held_drew (S := (fun w' => w'.cell? ⟨g, 11, none⟩ = some (.slice (some ⟨ab, off, none⟩) nb cb))) (by kernel_rfl) (cellB hbx l11) (fun hHeld => ?_)
      refine wpAnyH_take (i := 1) (oi := ?o_15) (v := ?v_15) ?h_15 (by kernel_rfl) (by kernel_rfl) (by kernel_rfl) ?q_15 (Or.inl ⟨?w_15, ?y_15⟩) (by assumption) ?_
      case h_15 => (simp only [List.getElem?_toArray, List.getElem?_cons_succ, List.getElem?_cons_zero]; rfl)
      case q_15 => exact fun _ _ _ h => h
      case w_15 => rfl
      case y_15 => (intro w hSw; (try dsimp only at hSw); first | (go_simp; done) | (go_simp; with_reducible rfl))
      simp only [Act.put, List.setIfInBounds_toArray, List.set_cons_zero, List.set_cons_succ]
      refine wpAnyH_take (i := 2) (oi := ?o_16) (v := ?v_16) ?h_16 (by kernel_rfl) (by kernel_rfl) (by kernel_rfl) ?q_16 (Or.inl ⟨?w_16, ?y_16⟩) (by assumption) ?_
      case h_16 => (simp only [List.getElem?_toArray, List.getElem?_cons_succ, List.getElem?_cons_zero]; rfl)
      case q_16 => exact fun _ _ _ h => h
      case w_16 => rfl
      case y_16 => (intro w hSw; (try dsimp only at hSw); first | (go_simp; done) | (go_simp; with_reducible rfl))
      simp only [Act.put, List.setIfInBounds_toArray, List.set_cons_zero, List.set_cons_succ]
      refine wpAnyH_take (i := 3) (oi := ?o_17) (v := ?v_17) ?h_17 (by kernel_rfl) (by kernel_rfl) (by kernel_rfl) ?q_17 (Or.inl ⟨?w_17, ?y_17⟩) (by assumption) ?_
      case h_17 => (simp only [List.getElem?_toArray, List.getElem?_cons_succ, List.getElem?_cons_zero]; rfl)
      case q_17 => exact fun _ _ _ h => h
      case w_17 => rfl
      case y_17 => (intro w hSw; (try dsimp only at hSw); first | (go_simp; done) | (go_simp; with_reducible rfl))
      simp only [Act.put, List.setIfInBounds_toArray, List.set_cons_zero, List.set_cons_succ]
      refine wpAnyH_take (i := 4) (oi := ?o_18) (v := ?v_18) ?h_18 (by kernel_rfl) (by kernel_rfl) (by kernel_rfl) ?q_18 (Or.inl ⟨?w_18, ?y_18⟩) (by assumption) ?_
      case h_18 => (simp only [List.getElem?_toArray, List.getElem?_cons_succ, List.getElem?_cons_zero]; rfl)
      case q_18 => exact fun _ _ _ h => h
      case w_18 => rfl
      case y_18 => (intro w hSw; (try dsimp only at hSw); first | (go_simp; done) | (go_simp; with_reducible rfl))
      simp only [Act.put, List.setIfInBounds_toArray, List.set_cons_zero, List.set_cons_succ]
      refine wpAnyH_take (i := 6) (oi := ?o_19) (v := ?v_19) ?h_19 (by kernel_rfl) (by kernel_rfl) (by kernel_rfl) ?q_19 (Or.inl ⟨?w_19, ?y_19⟩) (by assumption) ?_
      case h_19 => (simp only [List.getElem?_toArray, List.getElem?_cons_succ, List.getElem?_cons_zero]; rfl)
      case q_19 => exact fun _ _ _ h => h
      case w_19 => rfl
      case y_19 => (intro w hSw; (try dsimp only at hSw); first | (go_simp; done) | (go_simp; with_reducible rfl))
      simp only [Act.put, List.setIfInBounds_toArray, List.set_cons_zero, List.set_cons_succ]
      refine wpAnyH_take (i := 7) (oi := ?o_20) (v := ?v_20) ?h_20 (by kernel_rfl) (by kernel_rfl) (by kernel_rfl) ?q_20 (Or.inl ⟨?w_20, ?y_20⟩) (by assumption) ?_
      case h_20 => (simp only [List.getElem?_toArray, List.getElem?_cons_succ, List.getElem?_cons_zero]; rfl)
      case q_20 => exact fun _ _ _ h => h
      case w_20 => rfl
      case y_20 => (intro w hSw; (try dsimp only at hSw); first | (go_simp; done) | (go_simp; with_reducible rfl))
      simp only [Act.put, List.setIfInBounds_toArray, List.set_cons_zero, List.set_cons_succ]
      refine wpAnyH_take (i := 8) (oi := ?o_21) (v := ?v_21) ?h_21 (by kernel_rfl) (by kernel_rfl) (by kernel_rfl) ?q_21 (Or.inl ⟨?w_21, ?y_21⟩) (by assumption) ?_
      case h_21 => (simp only [List.getElem?_toArray, List.getElem?_cons_succ, List.getElem?_cons_zero]; rfl)
      case q_21 => exact fun _ _ _ h => h
      case w_21 => rfl
      case y_21 => (intro w hSw; (try dsimp only at hSw); first | (go_simp; done) | (go_simp; with_reducible rfl))
      simp only [Act.put, List.setIfInBounds_toArray, List.set_cons_zero, List.set_cons_succ]
      refine wpAnyH_take (i := 9) (oi := ?o_22) (v := ?v_22) ?h_22 (by kernel_rfl) (by kernel_rfl) (by kernel_rfl) ?q_22 (Or.inl ⟨?w_22, ?y_22⟩) (by assumption) ?_
      case h_22 => (simp only [List.getElem?_toArray, List.getElem?_cons_succ, List.getElem?_cons_zero]; rfl)
      case q_22 => exact fun _ _ _ h => h
      case w_22 => rfl
      case y_22 => (intro w hSw; (try dsimp only at hSw); first | (go_simp; done) | (go_simp; with_reducible rfl))
      simp only [Act.put, List.setIfInBounds_toArray, List.set_cons_zero, List.set_cons_succ]
      refine wpAnyH_take (i := 10) (oi := ?o_23) (v := ?v_23) ?h_23 (by kernel_rfl) (by kernel_rfl) (by kernel_rfl) ?q_23 (Or.inl ⟨?w_23, ?y_23⟩) (by assumption) ?_
      case h_23 => (simp only [List.getElem?_toArray, List.getElem?_cons_succ, List.getElem?_cons_zero]; rfl)
      case q_23 => exact fun _ _ _ h => h
      case w_23 => rfl
      case y_23 => (intro w hSw; (try dsimp only at hSw); first | (go_simp; done) | (go_simp; with_reducible rfl))
      simp only [Act.put, List.setIfInBounds_toArray, List.set_cons_zero, List.set_cons_succ]
      refine wpAnyH_ready (rs := [0]) (by kernel_rfl) (by simp) ?_
      refine AllReadyH.cons (o := ?o_24) ?h_24 (fun K hK => ?_) AllReadyH.nil
      case h_24 => (simp only [List.getElem?_toArray, List.getElem?_cons_zero]; rfl)
      go_simp
      refine hK.out _ _ ?_ (fun hHeld => ?_)
      · exact cellB hbA l11
      clear hK K
      try simp only [Act.put, List.setIfInBounds_toArray, List.set_cons_zero, List.set_cons_succ]
      refine wpAnyH_ready (rs := [5]) (by kernel_rfl) (by simp) ?_
      refine AllReadyH.cons (o := ?o_25) ?h_25 (fun K hK => ?_) AllReadyH.nil
      case h_25 => (simp only [List.getElem?_toArray, List.getElem?_cons_succ, List.getElem?_cons_zero]; rfl)
      (refine step_app (t := 30) (e := 42) (bytes := 104) (base := W5.heap.size) (c := rawC 11) (l := []) (xs := []) (l2 := L.take k) (S := All) rfl (.tmp 25) (.tmp 29) rfl bok_elem (rawC_good 11) rfl rfl hownA hslA (fun _ _ hc => hc) hby1 (by omega) hbA.size ?_; intro v' w' xs' hown' hg' hat'; have hbw5 : Below W5.heap.size W5 w' := below_app hbA hownA hg' hbA.size; clear hownA hslA)
      refine hK.out _ _ ?_ (fun hHeld => ?_)
      · exact cellB hbw5 l11
      clear hK K
      try simp only [Act.put, List.setIfInBounds_toArray, List.set_cons_zero, List.set_cons_succ]
      refine wpAnyH_ready (rs := [11]) (by kernel_rfl) (by simp) ?_
      refine AllReadyH.cons (o := ?o_26) ?h_26 (fun K hK => ?_) AllReadyH.nil
      case h_26 => (simp only [List.getElem?_toArray, List.getElem?_cons_succ, List.getElem?_cons_zero]; rfl)
      (refine step_app (t := 30) (e := 42) (bytes := 104) (base := W5.heap.size) (c := rawC 11) (l := L.take k) (l2 := L.drop (k + 1)) (S := All) rfl (.tmp 30) (.tmp 35) rfl bok_elem (rawC_good 11) rfl rfl hown' (HP2.out.bel hbw5) (fun _ _ hc => hc) hby2 (by omega) hbw5.size ?_; intro v2 w2 xs2 hown2 hg2 hat2; have hbE := below_app hbw5 hown' hg2 hbw5.size; obtain ⟨A8, n8, c8, rfl, hs8⟩ := hown2.sl (rawC_good 11); have hYE := HYY.out.bel hbE; have hGE := HGG.out.bel hbE; have m11 : w2.cell? ⟨y, 11, none⟩ = some (.slice (some ⟨ab, off, none⟩) nb cb) := hYE.cell rfl; have mf := hYE.free 11)
      refine hK.out _ _ ?_ (fun hHeld => ?_)
      · exact cellB hbE l11
      clear hK K
      try simp only [Act.put, List.setIfInBounds_toArray, List.set_cons_zero, List.set_cons_succ]
      refine wpAnyH_take (i := 12) (oi := ?o_27) (v := ?v_27) ?h_27 (by kernel_rfl) (by kernel_rfl) (by kernel_rfl) ?q_27 (Or.inl ⟨?w_27, ?y_27⟩) (by assumption) ?_
      case h_27 => (simp only [List.getElem?_toArray, List.getElem?_cons_succ, List.getElem?_cons_zero]; rfl)
      case q_27 => exact fun _ _ _ h => h
      case w_27 => rfl
      case y_27 => (intro w hSw; (try dsimp only at hSw); first | (go_simp; done) | (go_simp; with_reducible rfl))
      simp only [Act.put, List.setIfInBounds_toArray, List.set_cons_zero, List.set_cons_succ]
      refine wpAnyH_ready (rs := [13]) (by kernel_rfl) (by simp) ?_
      refine AllReadyH.cons (o := ?o_28) ?h_28 (fun K hK => ?_) AllReadyH.nil
      case h_28 => (simp only [List.getElem?_toArray, List.getElem?_cons_succ, List.getElem?_cons_zero]; rfl)
      go_simp
      refine hK.out _ _ ?_ (fun hHeld => ?_)
      · exact (hGE.other (p := ⟨y, 11, none⟩) hyg (.slice A8 n8 c8)).cell rfl
      clear hK K
      try simp only [Act.put, List.setIfInBounds_toArray, List.set_cons_zero, List.set_cons_succ]
      have hKy : Kept (fun b => b = y) w2 (w2.setCell ⟨y, 11, none⟩ (.slice A8 n8 c8)) := (Kept.refl (fun b => b = y) w2).setCell (p := ⟨y, 11, none⟩) (.inl rfl) _
      have p1 := hYE.set (j := 11) (.slice A8 n8 c8)
      have p2 := hs8.keep (w' := w2.setCell ⟨y, 11, none⟩ (.slice A8 n8 c8)) (S' := All) (rawC_good 11) (by omega) (fun b hb hlt => ⟨hKy.block b hlt (fun e => by rw [e] at hb; exact absurd hb (by omega)), trivial⟩)
      have p3 := (Kept.of_below (S := fun b => b = y) hbE (fun b hb h2 => absurd h2 (by omega))).trans hKy
      clear m11 mf hKy
      refine wpAnyH_done (by kernel_rfl) ?_ _
      go_wp2_with fail
      go_meet
      exact ⟨rfl, A8, n8, c8, p1, p2, p3⟩
  obtain ⟨rfl, A6, n6, c6, hY, hs6, hK⟩ := hcut
  have hwc : Below W.heap.size W wc := hbw.trans (hK.below (B := W.heap.size) hbw.size (fun q hq e => by omega))
  have hL6 : Sl bkgC 11 wc All A6 n6 c6 (lessL x.bks k) := hs6.unraw (((Pts.bel (size := 11) HLP.out hwc).take k).append ((Pts.bel (size := 11) HLP.out hwc).drop (k + 1)))
  have hR6 : SaiR wc (bksS x (lessL x.bks k)) ⟨A, n, cap, B, m, cap2, D, nd, cd, E, ne, ce, A6, n6, c6⟩ := ⟨(HS.out.bel hwc).cats, (HS.out.bel hwc).cabs, (HS.out.bel hwc).fares, hL6⟩
  have hb5 := hx
  have HX := Lib.hid hx
  obtain ⟨ab2, off2, ⟨id', kind', state', gst', lev', cab', cat', frm', upto', til', fol'⟩, A5', n5', c5', hA2, hx2, hF2, hI2, hcel2⟩ := (HS.out.bel hwc).bks.bkg hlt
  simp only [Option.some.injEq, Addr.mk.injEq, and_true] at hA2
  obtain ⟨rfl, rfl⟩ := hA2
  rw [hx] at hx2
  simp only [Option.some.injEq, Bkg.mk.injEq] at hx2
  obtain ⟨rfl, rfl, rfl, rfl, rfl, rfl, rfl, rfl, rfl, rfl, rfl⟩ := hx2
  have hOKL := less_ok H0.out hx
  have hcd := Could_any (bksS x (lessL x.bks k)) ⟨A, n, cap, B, m, cap2, D, nd, cd, E, ne, ce, A6, n6, c6⟩ ⟨id, kind, state, gst, lev, cab, cat, frm, upto, til, fol⟩ A5' n5' c5'
  rw [hOKL.2.1, hOKL.2.2] at hcd
  have hck := saiCheck_any (bksS x (lessL x.bks k)) ⟨A, n, cap, B, m, cap2, D, nd, cd, E, ne, ce, A6, n6, c6⟩
  rw [hOKL.1] at hck
  have HCD := Lib.hid (fun X (hX : Below wc.heap.size wc X) => hcd X (hR6.bel hX) (hF2.bel hX) hI2)
  have HCK := Lib.hid (fun X (hX : Below wc.heap.size wc X) => hck X (hR6.bel hX))
  obtain ⟨W6, hW6⟩ : ∃ V, V = wc := ⟨_, rfl⟩
  subst hW6
  have hG6 := HGG.out.kept hK (by omega)
  have g11 : W6.cell? ⟨g, 11, none⟩ = some (.slice (some ⟨ab, off, none⟩) nb cb) := hG6.cell rfl
  have HS7 := Lib.hid (show ∀ X, Below W6.heap.size W6 X → (fun w' => w'.cell? ⟨g, 11, none⟩ = some (.slice (some ⟨ab, off, none⟩) nb cb) ∧ (w'.cell? ⟨y, 0, none⟩ = some (.int .i64 x.ship.legs) ∧ w'.cell? ⟨y, 1, none⟩ = some (.int .i64 x.ship.souls) ∧ w'.cell? ⟨y, 2, none⟩ = some (.slice A n cap) ∧ w'.cell? ⟨y, 3, none⟩ = some (.slice B m cap2) ∧ w'.cell? ⟨y, 4, none⟩ = some (.slice D nd cd) ∧ w'.cell? ⟨y, 5, none⟩ = some (.int .i64 x.fares.alone) ∧ w'.cell? ⟨y, 6, none⟩ = some (.int .i64 x.fares.third) ∧ w'.cell? ⟨y, 7, none⟩ = some (.slice E ne ce) ∧ w'.cell? ⟨y, 8, none⟩ = some (.int .i64 x.fares.down) ∧ w'.cell? ⟨y, 9, none⟩ = some (.int .i64 x.day) ∧ w'.cell? ⟨y, 10, none⟩ = some (.int .i64 x.leaves) ∧ w'.cell? ⟨y, 11, none⟩ = some (.slice A6 n6 c6) ∧ w'.cell? ⟨y, 12, none⟩ = some (.bool x.closed)) ∧ (w'.cell? ⟨ab, off + k * 11, none⟩ = some (.int .i64 id) ∧ w'.cell? ⟨ab, off + k * 11 + 1, none⟩ = some (.int .i64 kind) ∧ w'.cell? ⟨ab, off + k * 11 + 2, none⟩ = some (.int .i64 state) ∧ w'.cell? ⟨ab, off + k * 11 + 3, none⟩ = some (.int .i64 gst) ∧ w'.cell? ⟨ab, off + k * 11 + 4, none⟩ = some (.bool lev) ∧ w'.cell? ⟨ab, off + k * 11 + 5, none⟩ = some (.int .i64 cab) ∧ w'.cell? ⟨ab, off + k * 11 + 6, none⟩ = some (.int .i64 cat) ∧ w'.cell? ⟨ab, off + k * 11 + 7, none⟩ = some (.int .i64 frm) ∧ w'.cell? ⟨ab, off + k * 11 + 8, none⟩ = some (.int .i64 upto) ∧ w'.cell? ⟨ab, off + k * 11 + 9, none⟩ = some (.int .i64 til) ∧ w'.cell? ⟨ab, off + k * 11 + 10, none⟩ = some (.slice A5' n5' c5'))) X from fun X hX => ⟨cellB hX g11, ⟨(hY.bel hX).cell rfl, (hY.bel hX).cell rfl, (hY.bel hX).cell rfl, (hY.bel hX).cell rfl, (hY.bel hX).cell rfl, (hY.bel hX).cell rfl, (hY.bel hX).cell rfl, (hY.bel hX).cell rfl, (hY.bel hX).cell rfl, (hY.bel hX).cell rfl, (hY.bel hX).cell rfl, (hY.bel hX).cell rfl, (hY.bel hX).cell rfl⟩, cellB hX (hcel2 0 _ rfl), cellB hX (hcel2 1 _ rfl), cellB hX (hcel2 2 _ rfl), cellB hX (hcel2 3 _ rfl), cellB hX (hcel2 4 _ rfl), cellB hX (hcel2 5 _ rfl), cellB hX (hcel2 6 _ rfl), cellB hX (hcel2 7 _ rfl), cellB hX (hcel2 8 _ rfl), cellB hX (hcel2 9 _ rfl), cellB hX (hcel2 10 _ rfl)⟩)
  have HWC := Lib.hid hwc
  clear hwc
  have hbx6 : Below W6.heap.size W6 W6.drew := (Below.refl _ W6).drew
  have hk0' : (0 : Int) ≤ (k : Int) := by omega
  have hk1' : (k : Int) < (nb : Int) := by omega
  clear hbx hbA hownA hslA hK hY hs6 hL6 hR6 hG6 g11 hcel2 hF2 hI2 hcd hck hLs hLp hp1 hwk hk3 hk4 hk5 hk6 hk7 hk8 hk9 hk10 hby1 l11 hcel hb5
  go_upto_region 7 with (fail)
  refine wp_region_held_drew (S := (fun w' => w'.cell? ⟨g, 11, none⟩ = some (.slice (some ⟨ab, off, none⟩) nb cb) ∧ (w'.cell? ⟨y, 0, none⟩ = some (.int .i64 x.ship.legs) ∧ w'.cell? ⟨y, 1, none⟩ = some (.int .i64 x.ship.souls) ∧ w'.cell? ⟨y, 2, none⟩ = some (.slice A n cap) ∧ w'.cell? ⟨y, 3, none⟩ = some (.slice B m cap2) ∧ w'.cell? ⟨y, 4, none⟩ = some (.slice D nd cd) ∧ w'.cell? ⟨y, 5, none⟩ = some (.int .i64 x.fares.alone) ∧ w'.cell? ⟨y, 6, none⟩ = some (.int .i64 x.fares.third) ∧ w'.cell? ⟨y, 7, none⟩ = some (.slice E ne ce) ∧ w'.cell? ⟨y, 8, none⟩ = some (.int .i64 x.fares.down) ∧ w'.cell? ⟨y, 9, none⟩ = some (.int .i64 x.day) ∧ w'.cell? ⟨y, 10, none⟩ = some (.int .i64 x.leaves) ∧ w'.cell? ⟨y, 11, none⟩ = some (.slice A6 n6 c6) ∧ w'.cell? ⟨y, 12, none⟩ = some (.bool x.closed)) ∧ (w'.cell? ⟨ab, off + k * 11, none⟩ = some (.int .i64 id) ∧ w'.cell? ⟨ab, off + k * 11 + 1, none⟩ = some (.int .i64 kind) ∧ w'.cell? ⟨ab, off + k * 11 + 2, none⟩ = some (.int .i64 state) ∧ w'.cell? ⟨ab, off + k * 11 + 3, none⟩ = some (.int .i64 gst) ∧ w'.cell? ⟨ab, off + k * 11 + 4, none⟩ = some (.bool lev) ∧ w'.cell? ⟨ab, off + k * 11 + 5, none⟩ = some (.int .i64 cab) ∧ w'.cell? ⟨ab, off + k * 11 + 6, none⟩ = some (.int .i64 cat) ∧ w'.cell? ⟨ab, off + k * 11 + 7, none⟩ = some (.int .i64 frm) ∧ w'.cell? ⟨ab, off + k * 11 + 8, none⟩ = some (.int .i64 upto) ∧ w'.cell? ⟨ab, off + k * 11 + 9, none⟩ = some (.int .i64 til) ∧ w'.cell? ⟨ab, off + k * 11 + 10, none⟩ = some (.slice A5' n5' c5')))) (by kernel_rfl) (HS7.out _ hbx6) (fun hHeld => ?_)
  refine wpAnyH_take (i := 0) (oi := ?o_29) (v := ?v_29) ?h_29 (by kernel_rfl) (by kernel_rfl) (by kernel_rfl) ?q_29 (Or.inl ⟨?w_29, ?y_29⟩) (by assumption) ?_
  case h_29 => (simp only [List.getElem?_toArray, List.getElem?_cons_zero]; rfl)
  case q_29 => exact fun _ _ _ h => h
  case w_29 => rfl
  case y_29 => (intro w hSw; (try dsimp only at hSw); first | (go_simp; done) | (go_simp; with_reducible rfl))
  simp only [Act.put, List.setIfInBounds_toArray, List.set_cons_zero, List.set_cons_succ]
  refine wpAnyH_take (i := 1) (oi := ?o_30) (v := ?v_30) ?h_30 (by kernel_rfl) (by kernel_rfl) (by kernel_rfl) ?q_30 (Or.inl ⟨?w_30, ?y_30⟩) (by assumption) ?_
  case h_30 => (simp only [List.getElem?_toArray, List.getElem?_cons_succ, List.getElem?_cons_zero]; rfl)
  case q_30 => exact fun _ _ _ h => h
  case w_30 => rfl
  case y_30 => (intro w hSw; (try dsimp only at hSw); first | (go_simp; done) | (go_simp; with_reducible rfl))
  simp only [Act.put, List.setIfInBounds_toArray, List.set_cons_zero, List.set_cons_succ]
  refine wpAnyH_take (i := 2) (oi := ?o_31) (v := ?v_31) ?h_31 (by kernel_rfl) (by kernel_rfl) (by kernel_rfl) ?q_31 (Or.inl ⟨?w_31, ?y_31⟩) (by assumption) ?_
  case h_31 => (simp only [List.getElem?_toArray, List.getElem?_cons_succ, List.getElem?_cons_zero]; rfl)
  case q_31 => exact fun _ _ _ h => h
  case w_31 => rfl
  case y_31 => (intro w hSw; (try dsimp only at hSw); first | (go_simp; done) | (go_simp; with_reducible rfl))
  simp only [Act.put, List.setIfInBounds_toArray, List.set_cons_zero, List.set_cons_succ]
  refine wpAnyH_take (i := 3) (oi := ?o_32) (v := ?v_32) ?h_32 (by kernel_rfl) (by kernel_rfl) (by kernel_rfl) ?q_32 (Or.inl ⟨?w_32, ?y_32⟩) (by assumption) ?_
  case h_32 => (simp only [List.getElem?_toArray, List.getElem?_cons_succ, List.getElem?_cons_zero]; rfl)
  case q_32 => exact fun _ _ _ h => h
  case w_32 => rfl
  case y_32 => (intro w hSw; (try dsimp only at hSw); first | (go_simp; done) | (go_simp; with_reducible rfl))
  simp only [Act.put, List.setIfInBounds_toArray, List.set_cons_zero, List.set_cons_succ]
  refine wpAnyH_take (i := 4) (oi := ?o_33) (v := ?v_33) ?h_33 (by kernel_rfl) (by kernel_rfl) (by kernel_rfl) ?q_33 (Or.inl ⟨?w_33, ?y_33⟩) (by assumption) ?_
  case h_33 => (simp only [List.getElem?_toArray, List.getElem?_cons_succ, List.getElem?_cons_zero]; rfl)
  case q_33 => exact fun _ _ _ h => h
  case w_33 => rfl
  case y_33 => (intro w hSw; (try dsimp only at hSw); first | (go_simp; done) | (go_simp; with_reducible rfl))
  simp only [Act.put, List.setIfInBounds_toArray, List.set_cons_zero, List.set_cons_succ]
  refine wpAnyH_take (i := 5) (oi := ?o_34) (v := ?v_34) ?h_34 (by kernel_rfl) (by kernel_rfl) (by kernel_rfl) ?q_34 (Or.inl ⟨?w_34, ?y_34⟩) (by assumption) ?_
  case h_34 => (simp only [List.getElem?_toArray, List.getElem?_cons_succ, List.getElem?_cons_zero]; rfl)
  case q_34 => exact fun _ _ _ h => h
  case w_34 => rfl
  case y_34 => (intro w hSw; (try dsimp only at hSw); first | (go_simp; done) | (go_simp; with_reducible rfl))
  simp only [Act.put, List.setIfInBounds_toArray, List.set_cons_zero, List.set_cons_succ]
  refine wpAnyH_ready (rs := [6]) (by kernel_rfl) (by simp) ?_
  refine AllReadyH.cons (o := ?o_35) ?h_35 (fun K hK => ?_) AllReadyH.nil
  case h_35 => (simp only [List.getElem?_toArray, List.getElem?_cons_succ, List.getElem?_cons_zero]; rfl)
  go_simp
  (go_at_call 14; refine (HCD.out _ hbx6).mono ?_; rintro e w8 ⟨rfl, hb8⟩; replace hbx6 := hbx6.trans (hb8.mono hbx6.size); clear hb8)
  go_wp2_with fail
  refine hK.out _ _ ?_ (fun hHeld => ?_)
  · exact HS7.out _ hbx6
  clear hK K
  try simp only [Act.put, List.setIfInBounds_toArray, List.set_cons_zero, List.set_cons_succ]
  refine wpAnyH_take (i := 7) (oi := ?o_36) (v := ?v_36) ?h_36 (by kernel_rfl) (by kernel_rfl) (by kernel_rfl) ?q_36 (Or.inl ⟨?w_36, ?y_36⟩) (by assumption) ?_
  case h_36 => (simp only [List.getElem?_toArray, List.getElem?_cons_succ, List.getElem?_cons_zero]; rfl)
  case q_36 => exact fun _ _ _ h => h
  case w_36 => rfl
  case y_36 => (intro w hSw; (try dsimp only at hSw); first | (go_simp; done) | (go_simp; with_reducible rfl))
  simp only [Act.put, List.setIfInBounds_toArray, List.set_cons_zero, List.set_cons_succ]
  refine wpAnyH_take (i := 8) (oi := ?o_37) (v := ?v_37) ?h_37 (by kernel_rfl) (by kernel_rfl) (by kernel_rfl) ?q_37 (Or.inl ⟨?w_37, ?y_37⟩) (by assumption) ?_
  case h_37 => (simp only [List.getElem?_toArray, List.getElem?_cons_succ, List.getElem?_cons_zero]; rfl)
  case q_37 => exact fun _ _ _ h => h
  case w_37 => rfl
  case y_37 => (intro w hSw; (try dsimp only at hSw); first | (go_simp; done) | (go_simp; with_reducible rfl))
  simp only [Act.put, List.setIfInBounds_toArray, List.set_cons_zero, List.set_cons_succ]
  refine wpAnyH_take (i := 9) (oi := ?o_38) (v := ?v_38) ?h_38 (by kernel_rfl) (by kernel_rfl) (by kernel_rfl) ?q_38 (Or.inl ⟨?w_38, ?y_38⟩) (by assumption) ?_
  case h_38 => (simp only [List.getElem?_toArray, List.getElem?_cons_succ, List.getElem?_cons_zero]; rfl)
  case q_38 => exact fun _ _ _ h => h
  case w_38 => rfl
  case y_38 => (intro w hSw; (try dsimp only at hSw); first | (go_simp; done) | (go_simp; with_reducible rfl))
  simp only [Act.put, List.setIfInBounds_toArray, List.set_cons_zero, List.set_cons_succ]
  refine wpAnyH_take (i := 10) (oi := ?o_39) (v := ?v_39) ?h_39 (by kernel_rfl) (by kernel_rfl) (by kernel_rfl) ?q_39 (Or.inl ⟨?w_39, ?y_39⟩) (by assumption) ?_
  case h_39 => (simp only [List.getElem?_toArray, List.getElem?_cons_succ, List.getElem?_cons_zero]; rfl)
  case q_39 => exact fun _ _ _ h => h
  case w_39 => rfl
  case y_39 => (intro w hSw; (try dsimp only at hSw); first | (go_simp; done) | (go_simp; with_reducible rfl))
  simp only [Act.put, List.setIfInBounds_toArray, List.set_cons_zero, List.set_cons_succ]
  refine wpAnyH_take (i := 11) (oi := ?o_40) (v := ?v_40) ?h_40 (by kernel_rfl) (by kernel_rfl) (by kernel_rfl) ?q_40 (Or.inl ⟨?w_40, ?y_40⟩) (by assumption) ?_
  case h_40 => (simp only [List.getElem?_toArray, List.getElem?_cons_succ, List.getElem?_cons_zero]; rfl)
  case q_40 => exact fun _ _ _ h => h
  case w_40 => rfl
  case y_40 => (intro w hSw; (try dsimp only at hSw); first | (go_simp; done) | (go_simp; with_reducible rfl))
  simp only [Act.put, List.setIfInBounds_toArray, List.set_cons_zero, List.set_cons_succ]
  refine wpAnyH_done (by kernel_rfl) ?_ _
  have HCALL := Lib.hid (HCK.out _ hbx6)
  have hbE := HWC.out.trans (hbx6.mono HWC.out.size)
  go_wp2_with fail
  refine HCALL.out.mono ?_
  rintro e w9 ⟨rfl, hb9⟩
  go_wp2_with fail
  go_ret
  exact ⟨rfl, hbE.trans (hb9.mono hbE.size)⟩
set_option maxRecDepth 100000 in
theorem StockLess_lifted (os : Os) (started : os.Started) (H : Type) (enc : TypeId × Value → H) :
    ReturnsInHanded {} Tryz.checked os 3 .any (Rows.stockLessSpec.pre6 enc Tryz.prog Tryz.f3 Rows.stockLessRow.domain false) (Rows.stockLessSpec.post enc Tryz.prog Tryz.f3 false true false false) := by
  refine returnsInHanded_of_change (C := Tryz.checked) own started (by kernel_rfl) Tryz.func3
    (ChangeSpec.witness6 (enc := enc) (C := Tryz.checked) false ⟨#[], #[.agg #[.int .i64 0, .int .i64 0, .slice none 0 0, .slice none 0 0, .slice none 0 0, .int .i64 0, .int .i64 0, .slice none 0 0, .int .i64 0, .int .i64 0, .int .i64 0, .slice none 0 0, .bool false], .int .i64 0], []⟩ 8 (by kernel_rfl) (by kernel_rfl) (by kernel_rfl) (by kernel_rfl)) ?_
  intro W base args ds gs before hval0 hW hcnd _
  have hval : ∀ (j : Nat) t v, Tryz.f3.params[j]? = some t → args[j]? = some v → Value.okWide Tryz.prog W .any base t v := hval0
  have hW' := hW
  obtain ⟨p, q, hA0, hV, rfl, hfz, hnd⟩ := hW
  have hA : DataW.TrodAll enc Tryz.prog W 0 (fun _ => true) true Tryz.f3.params.toList args.toList ds p := hA0
  rw [Tryz.params3] at hA hval
  obtain ⟨v0, vs0, d0, ds0, p0, q0, hargs, rfl, rfl, h0, r0⟩ := trodAll_cons hA
  obtain ⟨v1, vs1, d1, ds1, p1, q1, rfl, rfl, rfl, h1, r1⟩ := trodAll_cons r0
  obtain ⟨rfl, rfl, rfl⟩ := trodAll_nil r1
  obtain rfl : args = #[v0, v1] := by cases args; simp_all
  obtain ⟨rfl, rfl⟩ := trodVars_none hV
  have lt0 := arg_lt h0
  have k0 := h0
  obtain ⟨cs0, a0, rfl, w0⟩ := arg_agg (c := saiC) Tryz.underlying32 opens_saiC (hval 0 32 v0 rfl rfl) h0
  have lt1 := arg_lt h1
  have k1 := h1
  obtain ⟨a1, rfl, w1⟩ := arg_int Tryz.underlying3 (hval 1 3 v1 rfl rfl) h1
  clear hA0 hval0
  refine (StockLess_walk W cs0 a0 w0 a1 w1).mono fun e W' ⟨he, bel⟩ => ?_
  subst he
  exact ⟨_, rfl, _, _, _, [], _, [], hW', trodAll_mk1 (shut_bool Tryz.underlying4 _), (trodAll_cons_mk (Below.trod laidOut (by kernel_rfl) (of_decide_eq_true (by kernel_rfl)) k0 bel lt0) (trodAll_cons_mk (Below.trod laidOut (by kernel_rfl) (of_decide_eq_true (by kernel_rfl)) k1 bel lt1) trodAll_mk0)), rfl, bel.frame _, fun h => by cases h⟩

/-- THE GIVEN STATEMENT StockLess. -/
theorem stockLess_holds : Rows.StockLessSaid :=
  OpenClaim.holds_of_wide 3 Tryz.f3 rfl rfl rfl rfl rfl rfl rfl ⟨rfl, rfl, rfl, rfl, rfl⟩ rfl rfl rfl rfl rfl (by kernel_rfl) Tryz.func3 (by kernel_rfl)
    (of_decide_eq_true (by kernel_rfl)) (by unfold Func.isWrapper; rw [if_neg (of_decide_eq_false (by kernel_rfl))]; exact ⟨rfl, rfl⟩)
    (fun os started H enc _ => StockLess_lifted os started H enc)
#print axioms stockLess_holds
end Go.Proofs.YtlablioefblmkaaGreat
