/-
  The law BookGone returns true, whatever it is handed, and changes nothing that was there.
-/
import Derived.Test.YtlablioefblmkaaBun10
import Derived.BigQuiet
/-
  The law BookGone returns true, whatever it is handed, and changes nothing that was there.
-/
namespace Go.Proofs.Ytlablioefblmkaa
open Go.ChangeShapes Go.WideShapes Go.ChangeAt Go.RowKit Go.Shelf

theorem bkg_elem : ElemOf Try.prog 31 30 11 104 := .mk' Try.underlying31 (z := .agg #[.int .i64 0, .int .i64 0, .int .i64 0, .int .i64 0, .bool false, .int .i64 0, .int .i64 0, .int .i64 0, .int .i64 0, .int .i64 0, .slice none 0 0]) (by kernel_rfl) rfl (by omega)
set_option maxRecDepth 100000 in
set_option maxHeartbeats 20000000 in
theorem BookGone_walk (W : World) (cs0 : Array Value) (x : Shp) (hx0 : shpC W All x cs0.toList) (C : Option Addr) (nb cb : Nat) (l : List Bkg) (hl : Sl bkgC 11 W All C nb cb l) (hn : nb ≤ 1353245080300) (nn : Int) (_ : InI nn) (c : Int) (_ : InI c) :
    Calls Try.prog 4 #[.agg cs0, .slice C nb cb, .int .i64 nn, .int .i64 c] W fun e w' => e = .returned (.bool true) ∧ Below W.heap.size W w' := by
  obtain ⟨A, n, cap, B, m, cap2, hcs0, hc, hd, _, _⟩ := hx0
  obtain rfl : cs0 = #[.int .i64 x.legs, .int .i64 x.souls, .slice A n cap, .slice B m cap2] := by cases cs0; simp_all
  clear hcs0
  have HSP := Lib.hid (fun C nb cb l W h1 h2 h3 h4 => Spans_any x A n cap B m cap2 C nb cb l c W h1 h2 h3 h4)
  have HSO := Lib.hid (fun C nb cb l W h1 h2 h3 h4 => Souls_any x A n cap B m cap2 C nb cb l W h1 h2 h3 h4)
  have HCK := Lib.hid (fun b A3 n3 c3 W h1 h2 h3 => bookCheck_any x A n cap B m cap2 b A3 n3 c3 W h1 h2 h3)
  have HC := Lib.hid hc
  have HD := Lib.hid hd
  have HL := Lib.hid hl
  have hbd := hl.bd
  have HNB := Lib.hid (show nb ≤ 2000000000000 by omega)
  clear hc hd hl
  go_enter Try.func4, Try.ntmps4
  go_upto_region 0 with (fail)
  go_cut [4, 8] (fun p _ wx => ∃ g, p = .pointer (some ⟨g, 0, none⟩) ∧ Blk wx g #[.int .i64 x.legs, .int .i64 x.souls, .slice A n cap, .slice B m cap2] 25 ∧ Below W.heap.size W wx)
  case first => as_aux_lemma =>
    go_wp2_with fail
    go_meet
    exact ⟨_, rfl, blk1 _ _, bel1 _ _⟩
  obtain ⟨g, rfl, hG, hb⟩ := hcut
  go_wp2_with fail
  refine (bookBegun_any _).mono ?_
  rintro e w1 ⟨rfl, hb1⟩
  replace hG := hG.bel hb1
  replace hb := hb.trans (hb1.mono hb.size)
  clear hb1
  by_cases h1 : nn < 0
  · have HB := Lib.hid hb
    have hd1 : decide (nn < 0) = true := decide_eq_true h1
    clear hG hb
    go_upto_region 3 with (fail)
    refine wp_region_held_drew (S := (fun _ => True)) (by kernel_rfl) (trivial) (fun hHeld => ?_)
    refine wpAnyH_take (i := 0) (oi := ?o_1) (v := ?v_1) ?h_1 (by kernel_rfl) (by kernel_rfl) (by kernel_rfl) ?q_1 (Or.inl ⟨?w_1, ?y_1⟩) (by assumption) ?_
    case h_1 => (simp only [List.getElem?_toArray, List.getElem?_cons_zero]; rfl)
    case q_1 => exact fun _ _ _ h => h
    case w_1 => rfl
    case y_1 => (intro w hSw; (try dsimp only at hSw); first | (go_simp; done) | (go_simp; with_reducible rfl))
    simp only [Act.put, List.setIfInBounds_toArray, List.set_cons_zero, List.set_cons_succ]
    refine wpAnyH_take (i := 1) (oi := ?o_2) (v := ?v_2) ?h_2 (by kernel_rfl) (by kernel_rfl) (by kernel_rfl) ?q_2 (Or.inl ⟨?w_2, ?y_2⟩) (by assumption) ?_
    case h_2 => (simp only [List.getElem?_toArray, List.getElem?_cons_succ, List.getElem?_cons_zero]; rfl)
    case q_2 => exact fun _ _ _ h => h
    case w_2 => rfl
    case y_2 => (intro w hSw; (try dsimp only at hSw); first | (go_simp; done) | (go_simp; with_reducible rfl))
    simp only [Act.put, List.setIfInBounds_toArray, List.set_cons_zero, List.set_cons_succ]
    refine wpAnyH_take (i := 2) (oi := ?o_3) (v := ?v_3) ?h_3 (by kernel_rfl) (by kernel_rfl) (by kernel_rfl) ?q_3 (Or.inl ⟨?w_3, ?y_3⟩) (by assumption) ?_
    case h_3 => (simp only [List.getElem?_toArray, List.getElem?_cons_succ, List.getElem?_cons_zero]; rfl)
    case q_3 => exact fun _ _ _ h => h
    case w_3 => rfl
    case y_3 => (intro w hSw; (try dsimp only at hSw); first | (go_simp; done) | (go_simp; with_reducible rfl))
    simp only [Act.put, List.setIfInBounds_toArray, List.set_cons_zero, List.set_cons_succ]
    refine wpAnyH_take (i := 3) (oi := ?o_4) (v := undef) ?h_4 (by kernel_rfl) (by kernel_rfl) (by kernel_rfl) ?q_4 (Or.inr ⟨?w_4, rfl⟩) (by assumption) ?_
    case h_4 => (simp only [List.getElem?_toArray, List.getElem?_cons_succ, List.getElem?_cons_zero]; rfl)
    case q_4 => exact fun _ _ _ h => h
    case w_4 => rfl
    simp only [Act.put, List.setIfInBounds_toArray, List.set_cons_zero, List.set_cons_succ]
    refine wpAnyH_take (i := 4) (oi := ?o_5) (v := undef) ?h_5 (by kernel_rfl) (by kernel_rfl) (by kernel_rfl) ?q_5 (Or.inr ⟨?w_5, rfl⟩) (by assumption) ?_
    case h_5 => (simp only [List.getElem?_toArray, List.getElem?_cons_succ, List.getElem?_cons_zero]; rfl)
    case q_5 => exact fun _ _ _ h => h
    case w_5 => rfl
    simp only [Act.put, List.setIfInBounds_toArray, List.set_cons_zero, List.set_cons_succ]
    refine wpAnyH_take (i := 5) (oi := ?o_6) (v := undef) ?h_6 (by kernel_rfl) (by kernel_rfl) (by kernel_rfl) ?q_6 (Or.inr ⟨?w_6, rfl⟩) (by assumption) ?_
    case h_6 => (simp only [List.getElem?_toArray, List.getElem?_cons_succ, List.getElem?_cons_zero]; rfl)
    case q_6 => exact fun _ _ _ h => h
    case w_6 => rfl
    simp only [Act.put, List.setIfInBounds_toArray, List.set_cons_zero, List.set_cons_succ]
    refine wpAnyH_take (i := 6) (oi := ?o_7) (v := undef) ?h_7 (by kernel_rfl) (by kernel_rfl) (by kernel_rfl) ?q_7 (Or.inr ⟨?w_7, rfl⟩) (by assumption) ?_
    case h_7 => (simp only [List.getElem?_toArray, List.getElem?_cons_succ, List.getElem?_cons_zero]; rfl)
    case q_7 => exact fun _ _ _ h => h
    case w_7 => rfl
    simp only [Act.put, List.setIfInBounds_toArray, List.set_cons_zero, List.set_cons_succ]
    refine wpAnyH_take (i := 7) (oi := ?o_8) (v := ?v_8) ?h_8 (by kernel_rfl) (by kernel_rfl) (by kernel_rfl) ?q_8 (Or.inl ⟨?w_8, ?y_8⟩) (by assumption) ?_
    case h_8 => (simp only [List.getElem?_toArray, List.getElem?_cons_succ, List.getElem?_cons_zero]; rfl)
    case q_8 => exact fun _ _ _ h => h
    case w_8 => rfl
    case y_8 => (intro w hSw; (try dsimp only at hSw); first | (go_simp; done) | (go_simp; with_reducible rfl))
    simp only [Act.put, List.setIfInBounds_toArray, List.set_cons_zero, List.set_cons_succ]
    refine wpAnyH_take (i := 8) (oi := ?o_9) (v := ?v_9) ?h_9 (by kernel_rfl) (by kernel_rfl) (by kernel_rfl) ?q_9 (Or.inl ⟨?w_9, ?y_9⟩) (by assumption) ?_
    case h_9 => (simp only [List.getElem?_toArray, List.getElem?_cons_succ, List.getElem?_cons_zero]; rfl)
    case q_9 => exact fun _ _ _ h => h
    case w_9 => rfl
    case y_9 => (intro w hSw; (try dsimp only at hSw); first | (go_simp; done) | (go_simp; with_reducible rfl))
    simp only [Act.put, List.setIfInBounds_toArray, List.set_cons_zero, List.set_cons_succ]
    refine wpAnyH_take (i := 9) (oi := ?o_10) (v := undef) ?h_10 (by kernel_rfl) (by kernel_rfl) (by kernel_rfl) ?q_10 (Or.inr ⟨?w_10, rfl⟩) (by assumption) ?_
    case h_10 => (simp only [List.getElem?_toArray, List.getElem?_cons_succ, List.getElem?_cons_zero]; rfl)
    case q_10 => exact fun _ _ _ h => h
    case w_10 => rfl
    simp only [Act.put, List.setIfInBounds_toArray, List.set_cons_zero, List.set_cons_succ]
    refine wpAnyH_take (i := 10) (oi := ?o_11) (v := undef) ?h_11 (by kernel_rfl) (by kernel_rfl) (by kernel_rfl) ?q_11 (Or.inr ⟨?w_11, rfl⟩) (by assumption) ?_
    case h_11 => (simp only [List.getElem?_toArray, List.getElem?_cons_succ, List.getElem?_cons_zero]; rfl)
    case q_11 => exact fun _ _ _ h => h
    case w_11 => rfl
    simp only [Act.put, List.setIfInBounds_toArray, List.set_cons_zero, List.set_cons_succ]
    refine wpAnyH_take (i := 11) (oi := ?o_12) (v := undef) ?h_12 (by kernel_rfl) (by kernel_rfl) (by kernel_rfl) ?q_12 (Or.inr ⟨?w_12, rfl⟩) (by assumption) ?_
    case h_12 => (simp only [List.getElem?_toArray, List.getElem?_cons_succ, List.getElem?_cons_zero]; rfl)
    case q_12 => exact fun _ _ _ h => h
    case w_12 => rfl
    simp only [Act.put, List.setIfInBounds_toArray, List.set_cons_zero, List.set_cons_succ]
    refine wpAnyH_take (i := 12) (oi := ?o_13) (v := undef) ?h_13 (by kernel_rfl) (by kernel_rfl) (by kernel_rfl) ?q_13 (Or.inr ⟨?w_13, rfl⟩) (by assumption) ?_
    case h_13 => (simp only [List.getElem?_toArray, List.getElem?_cons_succ, List.getElem?_cons_zero]; rfl)
    case q_13 => exact fun _ _ _ h => h
    case w_13 => rfl
    simp only [Act.put, List.setIfInBounds_toArray, List.set_cons_zero, List.set_cons_succ]
    refine wpAnyH_take (i := 13) (oi := ?o_14) (v := undef) ?h_14 (by kernel_rfl) (by kernel_rfl) (by kernel_rfl) ?q_14 (Or.inr ⟨?w_14, rfl⟩) (by assumption) ?_
    case h_14 => (simp only [List.getElem?_toArray, List.getElem?_cons_succ, List.getElem?_cons_zero]; rfl)
    case q_14 => exact fun _ _ _ h => h
    case w_14 => rfl
    simp only [Act.put, List.setIfInBounds_toArray, List.set_cons_zero, List.set_cons_succ]
    refine wpAnyH_take (i := 14) (oi := ?o_15) (v := undef) ?h_15 (by kernel_rfl) (by kernel_rfl) (by kernel_rfl) ?q_15 (Or.inr ⟨?w_15, rfl⟩) (by assumption) ?_
    case h_15 => (simp only [List.getElem?_toArray, List.getElem?_cons_succ, List.getElem?_cons_zero]; rfl)
    case q_15 => exact fun _ _ _ h => h
    case w_15 => rfl
    simp only [Act.put, List.setIfInBounds_toArray, List.set_cons_zero, List.set_cons_succ]
    refine wpAnyH_take (i := 15) (oi := ?o_16) (v := ?v_16) ?h_16 (by kernel_rfl) (by kernel_rfl) (by kernel_rfl) ?q_16 (Or.inl ⟨?w_16, ?y_16⟩) (by assumption) ?_
    case h_16 => (simp only [List.getElem?_toArray, List.getElem?_cons_succ, List.getElem?_cons_zero]; rfl)
    case q_16 => exact fun _ _ _ h => h
    case w_16 => rfl
    case y_16 => (intro w hSw; (try dsimp only at hSw); first | (go_simp; done) | (go_simp; with_reducible rfl))
    simp only [Act.put, List.setIfInBounds_toArray, List.set_cons_zero, List.set_cons_succ]
    refine wpAnyH_take (i := 16) (oi := ?o_17) (v := ?v_17) ?h_17 (by kernel_rfl) (by kernel_rfl) (by kernel_rfl) ?q_17 (Or.inl ⟨?w_17, ?y_17⟩) (by assumption) ?_
    case h_17 => (simp only [List.getElem?_toArray, List.getElem?_cons_succ, List.getElem?_cons_zero]; rfl)
    case q_17 => exact fun _ _ _ h => h
    case w_17 => rfl
    case y_17 => (intro w hSw; (try dsimp only at hSw); first | (go_simp; done) | (go_simp; with_reducible rfl))
    simp only [Act.put, List.setIfInBounds_toArray, List.set_cons_zero, List.set_cons_succ]
    refine wpAnyH_take (i := 17) (oi := ?o_18) (v := undef) ?h_18 (by kernel_rfl) (by kernel_rfl) (by kernel_rfl) ?q_18 (Or.inr ⟨?w_18, rfl⟩) (by assumption) ?_
    case h_18 => (simp only [List.getElem?_toArray, List.getElem?_cons_succ, List.getElem?_cons_zero]; rfl)
    case q_18 => exact fun _ _ _ h => h
    case w_18 => rfl
    simp only [Act.put, List.setIfInBounds_toArray, List.set_cons_zero, List.set_cons_succ]
    refine wpAnyH_take (i := 18) (oi := ?o_19) (v := undef) ?h_19 (by kernel_rfl) (by kernel_rfl) (by kernel_rfl) ?q_19 (Or.inr ⟨?w_19, rfl⟩) (by assumption) ?_
    case h_19 => (simp only [List.getElem?_toArray, List.getElem?_cons_succ, List.getElem?_cons_zero]; rfl)
    case q_19 => exact fun _ _ _ h => h
    case w_19 => rfl
    simp only [Act.put, List.setIfInBounds_toArray, List.set_cons_zero, List.set_cons_succ]
    refine wpAnyH_take (i := 19) (oi := ?o_20) (v := undef) ?h_20 (by kernel_rfl) (by kernel_rfl) (by kernel_rfl) ?q_20 (Or.inr ⟨?w_20, rfl⟩) (by assumption) ?_
    case h_20 => (simp only [List.getElem?_toArray, List.getElem?_cons_succ, List.getElem?_cons_zero]; rfl)
    case q_20 => exact fun _ _ _ h => h
    case w_20 => rfl
    simp only [Act.put, List.setIfInBounds_toArray, List.set_cons_zero, List.set_cons_succ]
    refine wpAnyH_take (i := 20) (oi := ?o_21) (v := undef) ?h_21 (by kernel_rfl) (by kernel_rfl) (by kernel_rfl) ?q_21 (Or.inr ⟨?w_21, rfl⟩) (by assumption) ?_
    case h_21 => (simp only [List.getElem?_toArray, List.getElem?_cons_succ, List.getElem?_cons_zero]; rfl)
    case q_21 => exact fun _ _ _ h => h
    case w_21 => rfl
    simp only [Act.put, List.setIfInBounds_toArray, List.set_cons_zero, List.set_cons_succ]
    refine wpAnyH_take (i := 21) (oi := ?o_22) (v := undef) ?h_22 (by kernel_rfl) (by kernel_rfl) (by kernel_rfl) ?q_22 (Or.inr ⟨?w_22, rfl⟩) (by assumption) ?_
    case h_22 => (simp only [List.getElem?_toArray, List.getElem?_cons_succ, List.getElem?_cons_zero]; rfl)
    case q_22 => exact fun _ _ _ h => h
    case w_22 => rfl
    simp only [Act.put, List.setIfInBounds_toArray, List.set_cons_zero, List.set_cons_succ]
    refine wpAnyH_take (i := 22) (oi := ?o_23) (v := undef) ?h_23 (by kernel_rfl) (by kernel_rfl) (by kernel_rfl) ?q_23 (Or.inr ⟨?w_23, rfl⟩) (by assumption) ?_
    case h_23 => (simp only [List.getElem?_toArray, List.getElem?_cons_succ, List.getElem?_cons_zero]; rfl)
    case q_23 => exact fun _ _ _ h => h
    case w_23 => rfl
    simp only [Act.put, List.setIfInBounds_toArray, List.set_cons_zero, List.set_cons_succ]
    refine wpAnyH_take (i := 23) (oi := ?o_24) (v := undef) ?h_24 (by kernel_rfl) (by kernel_rfl) (by kernel_rfl) ?q_24 (Or.inr ⟨?w_24, rfl⟩) (by assumption) ?_
    case h_24 => (simp only [List.getElem?_toArray, List.getElem?_cons_succ, List.getElem?_cons_zero]; rfl)
    case q_24 => exact fun _ _ _ h => h
    case w_24 => rfl
    simp only [Act.put, List.setIfInBounds_toArray, List.set_cons_zero, List.set_cons_succ]
    refine wpAnyH_take (i := 24) (oi := ?o_25) (v := ?v_25) ?h_25 (by kernel_rfl) (by kernel_rfl) (by kernel_rfl) ?q_25 (Or.inl ⟨?w_25, ?y_25⟩) (by assumption) ?_
    case h_25 => (simp only [List.getElem?_toArray, List.getElem?_cons_succ, List.getElem?_cons_zero]; rfl)
    case q_25 => exact fun _ _ _ h => h
    case w_25 => rfl
    case y_25 => (intro w hSw; (try dsimp only at hSw); first | (go_simp; done) | (go_simp; with_reducible rfl))
    simp only [Act.put, List.setIfInBounds_toArray, List.set_cons_zero, List.set_cons_succ]
    refine wpAnyH_done (by kernel_rfl) ?_ _
    go_wp2_with fail
    go_ret
    exact ⟨rfl, by first | exact HB.out | exact below_drewN HB.out _ | exact HB.out.drew⟩
  by_cases h2 : (nb : Int) ≤ nn
  · have HB := Lib.hid hb
    have hd1 : decide (nn < 0) = false := decide_eq_false h1
    have hd2 : decide ((nb : Int) ≤ nn) = true := decide_eq_true h2
    clear hG hb
    go_upto_region 3 with (fail)
    refine wp_region_held_drew (S := (fun _ => True)) (by kernel_rfl) (trivial) (fun hHeld => ?_)
    refine wpAnyH_take (i := 0) (oi := ?o_26) (v := ?v_26) ?h_26 (by kernel_rfl) (by kernel_rfl) (by kernel_rfl) ?q_26 (Or.inl ⟨?w_26, ?y_26⟩) (by assumption) ?_
    case h_26 => (simp only [List.getElem?_toArray, List.getElem?_cons_zero]; rfl)
    case q_26 => exact fun _ _ _ h => h
    case w_26 => rfl
    case y_26 => (intro w hSw; (try dsimp only at hSw); first | (go_simp; done) | (go_simp; with_reducible rfl))
    simp only [Act.put, List.setIfInBounds_toArray, List.set_cons_zero, List.set_cons_succ]
    refine wpAnyH_take (i := 1) (oi := ?o_27) (v := ?v_27) ?h_27 (by kernel_rfl) (by kernel_rfl) (by kernel_rfl) ?q_27 (Or.inl ⟨?w_27, ?y_27⟩) (by assumption) ?_
    case h_27 => (simp only [List.getElem?_toArray, List.getElem?_cons_succ, List.getElem?_cons_zero]; rfl)
    case q_27 => exact fun _ _ _ h => h
    case w_27 => rfl
    case y_27 => (intro w hSw; (try dsimp only at hSw); first | (go_simp; done) | (go_simp; with_reducible rfl))
    simp only [Act.put, List.setIfInBounds_toArray, List.set_cons_zero, List.set_cons_succ]
    refine wpAnyH_take (i := 2) (oi := ?o_28) (v := ?v_28) ?h_28 (by kernel_rfl) (by kernel_rfl) (by kernel_rfl) ?q_28 (Or.inl ⟨?w_28, ?y_28⟩) (by assumption) ?_
    case h_28 => (simp only [List.getElem?_toArray, List.getElem?_cons_succ, List.getElem?_cons_zero]; rfl)
    case q_28 => exact fun _ _ _ h => h
    case w_28 => rfl
    case y_28 => (intro w hSw; (try dsimp only at hSw); first | (go_simp; done) | (go_simp; with_reducible rfl))
    simp only [Act.put, List.setIfInBounds_toArray, List.set_cons_zero, List.set_cons_succ]
    refine wpAnyH_take (i := 3) (oi := ?o_29) (v := ?v_29) ?h_29 (by kernel_rfl) (by kernel_rfl) (by kernel_rfl) ?q_29 (Or.inl ⟨?w_29, ?y_29⟩) (by assumption) ?_
    case h_29 => (simp only [List.getElem?_toArray, List.getElem?_cons_succ, List.getElem?_cons_zero]; rfl)
    case q_29 => exact fun _ _ _ h => h
    case w_29 => rfl
    case y_29 => (intro w hSw; (try dsimp only at hSw); first | (go_simp; done) | (go_simp; with_reducible rfl))
    simp only [Act.put, List.setIfInBounds_toArray, List.set_cons_zero, List.set_cons_succ]
    refine wpAnyH_take (i := 4) (oi := ?o_30) (v := ?v_30) ?h_30 (by kernel_rfl) (by kernel_rfl) (by kernel_rfl) ?q_30 (Or.inl ⟨?w_30, ?y_30⟩) (by assumption) ?_
    case h_30 => (simp only [List.getElem?_toArray, List.getElem?_cons_succ, List.getElem?_cons_zero]; rfl)
    case q_30 => exact fun _ _ _ h => h
    case w_30 => rfl
    case y_30 => (intro w hSw; (try dsimp only at hSw); first | (go_simp; done) | (go_simp; with_reducible rfl))
    simp only [Act.put, List.setIfInBounds_toArray, List.set_cons_zero, List.set_cons_succ]
    refine wpAnyH_take (i := 5) (oi := ?o_31) (v := ?v_31) ?h_31 (by kernel_rfl) (by kernel_rfl) (by kernel_rfl) ?q_31 (Or.inl ⟨?w_31, ?y_31⟩) (by assumption) ?_
    case h_31 => (simp only [List.getElem?_toArray, List.getElem?_cons_succ, List.getElem?_cons_zero]; rfl)
    case q_31 => exact fun _ _ _ h => h
    case w_31 => rfl
    case y_31 => (intro w hSw; (try dsimp only at hSw); first | (go_simp; done) | (go_simp; with_reducible rfl))
    simp only [Act.put, List.setIfInBounds_toArray, List.set_cons_zero, List.set_cons_succ]
    refine wpAnyH_take (i := 6) (oi := ?o_32) (v := ?v_32) ?h_32 (by kernel_rfl) (by kernel_rfl) (by kernel_rfl) ?q_32 (Or.inl ⟨?w_32, ?y_32⟩) (by assumption) ?_
    case h_32 => (simp only [List.getElem?_toArray, List.getElem?_cons_succ, List.getElem?_cons_zero]; rfl)
    case q_32 => exact fun _ _ _ h => h
    case w_32 => rfl
    case y_32 => (intro w hSw; (try dsimp only at hSw); first | (go_simp; done) | (go_simp; with_reducible rfl))
    simp only [Act.put, List.setIfInBounds_toArray, List.set_cons_zero, List.set_cons_succ]
    refine wpAnyH_take (i := 7) (oi := ?o_33) (v := ?v_33) ?h_33 (by kernel_rfl) (by kernel_rfl) (by kernel_rfl) ?q_33 (Or.inl ⟨?w_33, ?y_33⟩) (by assumption) ?_
    case h_33 => (simp only [List.getElem?_toArray, List.getElem?_cons_succ, List.getElem?_cons_zero]; rfl)
    case q_33 => exact fun _ _ _ h => h
    case w_33 => rfl
    case y_33 => (intro w hSw; (try dsimp only at hSw); first | (go_simp; done) | (go_simp; with_reducible rfl))
    simp only [Act.put, List.setIfInBounds_toArray, List.set_cons_zero, List.set_cons_succ]
    refine wpAnyH_take (i := 8) (oi := ?o_34) (v := ?v_34) ?h_34 (by kernel_rfl) (by kernel_rfl) (by kernel_rfl) ?q_34 (Or.inl ⟨?w_34, ?y_34⟩) (by assumption) ?_
    case h_34 => (simp only [List.getElem?_toArray, List.getElem?_cons_succ, List.getElem?_cons_zero]; rfl)
    case q_34 => exact fun _ _ _ h => h
    case w_34 => rfl
    case y_34 => (intro w hSw; (try dsimp only at hSw); first | (go_simp; done) | (go_simp; with_reducible rfl))
    simp only [Act.put, List.setIfInBounds_toArray, List.set_cons_zero, List.set_cons_succ]
    refine wpAnyH_take (i := 9) (oi := ?o_35) (v := undef) ?h_35 (by kernel_rfl) (by kernel_rfl) (by kernel_rfl) ?q_35 (Or.inr ⟨?w_35, rfl⟩) (by assumption) ?_
    case h_35 => (simp only [List.getElem?_toArray, List.getElem?_cons_succ, List.getElem?_cons_zero]; rfl)
    case q_35 => exact fun _ _ _ h => h
    case w_35 => rfl
    simp only [Act.put, List.setIfInBounds_toArray, List.set_cons_zero, List.set_cons_succ]
    refine wpAnyH_take (i := 10) (oi := ?o_36) (v := undef) ?h_36 (by kernel_rfl) (by kernel_rfl) (by kernel_rfl) ?q_36 (Or.inr ⟨?w_36, rfl⟩) (by assumption) ?_
    case h_36 => (simp only [List.getElem?_toArray, List.getElem?_cons_succ, List.getElem?_cons_zero]; rfl)
    case q_36 => exact fun _ _ _ h => h
    case w_36 => rfl
    simp only [Act.put, List.setIfInBounds_toArray, List.set_cons_zero, List.set_cons_succ]
    refine wpAnyH_take (i := 11) (oi := ?o_37) (v := undef) ?h_37 (by kernel_rfl) (by kernel_rfl) (by kernel_rfl) ?q_37 (Or.inr ⟨?w_37, rfl⟩) (by assumption) ?_
    case h_37 => (simp only [List.getElem?_toArray, List.getElem?_cons_succ, List.getElem?_cons_zero]; rfl)
    case q_37 => exact fun _ _ _ h => h
    case w_37 => rfl
    simp only [Act.put, List.setIfInBounds_toArray, List.set_cons_zero, List.set_cons_succ]
    refine wpAnyH_take (i := 12) (oi := ?o_38) (v := undef) ?h_38 (by kernel_rfl) (by kernel_rfl) (by kernel_rfl) ?q_38 (Or.inr ⟨?w_38, rfl⟩) (by assumption) ?_
    case h_38 => (simp only [List.getElem?_toArray, List.getElem?_cons_succ, List.getElem?_cons_zero]; rfl)
    case q_38 => exact fun _ _ _ h => h
    case w_38 => rfl
    simp only [Act.put, List.setIfInBounds_toArray, List.set_cons_zero, List.set_cons_succ]
    refine wpAnyH_take (i := 13) (oi := ?o_39) (v := undef) ?h_39 (by kernel_rfl) (by kernel_rfl) (by kernel_rfl) ?q_39 (Or.inr ⟨?w_39, rfl⟩) (by assumption) ?_
    case h_39 => (simp only [List.getElem?_toArray, List.getElem?_cons_succ, List.getElem?_cons_zero]; rfl)
    case q_39 => exact fun _ _ _ h => h
    case w_39 => rfl
    simp only [Act.put, List.setIfInBounds_toArray, List.set_cons_zero, List.set_cons_succ]
    refine wpAnyH_take (i := 14) (oi := ?o_40) (v := undef) ?h_40 (by kernel_rfl) (by kernel_rfl) (by kernel_rfl) ?q_40 (Or.inr ⟨?w_40, rfl⟩) (by assumption) ?_
    case h_40 => (simp only [List.getElem?_toArray, List.getElem?_cons_succ, List.getElem?_cons_zero]; rfl)
    case q_40 => exact fun _ _ _ h => h
    case w_40 => rfl
    simp only [Act.put, List.setIfInBounds_toArray, List.set_cons_zero, List.set_cons_succ]
    refine wpAnyH_take (i := 15) (oi := ?o_41) (v := ?v_41) ?h_41 (by kernel_rfl) (by kernel_rfl) (by kernel_rfl) ?q_41 (Or.inl ⟨?w_41, ?y_41⟩) (by assumption) ?_
    case h_41 => (simp only [List.getElem?_toArray, List.getElem?_cons_succ, List.getElem?_cons_zero]; rfl)
    case q_41 => exact fun _ _ _ h => h
    case w_41 => rfl
    case y_41 => (intro w hSw; (try dsimp only at hSw); first | (go_simp; done) | (go_simp; with_reducible rfl))
    simp only [Act.put, List.setIfInBounds_toArray, List.set_cons_zero, List.set_cons_succ]
    refine wpAnyH_take (i := 16) (oi := ?o_42) (v := ?v_42) ?h_42 (by kernel_rfl) (by kernel_rfl) (by kernel_rfl) ?q_42 (Or.inl ⟨?w_42, ?y_42⟩) (by assumption) ?_
    case h_42 => (simp only [List.getElem?_toArray, List.getElem?_cons_succ, List.getElem?_cons_zero]; rfl)
    case q_42 => exact fun _ _ _ h => h
    case w_42 => rfl
    case y_42 => (intro w hSw; (try dsimp only at hSw); first | (go_simp; done) | (go_simp; with_reducible rfl))
    simp only [Act.put, List.setIfInBounds_toArray, List.set_cons_zero, List.set_cons_succ]
    refine wpAnyH_take (i := 17) (oi := ?o_43) (v := undef) ?h_43 (by kernel_rfl) (by kernel_rfl) (by kernel_rfl) ?q_43 (Or.inr ⟨?w_43, rfl⟩) (by assumption) ?_
    case h_43 => (simp only [List.getElem?_toArray, List.getElem?_cons_succ, List.getElem?_cons_zero]; rfl)
    case q_43 => exact fun _ _ _ h => h
    case w_43 => rfl
    simp only [Act.put, List.setIfInBounds_toArray, List.set_cons_zero, List.set_cons_succ]
    refine wpAnyH_take (i := 18) (oi := ?o_44) (v := undef) ?h_44 (by kernel_rfl) (by kernel_rfl) (by kernel_rfl) ?q_44 (Or.inr ⟨?w_44, rfl⟩) (by assumption) ?_
    case h_44 => (simp only [List.getElem?_toArray, List.getElem?_cons_succ, List.getElem?_cons_zero]; rfl)
    case q_44 => exact fun _ _ _ h => h
    case w_44 => rfl
    simp only [Act.put, List.setIfInBounds_toArray, List.set_cons_zero, List.set_cons_succ]
    refine wpAnyH_take (i := 19) (oi := ?o_45) (v := undef) ?h_45 (by kernel_rfl) (by kernel_rfl) (by kernel_rfl) ?q_45 (Or.inr ⟨?w_45, rfl⟩) (by assumption) ?_
    case h_45 => (simp only [List.getElem?_toArray, List.getElem?_cons_succ, List.getElem?_cons_zero]; rfl)
    case q_45 => exact fun _ _ _ h => h
    case w_45 => rfl
    simp only [Act.put, List.setIfInBounds_toArray, List.set_cons_zero, List.set_cons_succ]
    refine wpAnyH_take (i := 20) (oi := ?o_46) (v := undef) ?h_46 (by kernel_rfl) (by kernel_rfl) (by kernel_rfl) ?q_46 (Or.inr ⟨?w_46, rfl⟩) (by assumption) ?_
    case h_46 => (simp only [List.getElem?_toArray, List.getElem?_cons_succ, List.getElem?_cons_zero]; rfl)
    case q_46 => exact fun _ _ _ h => h
    case w_46 => rfl
    simp only [Act.put, List.setIfInBounds_toArray, List.set_cons_zero, List.set_cons_succ]
    refine wpAnyH_take (i := 21) (oi := ?o_47) (v := undef) ?h_47 (by kernel_rfl) (by kernel_rfl) (by kernel_rfl) ?q_47 (Or.inr ⟨?w_47, rfl⟩) (by assumption) ?_
    case h_47 => (simp only [List.getElem?_toArray, List.getElem?_cons_succ, List.getElem?_cons_zero]; rfl)
    case q_47 => exact fun _ _ _ h => h
    case w_47 => rfl
    simp only [Act.put, List.setIfInBounds_toArray, List.set_cons_zero, List.set_cons_succ]
    refine wpAnyH_take (i := 22) (oi := ?o_48) (v := undef) ?h_48 (by kernel_rfl) (by kernel_rfl) (by kernel_rfl) ?q_48 (Or.inr ⟨?w_48, rfl⟩) (by assumption) ?_
    case h_48 => (simp only [List.getElem?_toArray, List.getElem?_cons_succ, List.getElem?_cons_zero]; rfl)
    case q_48 => exact fun _ _ _ h => h
    case w_48 => rfl
    simp only [Act.put, List.setIfInBounds_toArray, List.set_cons_zero, List.set_cons_succ]
    refine wpAnyH_take (i := 23) (oi := ?o_49) (v := undef) ?h_49 (by kernel_rfl) (by kernel_rfl) (by kernel_rfl) ?q_49 (Or.inr ⟨?w_49, rfl⟩) (by assumption) ?_
    case h_49 => (simp only [List.getElem?_toArray, List.getElem?_cons_succ, List.getElem?_cons_zero]; rfl)
    case q_49 => exact fun _ _ _ h => h
    case w_49 => rfl
    simp only [Act.put, List.setIfInBounds_toArray, List.set_cons_zero, List.set_cons_succ]
    refine wpAnyH_take (i := 24) (oi := ?o_50) (v := ?v_50) ?h_50 (by kernel_rfl) (by kernel_rfl) (by kernel_rfl) ?q_50 (Or.inl ⟨?w_50, ?y_50⟩) (by assumption) ?_
    case h_50 => (simp only [List.getElem?_toArray, List.getElem?_cons_succ, List.getElem?_cons_zero]; rfl)
    case q_50 => exact fun _ _ _ h => h
    case w_50 => rfl
    case y_50 => (intro w hSw; (try dsimp only at hSw); first | (go_simp; done) | (go_simp; with_reducible rfl))
    simp only [Act.put, List.setIfInBounds_toArray, List.set_cons_zero, List.set_cons_succ]
    refine wpAnyH_done (by kernel_rfl) ?_ _
    go_wp2_with fail
    go_ret
    exact ⟨rfl, by first | exact HB.out | exact below_drewN HB.out _ | exact HB.out.drew⟩
  obtain ⟨k, rfl⟩ : ∃ k : Nat, nn = k := ⟨nn.toNat, by omega⟩
  have hlt : k < nb := by omega
  have hk0 : (0 : Int) ≤ (k : Int) := Int.natCast_nonneg _
  have hk1 : (k : Int) < (nb : Int) := by omega
  obtain ⟨ab, off, ⟨id, kind, state, gst, lev, cab, cat, frm, upto, til, fol⟩, A3, n3, c3, hA, hx, hF, hI, hcel⟩ := (HL.out.bel hb).bkg hlt
  subst hA
  simp only at hF
  have y0 : w1.cell? ⟨ab, off + k * 11, none⟩ = some (.int .i64 id) := hcel 0 _ rfl
  have y1 : w1.cell? ⟨ab, off + k * 11 + 1, none⟩ = some (.int .i64 kind) := hcel 1 _ rfl
  have y2 : w1.cell? ⟨ab, off + k * 11 + 2, none⟩ = some (.int .i64 state) := hcel 2 _ rfl
  have y3 : w1.cell? ⟨ab, off + k * 11 + 3, none⟩ = some (.int .i64 gst) := hcel 3 _ rfl
  have y4 : w1.cell? ⟨ab, off + k * 11 + 4, none⟩ = some (.bool lev) := hcel 4 _ rfl
  have y5 : w1.cell? ⟨ab, off + k * 11 + 5, none⟩ = some (.int .i64 cab) := hcel 5 _ rfl
  have y6 : w1.cell? ⟨ab, off + k * 11 + 6, none⟩ = some (.int .i64 cat) := hcel 6 _ rfl
  have y7 : w1.cell? ⟨ab, off + k * 11 + 7, none⟩ = some (.int .i64 frm) := hcel 7 _ rfl
  have y8 : w1.cell? ⟨ab, off + k * 11 + 8, none⟩ = some (.int .i64 upto) := hcel 8 _ rfl
  have y9 : w1.cell? ⟨ab, off + k * 11 + 9, none⟩ = some (.int .i64 til) := hcel 9 _ rfl
  have y10 : w1.cell? ⟨ab, off + k * 11 + 10, none⟩ = some (.slice A3 n3 c3) := hcel 10 _ rfl
  clear hcel
  by_cases h3 : state = 3
  rotate_left
  · have h3' : (state != 3) = true := by simpa using h3
    have HB := Lib.hid hb
    have hq1 : decide ((k : Int) < 0) = false := decide_eq_false (by omega)
    have hq2 : decide (nb ≤ k) = false := decide_eq_false (by omega)
    have HY2 := Lib.hid (show ∀ X, Below w1.heap.size w1 X → (fun w' => w'.cell? ⟨ab, off + k * 11 + 2, none⟩ = some (.int .i64 state)) X from fun X hX => cellB hX y2)
    have hbx : Below w1.heap.size w1 w1.drew := (Below.refl _ _).drew
    clear hG hb h3 hx hF hI y0 y1 y2 y3 y4 y5 y6 y7 y8 y9 y10
    go_upto_region 3 with (fail)
    refine wp_region_held_drew (S := (fun w' => w'.cell? ⟨ab, off + k * 11 + 2, none⟩ = some (.int .i64 state))) (by kernel_rfl) (HY2.out _ hbx) (fun hHeld => ?_)
    refine wpAnyH_take (i := 0) (oi := ?o_51) (v := ?v_51) ?h_51 (by kernel_rfl) (by kernel_rfl) (by kernel_rfl) ?q_51 (Or.inl ⟨?w_51, ?y_51⟩) (by assumption) ?_
    case h_51 => (simp only [List.getElem?_toArray, List.getElem?_cons_zero]; rfl)
    case q_51 => exact fun _ _ _ h => h
    case w_51 => rfl
    case y_51 => (intro w hSw; (try dsimp only at hSw); first | (go_simp; done) | (go_simp; with_reducible rfl))
    simp only [Act.put, List.setIfInBounds_toArray, List.set_cons_zero, List.set_cons_succ]
    refine wpAnyH_take (i := 1) (oi := ?o_52) (v := ?v_52) ?h_52 (by kernel_rfl) (by kernel_rfl) (by kernel_rfl) ?q_52 (Or.inl ⟨?w_52, ?y_52⟩) (by assumption) ?_
    case h_52 => (simp only [List.getElem?_toArray, List.getElem?_cons_succ, List.getElem?_cons_zero]; rfl)
    case q_52 => exact fun _ _ _ h => h
    case w_52 => rfl
    case y_52 => (intro w hSw; (try dsimp only at hSw); first | (go_simp; done) | (go_simp; with_reducible rfl))
    simp only [Act.put, List.setIfInBounds_toArray, List.set_cons_zero, List.set_cons_succ]
    refine wpAnyH_take (i := 2) (oi := ?o_53) (v := ?v_53) ?h_53 (by kernel_rfl) (by kernel_rfl) (by kernel_rfl) ?q_53 (Or.inl ⟨?w_53, ?y_53⟩) (by assumption) ?_
    case h_53 => (simp only [List.getElem?_toArray, List.getElem?_cons_succ, List.getElem?_cons_zero]; rfl)
    case q_53 => exact fun _ _ _ h => h
    case w_53 => rfl
    case y_53 => (intro w hSw; (try dsimp only at hSw); first | (go_simp; done) | (go_simp; with_reducible rfl))
    simp only [Act.put, List.setIfInBounds_toArray, List.set_cons_zero, List.set_cons_succ]
    refine wpAnyH_take (i := 3) (oi := ?o_54) (v := ?v_54) ?h_54 (by kernel_rfl) (by kernel_rfl) (by kernel_rfl) ?q_54 (Or.inl ⟨?w_54, ?y_54⟩) (by assumption) ?_
    case h_54 => (simp only [List.getElem?_toArray, List.getElem?_cons_succ, List.getElem?_cons_zero]; rfl)
    case q_54 => exact fun _ _ _ h => h
    case w_54 => rfl
    case y_54 => (intro w hSw; (try dsimp only at hSw); first | (go_simp; done) | (go_simp; with_reducible rfl))
    simp only [Act.put, List.setIfInBounds_toArray, List.set_cons_zero, List.set_cons_succ]
    refine wpAnyH_take (i := 4) (oi := ?o_55) (v := ?v_55) ?h_55 (by kernel_rfl) (by kernel_rfl) (by kernel_rfl) ?q_55 (Or.inl ⟨?w_55, ?y_55⟩) (by assumption) ?_
    case h_55 => (simp only [List.getElem?_toArray, List.getElem?_cons_succ, List.getElem?_cons_zero]; rfl)
    case q_55 => exact fun _ _ _ h => h
    case w_55 => rfl
    case y_55 => (intro w hSw; (try dsimp only at hSw); first | (go_simp; done) | (go_simp; with_reducible rfl))
    simp only [Act.put, List.setIfInBounds_toArray, List.set_cons_zero, List.set_cons_succ]
    refine wpAnyH_take (i := 5) (oi := ?o_56) (v := ?v_56) ?h_56 (by kernel_rfl) (by kernel_rfl) (by kernel_rfl) ?q_56 (Or.inl ⟨?w_56, ?y_56⟩) (by assumption) ?_
    case h_56 => (simp only [List.getElem?_toArray, List.getElem?_cons_succ, List.getElem?_cons_zero]; rfl)
    case q_56 => exact fun _ _ _ h => h
    case w_56 => rfl
    case y_56 => (intro w hSw; (try dsimp only at hSw); first | (go_simp; done) | (go_simp; with_reducible rfl))
    simp only [Act.put, List.setIfInBounds_toArray, List.set_cons_zero, List.set_cons_succ]
    refine wpAnyH_take (i := 6) (oi := ?o_57) (v := ?v_57) ?h_57 (by kernel_rfl) (by kernel_rfl) (by kernel_rfl) ?q_57 (Or.inl ⟨?w_57, ?y_57⟩) (by assumption) ?_
    case h_57 => (simp only [List.getElem?_toArray, List.getElem?_cons_succ, List.getElem?_cons_zero]; rfl)
    case q_57 => exact fun _ _ _ h => h
    case w_57 => rfl
    case y_57 => (intro w hSw; (try dsimp only at hSw); first | (go_simp; done) | (go_simp; with_reducible rfl))
    simp only [Act.put, List.setIfInBounds_toArray, List.set_cons_zero, List.set_cons_succ]
    refine wpAnyH_take (i := 7) (oi := ?o_58) (v := ?v_58) ?h_58 (by kernel_rfl) (by kernel_rfl) (by kernel_rfl) ?q_58 (Or.inl ⟨?w_58, ?y_58⟩) (by assumption) ?_
    case h_58 => (simp only [List.getElem?_toArray, List.getElem?_cons_succ, List.getElem?_cons_zero]; rfl)
    case q_58 => exact fun _ _ _ h => h
    case w_58 => rfl
    case y_58 => (intro w hSw; (try dsimp only at hSw); first | (go_simp; done) | (go_simp; with_reducible rfl))
    simp only [Act.put, List.setIfInBounds_toArray, List.set_cons_zero, List.set_cons_succ]
    refine wpAnyH_take (i := 8) (oi := ?o_59) (v := ?v_59) ?h_59 (by kernel_rfl) (by kernel_rfl) (by kernel_rfl) ?q_59 (Or.inl ⟨?w_59, ?y_59⟩) (by assumption) ?_
    case h_59 => (simp only [List.getElem?_toArray, List.getElem?_cons_succ, List.getElem?_cons_zero]; rfl)
    case q_59 => exact fun _ _ _ h => h
    case w_59 => rfl
    case y_59 => (intro w hSw; (try dsimp only at hSw); first | (go_simp; done) | (go_simp; with_reducible rfl))
    simp only [Act.put, List.setIfInBounds_toArray, List.set_cons_zero, List.set_cons_succ]
    refine wpAnyH_take (i := 9) (oi := ?o_60) (v := ?v_60) ?h_60 (by kernel_rfl) (by kernel_rfl) (by kernel_rfl) ?q_60 (Or.inl ⟨?w_60, ?y_60⟩) (by assumption) ?_
    case h_60 => (simp only [List.getElem?_toArray, List.getElem?_cons_succ, List.getElem?_cons_zero]; rfl)
    case q_60 => exact fun _ _ _ h => h
    case w_60 => rfl
    case y_60 => (intro w hSw; (try dsimp only at hSw); first | (go_simp; done) | (go_simp; with_reducible rfl))
    simp only [Act.put, List.setIfInBounds_toArray, List.set_cons_zero, List.set_cons_succ]
    refine wpAnyH_take (i := 10) (oi := ?o_61) (v := ?v_61) ?h_61 (by kernel_rfl) (by kernel_rfl) (by kernel_rfl) ?q_61 (Or.inl ⟨?w_61, ?y_61⟩) (by assumption) ?_
    case h_61 => (simp only [List.getElem?_toArray, List.getElem?_cons_succ, List.getElem?_cons_zero]; rfl)
    case q_61 => exact fun _ _ _ h => h
    case w_61 => rfl
    case y_61 => (intro w hSw; (try dsimp only at hSw); first | (go_simp; done) | (go_simp; with_reducible rfl))
    simp only [Act.put, List.setIfInBounds_toArray, List.set_cons_zero, List.set_cons_succ]
    refine wpAnyH_take (i := 11) (oi := ?o_62) (v := ?v_62) ?h_62 (by kernel_rfl) (by kernel_rfl) (by kernel_rfl) ?q_62 (Or.inl ⟨?w_62, ?y_62⟩) (by assumption) ?_
    case h_62 => (simp only [List.getElem?_toArray, List.getElem?_cons_succ, List.getElem?_cons_zero]; rfl)
    case q_62 => exact fun _ _ _ h => h
    case w_62 => rfl
    case y_62 => (intro w hSw; (try dsimp only at hSw); first | (go_simp; done) | (go_simp; with_reducible rfl))
    simp only [Act.put, List.setIfInBounds_toArray, List.set_cons_zero, List.set_cons_succ]
    refine wpAnyH_take (i := 12) (oi := ?o_63) (v := ?v_63) ?h_63 (by kernel_rfl) (by kernel_rfl) (by kernel_rfl) ?q_63 (Or.inl ⟨?w_63, ?y_63⟩) (by assumption) ?_
    case h_63 => (simp only [List.getElem?_toArray, List.getElem?_cons_succ, List.getElem?_cons_zero]; rfl)
    case q_63 => exact fun _ _ _ h => h
    case w_63 => rfl
    case y_63 => (intro w hSw; (try dsimp only at hSw); first | (go_simp; done) | (go_simp; with_reducible rfl))
    simp only [Act.put, List.setIfInBounds_toArray, List.set_cons_zero, List.set_cons_succ]
    refine wpAnyH_take (i := 13) (oi := ?o_64) (v := ?v_64) ?h_64 (by kernel_rfl) (by kernel_rfl) (by kernel_rfl) ?q_64 (Or.inl ⟨?w_64, ?y_64⟩) (by assumption) ?_
    case h_64 => (simp only [List.getElem?_toArray, List.getElem?_cons_succ, List.getElem?_cons_zero]; rfl)
    case q_64 => exact fun _ _ _ h => h
    case w_64 => rfl
    case y_64 => (intro w hSw; (try dsimp only at hSw); first | (go_simp; done) | (go_simp; with_reducible rfl))
    simp only [Act.put, List.setIfInBounds_toArray, List.set_cons_zero, List.set_cons_succ]
    refine wpAnyH_take (i := 14) (oi := ?o_65) (v := ?v_65) ?h_65 (by kernel_rfl) (by kernel_rfl) (by kernel_rfl) ?q_65 (Or.inl ⟨?w_65, ?y_65⟩) (by assumption) ?_
    case h_65 => (simp only [List.getElem?_toArray, List.getElem?_cons_succ, List.getElem?_cons_zero]; rfl)
    case q_65 => exact fun _ _ _ h => h
    case w_65 => rfl
    case y_65 => (intro w hSw; (try dsimp only at hSw); first | (go_simp; done) | (go_simp; with_reducible rfl))
    simp only [Act.put, List.setIfInBounds_toArray, List.set_cons_zero, List.set_cons_succ]
    refine wpAnyH_take (i := 15) (oi := ?o_66) (v := ?v_66) ?h_66 (by kernel_rfl) (by kernel_rfl) (by kernel_rfl) ?q_66 (Or.inl ⟨?w_66, ?y_66⟩) (by assumption) ?_
    case h_66 => (simp only [List.getElem?_toArray, List.getElem?_cons_succ, List.getElem?_cons_zero]; rfl)
    case q_66 => exact fun _ _ _ h => h
    case w_66 => rfl
    case y_66 => (intro w hSw; (try dsimp only at hSw); first | (go_simp; done) | (go_simp; with_reducible rfl))
    simp only [Act.put, List.setIfInBounds_toArray, List.set_cons_zero, List.set_cons_succ]
    refine wpAnyH_take (i := 16) (oi := ?o_67) (v := ?v_67) ?h_67 (by kernel_rfl) (by kernel_rfl) (by kernel_rfl) ?q_67 (Or.inl ⟨?w_67, ?y_67⟩) (by assumption) ?_
    case h_67 => (simp only [List.getElem?_toArray, List.getElem?_cons_succ, List.getElem?_cons_zero]; rfl)
    case q_67 => exact fun _ _ _ h => h
    case w_67 => rfl
    case y_67 => (intro w hSw; (try dsimp only at hSw); first | (go_simp; done) | (go_simp; with_reducible rfl))
    simp only [Act.put, List.setIfInBounds_toArray, List.set_cons_zero, List.set_cons_succ]
    refine wpAnyH_take (i := 17) (oi := ?o_68) (v := undef) ?h_68 (by kernel_rfl) (by kernel_rfl) (by kernel_rfl) ?q_68 (Or.inr ⟨?w_68, rfl⟩) (by assumption) ?_
    case h_68 => (simp only [List.getElem?_toArray, List.getElem?_cons_succ, List.getElem?_cons_zero]; rfl)
    case q_68 => exact fun _ _ _ h => h
    case w_68 => rfl
    simp only [Act.put, List.setIfInBounds_toArray, List.set_cons_zero, List.set_cons_succ]
    refine wpAnyH_take (i := 18) (oi := ?o_69) (v := undef) ?h_69 (by kernel_rfl) (by kernel_rfl) (by kernel_rfl) ?q_69 (Or.inr ⟨?w_69, rfl⟩) (by assumption) ?_
    case h_69 => (simp only [List.getElem?_toArray, List.getElem?_cons_succ, List.getElem?_cons_zero]; rfl)
    case q_69 => exact fun _ _ _ h => h
    case w_69 => rfl
    simp only [Act.put, List.setIfInBounds_toArray, List.set_cons_zero, List.set_cons_succ]
    refine wpAnyH_take (i := 19) (oi := ?o_70) (v := undef) ?h_70 (by kernel_rfl) (by kernel_rfl) (by kernel_rfl) ?q_70 (Or.inr ⟨?w_70, rfl⟩) (by assumption) ?_
    case h_70 => (simp only [List.getElem?_toArray, List.getElem?_cons_succ, List.getElem?_cons_zero]; rfl)
    case q_70 => exact fun _ _ _ h => h
    case w_70 => rfl
    simp only [Act.put, List.setIfInBounds_toArray, List.set_cons_zero, List.set_cons_succ]
    refine wpAnyH_take (i := 20) (oi := ?o_71) (v := undef) ?h_71 (by kernel_rfl) (by kernel_rfl) (by kernel_rfl) ?q_71 (Or.inr ⟨?w_71, rfl⟩) (by assumption) ?_
    case h_71 => (simp only [List.getElem?_toArray, List.getElem?_cons_succ, List.getElem?_cons_zero]; rfl)
    case q_71 => exact fun _ _ _ h => h
    case w_71 => rfl
    simp only [Act.put, List.setIfInBounds_toArray, List.set_cons_zero, List.set_cons_succ]
    refine wpAnyH_take (i := 21) (oi := ?o_72) (v := undef) ?h_72 (by kernel_rfl) (by kernel_rfl) (by kernel_rfl) ?q_72 (Or.inr ⟨?w_72, rfl⟩) (by assumption) ?_
    case h_72 => (simp only [List.getElem?_toArray, List.getElem?_cons_succ, List.getElem?_cons_zero]; rfl)
    case q_72 => exact fun _ _ _ h => h
    case w_72 => rfl
    simp only [Act.put, List.setIfInBounds_toArray, List.set_cons_zero, List.set_cons_succ]
    refine wpAnyH_take (i := 22) (oi := ?o_73) (v := undef) ?h_73 (by kernel_rfl) (by kernel_rfl) (by kernel_rfl) ?q_73 (Or.inr ⟨?w_73, rfl⟩) (by assumption) ?_
    case h_73 => (simp only [List.getElem?_toArray, List.getElem?_cons_succ, List.getElem?_cons_zero]; rfl)
    case q_73 => exact fun _ _ _ h => h
    case w_73 => rfl
    simp only [Act.put, List.setIfInBounds_toArray, List.set_cons_zero, List.set_cons_succ]
    refine wpAnyH_take (i := 23) (oi := ?o_74) (v := undef) ?h_74 (by kernel_rfl) (by kernel_rfl) (by kernel_rfl) ?q_74 (Or.inr ⟨?w_74, rfl⟩) (by assumption) ?_
    case h_74 => (simp only [List.getElem?_toArray, List.getElem?_cons_succ, List.getElem?_cons_zero]; rfl)
    case q_74 => exact fun _ _ _ h => h
    case w_74 => rfl
    simp only [Act.put, List.setIfInBounds_toArray, List.set_cons_zero, List.set_cons_succ]
    refine wpAnyH_take (i := 24) (oi := ?o_75) (v := ?v_75) ?h_75 (by kernel_rfl) (by kernel_rfl) (by kernel_rfl) ?q_75 (Or.inl ⟨?w_75, ?y_75⟩) (by assumption) ?_
    case h_75 => (simp only [List.getElem?_toArray, List.getElem?_cons_succ, List.getElem?_cons_zero]; rfl)
    case q_75 => exact fun _ _ _ h => h
    case w_75 => rfl
    case y_75 => (intro w hSw; (try dsimp only at hSw); first | (go_simp; done) | (go_simp; with_reducible rfl))
    simp only [Act.put, List.setIfInBounds_toArray, List.set_cons_zero, List.set_cons_succ]
    refine wpAnyH_done (by kernel_rfl) ?_ _
    go_wp2_with fail
    go_ret
    exact ⟨rfl, by first | exact HB.out | exact below_drewN HB.out _ | exact HB.out.drew⟩
  subst h3
  have g0 : w1.cell? ⟨g, 0, none⟩ = some (.int .i64 x.legs) := hG.cell rfl
  have g1 : w1.cell? ⟨g, 1, none⟩ = some (.int .i64 x.souls) := hG.cell rfl
  have g2 : w1.cell? ⟨g, 2, none⟩ = some (.slice A n cap) := hG.cell rfl
  have g3 : w1.cell? ⟨g, 3, none⟩ = some (.slice B m cap2) := hG.cell rfl
  have HCEL := Lib.hid (show ∀ X, Below w1.heap.size w1 X → (fun w' => (w'.cell? ⟨g, 0, none⟩ = some (.int .i64 x.legs) ∧ w'.cell? ⟨g, 1, none⟩ = some (.int .i64 x.souls) ∧ w'.cell? ⟨g, 2, none⟩ = some (.slice A n cap) ∧ w'.cell? ⟨g, 3, none⟩ = some (.slice B m cap2)) ∧ (w'.cell? ⟨ab, off + k * 11, none⟩ = some (.int .i64 id) ∧ w'.cell? ⟨ab, off + k * 11 + 1, none⟩ = some (.int .i64 kind) ∧ w'.cell? ⟨ab, off + k * 11 + 2, none⟩ = some (.int .i64 3) ∧ w'.cell? ⟨ab, off + k * 11 + 3, none⟩ = some (.int .i64 gst) ∧ w'.cell? ⟨ab, off + k * 11 + 4, none⟩ = some (.bool lev) ∧ w'.cell? ⟨ab, off + k * 11 + 5, none⟩ = some (.int .i64 cab) ∧ w'.cell? ⟨ab, off + k * 11 + 6, none⟩ = some (.int .i64 cat) ∧ w'.cell? ⟨ab, off + k * 11 + 7, none⟩ = some (.int .i64 frm) ∧ w'.cell? ⟨ab, off + k * 11 + 8, none⟩ = some (.int .i64 upto) ∧ w'.cell? ⟨ab, off + k * 11 + 9, none⟩ = some (.int .i64 til) ∧ w'.cell? ⟨ab, off + k * 11 + 10, none⟩ = some (.slice A3 n3 c3))) X from fun X hX => ⟨⟨cellB hX g0, cellB hX g1, cellB hX g2, cellB hX g3⟩, cellB hX y0, cellB hX y1, cellB hX y2, cellB hX y3, cellB hX y4, cellB hX y5, cellB hX y6, cellB hX y7, cellB hX y8, cellB hX y9, cellB hX y10⟩)
  obtain ⟨ce, hce⟩ : ∃ q, q = if shipE x ≠ 0 then shipE x else ofE x ⟨id, kind, 3, gst, lev, cab, cat, frm, upto, til, fol⟩ := ⟨_, rfl⟩
  have HCALL := Lib.hid (fun X (hX : Below w1.heap.size w1 X) => HCK.out ⟨id, kind, 3, gst, lev, cab, cat, frm, upto, til, fol⟩ A3 n3 c3 X (HC.out.bel (hb.trans (hX.mono hb.size))) (HD.out.bel (hb.trans (hX.mono hb.size))) (hF.bel hX))
  rw [← hce] at HCALL
  have HCE := Lib.hid hce
  clear hce
  have HX := Lib.hid hx
  clear hx
  have HG := Lib.hid hG
  clear hG
  have HBW := Lib.hid hb
  clear hb
  clear hF hI g0 g1 g2 g3 y0 y1 y2 y3 y4 y5 y6 y7 y8 y9 y10 h1 h2 HCK
  have hq1 : decide ((k : Int) < 0) = false := decide_eq_false (by omega)
  have hq2 : decide (nb ≤ k) = false := decide_eq_false (by omega)
  go_upto_region 3 with (fail)
  go_cut [44] (fun t wx => t = .bool (ce != 0) ∧ Below w1.heap.size w1 wx)
  case first => as_aux_lemma =>
    have hb : Below w1.heap.size w1 w1.drew := (Below.refl _ _).drew
    refine wp_region_held_drew (S := (fun w' => (w'.cell? ⟨g, 0, none⟩ = some (.int .i64 x.legs) ∧ w'.cell? ⟨g, 1, none⟩ = some (.int .i64 x.souls) ∧ w'.cell? ⟨g, 2, none⟩ = some (.slice A n cap) ∧ w'.cell? ⟨g, 3, none⟩ = some (.slice B m cap2)) ∧ (w'.cell? ⟨ab, off + k * 11, none⟩ = some (.int .i64 id) ∧ w'.cell? ⟨ab, off + k * 11 + 1, none⟩ = some (.int .i64 kind) ∧ w'.cell? ⟨ab, off + k * 11 + 2, none⟩ = some (.int .i64 3) ∧ w'.cell? ⟨ab, off + k * 11 + 3, none⟩ = some (.int .i64 gst) ∧ w'.cell? ⟨ab, off + k * 11 + 4, none⟩ = some (.bool lev) ∧ w'.cell? ⟨ab, off + k * 11 + 5, none⟩ = some (.int .i64 cab) ∧ w'.cell? ⟨ab, off + k * 11 + 6, none⟩ = some (.int .i64 cat) ∧ w'.cell? ⟨ab, off + k * 11 + 7, none⟩ = some (.int .i64 frm) ∧ w'.cell? ⟨ab, off + k * 11 + 8, none⟩ = some (.int .i64 upto) ∧ w'.cell? ⟨ab, off + k * 11 + 9, none⟩ = some (.int .i64 til) ∧ w'.cell? ⟨ab, off + k * 11 + 10, none⟩ = some (.slice A3 n3 c3)))) (by kernel_rfl) (HCEL.out _ hb) (fun hHeld => ?_)
    refine wpAnyH_take (i := 0) (oi := ?o_76) (v := ?v_76) ?h_76 (by kernel_rfl) (by kernel_rfl) (by kernel_rfl) ?q_76 (Or.inl ⟨?w_76, ?y_76⟩) (by assumption) ?_
    case h_76 => (simp only [List.getElem?_toArray, List.getElem?_cons_zero]; rfl)
    case q_76 => exact fun _ _ _ h => h
    case w_76 => rfl
    case y_76 => (intro w hSw; (try dsimp only at hSw); first | (go_simp; done) | (go_simp; with_reducible rfl))
    simp only [Act.put, List.setIfInBounds_toArray, List.set_cons_zero, List.set_cons_succ]
    refine wpAnyH_take (i := 1) (oi := ?o_77) (v := ?v_77) ?h_77 (by kernel_rfl) (by kernel_rfl) (by kernel_rfl) ?q_77 (Or.inl ⟨?w_77, ?y_77⟩) (by assumption) ?_
    case h_77 => (simp only [List.getElem?_toArray, List.getElem?_cons_succ, List.getElem?_cons_zero]; rfl)
    case q_77 => exact fun _ _ _ h => h
    case w_77 => rfl
    case y_77 => (intro w hSw; (try dsimp only at hSw); first | (go_simp; done) | (go_simp; with_reducible rfl))
    simp only [Act.put, List.setIfInBounds_toArray, List.set_cons_zero, List.set_cons_succ]
    refine wpAnyH_take (i := 2) (oi := ?o_78) (v := ?v_78) ?h_78 (by kernel_rfl) (by kernel_rfl) (by kernel_rfl) ?q_78 (Or.inl ⟨?w_78, ?y_78⟩) (by assumption) ?_
    case h_78 => (simp only [List.getElem?_toArray, List.getElem?_cons_succ, List.getElem?_cons_zero]; rfl)
    case q_78 => exact fun _ _ _ h => h
    case w_78 => rfl
    case y_78 => (intro w hSw; (try dsimp only at hSw); first | (go_simp; done) | (go_simp; with_reducible rfl))
    simp only [Act.put, List.setIfInBounds_toArray, List.set_cons_zero, List.set_cons_succ]
    refine wpAnyH_take (i := 3) (oi := ?o_79) (v := ?v_79) ?h_79 (by kernel_rfl) (by kernel_rfl) (by kernel_rfl) ?q_79 (Or.inl ⟨?w_79, ?y_79⟩) (by assumption) ?_
    case h_79 => (simp only [List.getElem?_toArray, List.getElem?_cons_succ, List.getElem?_cons_zero]; rfl)
    case q_79 => exact fun _ _ _ h => h
    case w_79 => rfl
    case y_79 => (intro w hSw; (try dsimp only at hSw); first | (go_simp; done) | (go_simp; with_reducible rfl))
    simp only [Act.put, List.setIfInBounds_toArray, List.set_cons_zero, List.set_cons_succ]
    refine wpAnyH_take (i := 4) (oi := ?o_80) (v := ?v_80) ?h_80 (by kernel_rfl) (by kernel_rfl) (by kernel_rfl) ?q_80 (Or.inl ⟨?w_80, ?y_80⟩) (by assumption) ?_
    case h_80 => (simp only [List.getElem?_toArray, List.getElem?_cons_succ, List.getElem?_cons_zero]; rfl)
    case q_80 => exact fun _ _ _ h => h
    case w_80 => rfl
    case y_80 => (intro w hSw; (try dsimp only at hSw); first | (go_simp; done) | (go_simp; with_reducible rfl))
    simp only [Act.put, List.setIfInBounds_toArray, List.set_cons_zero, List.set_cons_succ]
    refine wpAnyH_take (i := 5) (oi := ?o_81) (v := ?v_81) ?h_81 (by kernel_rfl) (by kernel_rfl) (by kernel_rfl) ?q_81 (Or.inl ⟨?w_81, ?y_81⟩) (by assumption) ?_
    case h_81 => (simp only [List.getElem?_toArray, List.getElem?_cons_succ, List.getElem?_cons_zero]; rfl)
    case q_81 => exact fun _ _ _ h => h
    case w_81 => rfl
    case y_81 => (intro w hSw; (try dsimp only at hSw); first | (go_simp; done) | (go_simp; with_reducible rfl))
    simp only [Act.put, List.setIfInBounds_toArray, List.set_cons_zero, List.set_cons_succ]
    refine wpAnyH_take (i := 6) (oi := ?o_82) (v := ?v_82) ?h_82 (by kernel_rfl) (by kernel_rfl) (by kernel_rfl) ?q_82 (Or.inl ⟨?w_82, ?y_82⟩) (by assumption) ?_
    case h_82 => (simp only [List.getElem?_toArray, List.getElem?_cons_succ, List.getElem?_cons_zero]; rfl)
    case q_82 => exact fun _ _ _ h => h
    case w_82 => rfl
    case y_82 => (intro w hSw; (try dsimp only at hSw); first | (go_simp; done) | (go_simp; with_reducible rfl))
    simp only [Act.put, List.setIfInBounds_toArray, List.set_cons_zero, List.set_cons_succ]
    refine wpAnyH_take (i := 7) (oi := ?o_83) (v := ?v_83) ?h_83 (by kernel_rfl) (by kernel_rfl) (by kernel_rfl) ?q_83 (Or.inl ⟨?w_83, ?y_83⟩) (by assumption) ?_
    case h_83 => (simp only [List.getElem?_toArray, List.getElem?_cons_succ, List.getElem?_cons_zero]; rfl)
    case q_83 => exact fun _ _ _ h => h
    case w_83 => rfl
    case y_83 => (intro w hSw; (try dsimp only at hSw); first | (go_simp; done) | (go_simp; with_reducible rfl))
    simp only [Act.put, List.setIfInBounds_toArray, List.set_cons_zero, List.set_cons_succ]
    refine wpAnyH_take (i := 8) (oi := ?o_84) (v := ?v_84) ?h_84 (by kernel_rfl) (by kernel_rfl) (by kernel_rfl) ?q_84 (Or.inl ⟨?w_84, ?y_84⟩) (by assumption) ?_
    case h_84 => (simp only [List.getElem?_toArray, List.getElem?_cons_succ, List.getElem?_cons_zero]; rfl)
    case q_84 => exact fun _ _ _ h => h
    case w_84 => rfl
    case y_84 => (intro w hSw; (try dsimp only at hSw); first | (go_simp; done) | (go_simp; with_reducible rfl))
    simp only [Act.put, List.setIfInBounds_toArray, List.set_cons_zero, List.set_cons_succ]
    refine wpAnyH_take (i := 9) (oi := ?o_85) (v := ?v_85) ?h_85 (by kernel_rfl) (by kernel_rfl) (by kernel_rfl) ?q_85 (Or.inl ⟨?w_85, ?y_85⟩) (by assumption) ?_
    case h_85 => (simp only [List.getElem?_toArray, List.getElem?_cons_succ, List.getElem?_cons_zero]; rfl)
    case q_85 => exact fun _ _ _ h => h
    case w_85 => rfl
    case y_85 => (intro w hSw; (try dsimp only at hSw); first | (go_simp; done) | (go_simp; with_reducible rfl))
    simp only [Act.put, List.setIfInBounds_toArray, List.set_cons_zero, List.set_cons_succ]
    refine wpAnyH_take (i := 10) (oi := ?o_86) (v := ?v_86) ?h_86 (by kernel_rfl) (by kernel_rfl) (by kernel_rfl) ?q_86 (Or.inl ⟨?w_86, ?y_86⟩) (by assumption) ?_
    case h_86 => (simp only [List.getElem?_toArray, List.getElem?_cons_succ, List.getElem?_cons_zero]; rfl)
    case q_86 => exact fun _ _ _ h => h
    case w_86 => rfl
    case y_86 => (intro w hSw; (try dsimp only at hSw); first | (go_simp; done) | (go_simp; with_reducible rfl))
    simp only [Act.put, List.setIfInBounds_toArray, List.set_cons_zero, List.set_cons_succ]
    refine wpAnyH_take (i := 11) (oi := ?o_87) (v := ?v_87) ?h_87 (by kernel_rfl) (by kernel_rfl) (by kernel_rfl) ?q_87 (Or.inl ⟨?w_87, ?y_87⟩) (by assumption) ?_
    case h_87 => (simp only [List.getElem?_toArray, List.getElem?_cons_succ, List.getElem?_cons_zero]; rfl)
    case q_87 => exact fun _ _ _ h => h
    case w_87 => rfl
    case y_87 => (intro w hSw; (try dsimp only at hSw); first | (go_simp; done) | (go_simp; with_reducible rfl))
    simp only [Act.put, List.setIfInBounds_toArray, List.set_cons_zero, List.set_cons_succ]
    refine wpAnyH_take (i := 12) (oi := ?o_88) (v := ?v_88) ?h_88 (by kernel_rfl) (by kernel_rfl) (by kernel_rfl) ?q_88 (Or.inl ⟨?w_88, ?y_88⟩) (by assumption) ?_
    case h_88 => (simp only [List.getElem?_toArray, List.getElem?_cons_succ, List.getElem?_cons_zero]; rfl)
    case q_88 => exact fun _ _ _ h => h
    case w_88 => rfl
    case y_88 => (intro w hSw; (try dsimp only at hSw); first | (go_simp; done) | (go_simp; with_reducible rfl))
    simp only [Act.put, List.setIfInBounds_toArray, List.set_cons_zero, List.set_cons_succ]
    refine wpAnyH_take (i := 13) (oi := ?o_89) (v := ?v_89) ?h_89 (by kernel_rfl) (by kernel_rfl) (by kernel_rfl) ?q_89 (Or.inl ⟨?w_89, ?y_89⟩) (by assumption) ?_
    case h_89 => (simp only [List.getElem?_toArray, List.getElem?_cons_succ, List.getElem?_cons_zero]; rfl)
    case q_89 => exact fun _ _ _ h => h
    case w_89 => rfl
    case y_89 => (intro w hSw; (try dsimp only at hSw); first | (go_simp; done) | (go_simp; with_reducible rfl))
    simp only [Act.put, List.setIfInBounds_toArray, List.set_cons_zero, List.set_cons_succ]
    refine wpAnyH_take (i := 14) (oi := ?o_90) (v := ?v_90) ?h_90 (by kernel_rfl) (by kernel_rfl) (by kernel_rfl) ?q_90 (Or.inl ⟨?w_90, ?y_90⟩) (by assumption) ?_
    case h_90 => (simp only [List.getElem?_toArray, List.getElem?_cons_succ, List.getElem?_cons_zero]; rfl)
    case q_90 => exact fun _ _ _ h => h
    case w_90 => rfl
    case y_90 => (intro w hSw; (try dsimp only at hSw); first | (go_simp; done) | (go_simp; with_reducible rfl))
    simp only [Act.put, List.setIfInBounds_toArray, List.set_cons_zero, List.set_cons_succ]
    refine wpAnyH_take (i := 15) (oi := ?o_91) (v := ?v_91) ?h_91 (by kernel_rfl) (by kernel_rfl) (by kernel_rfl) ?q_91 (Or.inl ⟨?w_91, ?y_91⟩) (by assumption) ?_
    case h_91 => (simp only [List.getElem?_toArray, List.getElem?_cons_succ, List.getElem?_cons_zero]; rfl)
    case q_91 => exact fun _ _ _ h => h
    case w_91 => rfl
    case y_91 => (intro w hSw; (try dsimp only at hSw); first | (go_simp; done) | (go_simp; with_reducible rfl))
    simp only [Act.put, List.setIfInBounds_toArray, List.set_cons_zero, List.set_cons_succ]
    refine wpAnyH_take (i := 16) (oi := ?o_92) (v := ?v_92) ?h_92 (by kernel_rfl) (by kernel_rfl) (by kernel_rfl) ?q_92 (Or.inl ⟨?w_92, ?y_92⟩) (by assumption) ?_
    case h_92 => (simp only [List.getElem?_toArray, List.getElem?_cons_succ, List.getElem?_cons_zero]; rfl)
    case q_92 => exact fun _ _ _ h => h
    case w_92 => rfl
    case y_92 => (intro w hSw; (try dsimp only at hSw); first | (go_simp; done) | (go_simp; with_reducible rfl))
    simp only [Act.put, List.setIfInBounds_toArray, List.set_cons_zero, List.set_cons_succ]
    refine wpAnyH_take (i := 17) (oi := ?o_93) (v := ?v_93) ?h_93 (by kernel_rfl) (by kernel_rfl) (by kernel_rfl) ?q_93 (Or.inl ⟨?w_93, ?y_93⟩) (by assumption) ?_
    case h_93 => (simp only [List.getElem?_toArray, List.getElem?_cons_succ, List.getElem?_cons_zero]; rfl)
    case q_93 => exact fun _ _ _ h => h
    case w_93 => rfl
    case y_93 => (intro w hSw; (try dsimp only at hSw); first | (go_simp; done) | (go_simp; with_reducible rfl))
    simp only [Act.put, List.setIfInBounds_toArray, List.set_cons_zero, List.set_cons_succ]
    refine wpAnyH_take (i := 18) (oi := ?o_94) (v := ?v_94) ?h_94 (by kernel_rfl) (by kernel_rfl) (by kernel_rfl) ?q_94 (Or.inl ⟨?w_94, ?y_94⟩) (by assumption) ?_
    case h_94 => (simp only [List.getElem?_toArray, List.getElem?_cons_succ, List.getElem?_cons_zero]; rfl)
    case q_94 => exact fun _ _ _ h => h
    case w_94 => rfl
    case y_94 => (intro w hSw; (try dsimp only at hSw); first | (go_simp; done) | (go_simp; with_reducible rfl))
    simp only [Act.put, List.setIfInBounds_toArray, List.set_cons_zero, List.set_cons_succ]
    refine wpAnyH_take (i := 19) (oi := ?o_95) (v := ?v_95) ?h_95 (by kernel_rfl) (by kernel_rfl) (by kernel_rfl) ?q_95 (Or.inl ⟨?w_95, ?y_95⟩) (by assumption) ?_
    case h_95 => (simp only [List.getElem?_toArray, List.getElem?_cons_succ, List.getElem?_cons_zero]; rfl)
    case q_95 => exact fun _ _ _ h => h
    case w_95 => rfl
    case y_95 => (intro w hSw; (try dsimp only at hSw); first | (go_simp; done) | (go_simp; with_reducible rfl))
    simp only [Act.put, List.setIfInBounds_toArray, List.set_cons_zero, List.set_cons_succ]
    refine wpAnyH_take (i := 20) (oi := ?o_96) (v := ?v_96) ?h_96 (by kernel_rfl) (by kernel_rfl) (by kernel_rfl) ?q_96 (Or.inl ⟨?w_96, ?y_96⟩) (by assumption) ?_
    case h_96 => (simp only [List.getElem?_toArray, List.getElem?_cons_succ, List.getElem?_cons_zero]; rfl)
    case q_96 => exact fun _ _ _ h => h
    case w_96 => rfl
    case y_96 => (intro w hSw; (try dsimp only at hSw); first | (go_simp; done) | (go_simp; with_reducible rfl))
    simp only [Act.put, List.setIfInBounds_toArray, List.set_cons_zero, List.set_cons_succ]
    refine wpAnyH_take (i := 21) (oi := ?o_97) (v := ?v_97) ?h_97 (by kernel_rfl) (by kernel_rfl) (by kernel_rfl) ?q_97 (Or.inl ⟨?w_97, ?y_97⟩) (by assumption) ?_
    case h_97 => (simp only [List.getElem?_toArray, List.getElem?_cons_succ, List.getElem?_cons_zero]; rfl)
    case q_97 => exact fun _ _ _ h => h
    case w_97 => rfl
    case y_97 => (intro w hSw; (try dsimp only at hSw); first | (go_simp; done) | (go_simp; with_reducible rfl))
    simp only [Act.put, List.setIfInBounds_toArray, List.set_cons_zero, List.set_cons_succ]
    refine wpAnyH_ready (rs := [22]) (by kernel_rfl) (by simp) ?_
    refine AllReadyH.cons (o := ?o_98) ?h_98 (fun K hK => ?_) AllReadyH.nil
    case h_98 => (simp only [List.getElem?_toArray, List.getElem?_cons_succ, List.getElem?_cons_zero]; rfl)
    go_simp
    (go_at_call 13; refine (HCALL.out _ hb).mono ?_; rintro e w2 ⟨rfl, hb2⟩; replace hb := hb.trans (hb2.mono hb.size); clear hb2)
    go_wp2_with fail
    refine hK.out _ _ ?_ (fun hHeld => ?_)
    · exact HCEL.out _ hb
    clear hK K
    try simp only [Act.put, List.setIfInBounds_toArray, List.set_cons_zero, List.set_cons_succ]
    refine wpAnyH_take (i := 23) (oi := ?o_99) (v := ?v_99) ?h_99 (by kernel_rfl) (by kernel_rfl) (by kernel_rfl) ?q_99 (Or.inl ⟨?w_99, ?y_99⟩) (by assumption) ?_
    case h_99 => (simp only [List.getElem?_toArray, List.getElem?_cons_succ, List.getElem?_cons_zero]; rfl)
    case q_99 => exact fun _ _ _ h => h
    case w_99 => rfl
    case y_99 => (intro w hSw; (try dsimp only at hSw); first | (go_simp; done) | (go_simp; with_reducible rfl))
    simp only [Act.put, List.setIfInBounds_toArray, List.set_cons_zero, List.set_cons_succ]
    refine wpAnyH_take (i := 24) (oi := ?o_100) (v := ?v_100) ?h_100 (by kernel_rfl) (by kernel_rfl) (by kernel_rfl) ?q_100 (Or.inl ⟨?w_100, ?y_100⟩) (by assumption) ?_
    case h_100 => (simp only [List.getElem?_toArray, List.getElem?_cons_succ, List.getElem?_cons_zero]; rfl)
    case q_100 => exact fun _ _ _ h => h
    case w_100 => rfl
    case y_100 => (intro w hSw; (try dsimp only at hSw); first | (go_simp; done) | (go_simp; with_reducible rfl))
    simp only [Act.put, List.setIfInBounds_toArray, List.set_cons_zero, List.set_cons_succ]
    refine wpAnyH_done (by kernel_rfl) ?_ _
    go_wp2_with fail
    go_meet
    exact ⟨rfl, hb⟩
  obtain ⟨rfl, hb⟩ := hcut
  clear hq1 hq2
  have HB1 := Lib.hid (HBW.out.trans (hb.mono HBW.out.size))
  by_cases h0 : ce = 0
  rotate_left
  · have h0' : (ce != 0) = true := by simpa using h0
    clear h0 hb
    go_wp2_with fail
    go_ret
    exact ⟨rfl, HB1.out⟩
  have hse : shipE x = 0 := by
    have := HCE.out
    by_cases h : shipE x = 0
    · exact h
    · rw [if_pos h] at this; omega
  have HOE := Lib.hid (show ofE x ⟨id, kind, 3, gst, lev, cab, cat, frm, upto, til, fol⟩ = 0 by have := HCE.out; rw [if_neg (by rw [hse]; simp)] at this; omega)
  subst h0
  have hG := HG.out.bel hb
  clear hse HCE HG HCEL HCALL
  obtain ⟨w5, hw5⟩ : ∃ V, V = wc := ⟨_, rfl⟩
  subst hw5
  obtain ⟨L, hLs, hLp⟩ := (HL.out.bel HB1.out).raw bkgC_good
  have hLl : L.length = nb := hLs.len
  have hle := HL.out.le
  have hp1 := hLs.fst (k := k) (by omega)
  have HLP := Lib.hid hLp
  have hwk : IntKind.i64.wrap ((k : Int) + 1) = (k : Int) + 1 := by rw [IntKind.wrap_i64]; omega
  have hk3 : (0 : Int) ≤ (k : Int) + 1 := by omega
  have hk4 : (k : Int) + 1 ≤ (nb : Int) := by omega
  have hk5 : k ≤ cb := by omega
  have hk6 : k + 1 ≤ cb := by omega
  have hk7 : k + 1 ≤ nb := by omega
  have hk8 : ((k : Int) + 1).toNat = k + 1 := by omega
  have hk9 : (k : Int) ≤ (cb : Int) := by omega
  have hk10 : (k : Int) + 1 ≤ (cb : Int) := by omega
  have hbA : Below w5.heap.size w5 (w5.alloc (.cells #[] 30)).drew := (bel1 w5 _).drew
  have hownA : Own (rawC 11) 11 30 (w5.alloc (.cells #[] 30)).drew w5.heap.size (.slice (some ⟨w5.heap.size, 0, none⟩) 0 0) [] [] := Own.empty _ _ (Nat.le_refl _) (blk1 w5 _)
  have hslA := hp1.bel hbA
  have hby1 : (([] : List (List Value)).length + k) * 104 ≤ 140737488355328 := by simp; omega
  go_upto_region 5 with (fail)
  go_cut [9] (fun p wx => ∃ A6 n6 c6, p = .slice A6 n6 c6 ∧ Sl (rawC 11) 11 wx All A6 n6 c6 (L.take k ++ L.drop (k + 1)) ∧ Below w5.heap.size w5 wx)
  case first => as_aux_lemma =>
    by_cases hcap : cb = k + 1
    · obtain rfl : nb = k + 1 := by omega
      subst hcap
      have hd0 : L.drop (k + 1) = [] := List.drop_eq_nil_of_le (by omega)
      have hp2 : ∀ W9 : World, Sl (rawC 11) 11 W9 All (some ⟨ab, off, none⟩) 0 0 [] := fun W9 => ⟨rfl, Nat.le_refl _, by simp [maxLen], fun i x h => by simp at h⟩
      have hby2 : ((L.take k).length + 0) * 104 ≤ 140737488355328 := by rw [List.length_take]; omega
      have HP2 := Lib.hid hp2
      have HD0 := Lib.hid hd0
      have hk11 : (k : Int) ≤ (k : Int) + 1 := by omega
      clear hd0 hp2 hp1 hLs hLp hk4 hk5 hk6 hk7 hLl hle hk9 hk10
      go_region_law
        (first
          | (refine step_app (t := 31) (e := 30) (bytes := 104) (base := w5.heap.size) (c := rawC 11) (l := []) (xs := []) (l2 := L.take k) (S := All) rfl (.tmp 45) (.tmp 48) rfl bkg_elem (rawC_good 11) rfl rfl hownA hslA (fun _ _ hc => hc) hby1 (by omega) hbA.size ?_; intro v' w' xs' hown' hg' hat'; have hbw : Below w5.heap.size w5 w' := below_app hbA hownA hg' hbA.size; clear hownA hslA)
          | (refine step_app (t := 31) (e := 30) (bytes := 104) (base := w5.heap.size) (c := rawC 11) (l := L.take k) (l2 := []) (S := All) rfl (.tmp 49) (.tmp 53) rfl bkg_elem (rawC_good 11) rfl rfl hown' (HP2.out _) (fun _ _ hc => hc) hby2 (by omega) hbw.size ?_; intro v2 w2 xs2 hown2 hg2 hat2; have hbE := below_app hbw hown' hg2 hbw.size; obtain ⟨A8, n8, c8, rfl, hs8⟩ := hown2.sl (rawC_good 11); have hs8 := hs8.all (rawC_good 11) (by omega)))
      all_goals
        go_wp2_with fail
        go_meet
        exact ⟨A8, n8, c8, rfl, by rw [HD0.out]; exact hs8, hbE⟩
    · have hp2 := hLs.suf (k := k + 1) (by omega)
      have hby2 : ((L.take k).length + (nb - (k + 1))) * 104 ≤ 140737488355328 := by rw [List.length_take]; omega
      have HP2 := Lib.hid hp2
      have hcap2 : ¬ k + 1 = cb := fun e => hcap e.symm
      clear hp2 hp1 hLs hLp hLl hle
      go_region_law
        (first
          | (refine step_app (t := 31) (e := 30) (bytes := 104) (base := w5.heap.size) (c := rawC 11) (l := []) (xs := []) (l2 := L.take k) (S := All) rfl (.tmp 45) (.tmp 48) rfl bkg_elem (rawC_good 11) rfl rfl hownA hslA (fun _ _ hc => hc) hby1 (by omega) hbA.size ?_; intro v' w' xs' hown' hg' hat'; have hbw : Below w5.heap.size w5 w' := below_app hbA hownA hg' hbA.size; clear hownA hslA)
          | (refine step_app (t := 31) (e := 30) (bytes := 104) (base := w5.heap.size) (c := rawC 11) (l := L.take k) (l2 := L.drop (k + 1)) (S := All) rfl (.tmp 49) (.tmp 53) rfl bkg_elem (rawC_good 11) rfl rfl hown' (HP2.out.bel hbw) (fun _ _ hc => hc) hby2 (by omega) hbw.size ?_; intro v2 w2 xs2 hown2 hg2 hat2; have hbE := below_app hbw hown' hg2 hbw.size; obtain ⟨A8, n8, c8, rfl, hs8⟩ := hown2.sl (rawC_good 11); have hs8 := hs8.all (rawC_good 11) (by omega)))
      all_goals
        go_wp2_with fail
        go_meet
        exact ⟨A8, n8, c8, rfl, hs8, hbE⟩
  obtain ⟨A6, n6, c6, rfl, hs6, hb6⟩ := hcut
  have hL6 : Sl bkgC 11 wc All A6 n6 c6 (lessL l k) := hs6.unraw (((Pts.bel (size := 11) HLP.out hb6).take k).append ((Pts.bel (size := 11) HLP.out hb6).drop (k + 1)))
  have hn6 : n6 ≤ 2000000000000 := by
    have h1 := hs6.len
    rw [List.length_append, List.length_take, List.length_drop] at h1
    omega
  have hG := hG.bel hb6
  have hb := HB1.out.trans (hb6.mono HB1.out.size)
  clear hs6 hb6 hbA hownA hslA hp1 hLs hLp hLl hle hby1 hwk hk3 hk4 hk5 hk6 hk7 hk8 hk9 hk10 HLP L HB1 hn
  -- the four calls
  have HL6 := Lib.hid hL6
  have HN6 := Lib.hid hn6
  have hnb2 : nb ≤ 2000000000000 := HNB.out
  obtain ⟨r1, hr1⟩ : ∃ q, q = spnE x l c := ⟨_, rfl⟩
  obtain ⟨r2, hr2⟩ : ∃ q, q = sulE x l := ⟨_, rfl⟩
  obtain ⟨tl, htl⟩ : ∃ q, q = takL l c := ⟨_, rfl⟩
  obtain ⟨sl, hsl⟩ : ∃ q, q = soulL l x.legs.toNat := ⟨_, rfl⟩
  have HS1 := Lib.hid (HSP.out (some ⟨ab, off, none⟩) nb cb l)
  have HS2 := Lib.hid (HSP.out A6 n6 c6 (lessL l k))
  have HU1 := Lib.hid (HSO.out (some ⟨ab, off, none⟩) nb cb l)
  have HU2 := Lib.hid (HSO.out A6 n6 c6 (lessL l k))
  rw [spnE_less HX.out rfl HOE.out, (takB_less HX.out rfl c).2, ← hr1, ← htl] at HS2
  rw [sulE_less HX.out rfl HOE.out, soulL_less HX.out rfl, ← hr2, ← hsl] at HU2
  rw [← hr1, ← htl] at HS1
  rw [← hr2, ← hsl] at HU1
  clear hr1 hr2 htl hsl hL6 hn6 HSP HSO
  obtain ⟨W6, hW6⟩ : ∃ V, V = wc := ⟨_, rfl⟩
  subst hW6
  have HB := Lib.hid hb
  have HG := Lib.hid (fun X (hX : Below W6.heap.size W6 X) => hG.bel hX)
  have HC6 := Lib.hid (HC.out.bel hb)
  have HD6 := Lib.hid (HD.out.bel hb)
  have HLL := Lib.hid (HL.out.bel hb)
  clear hG hb
  have hb : Below W6.heap.size W6 W6 := Below.refl _ _
  have hG := HG.out _ hb
  have g0 : W6.cell? ⟨g, 0, none⟩ = some (.int .i64 x.legs) := hG.cell rfl
  have g1 : W6.cell? ⟨g, 1, none⟩ = some (.int .i64 x.souls) := hG.cell rfl
  have g2 : W6.cell? ⟨g, 2, none⟩ = some (.slice A n cap) := hG.cell rfl
  have g3 : W6.cell? ⟨g, 3, none⟩ = some (.slice B m cap2) := hG.cell rfl
  have HCALL := Lib.hid (HS1.out W6 HC6.out HD6.out HLL.out hnb2)
  clear hG
  go_wp2_with fail
  refine HCALL.out.mono ?_
  rintro e w1 ⟨v1, xs1, rfl, ho1, hb1⟩
  obtain ⟨A1, n1, c1, rfl, hs1⟩ := ho1.sl spanC_good
  replace hs1 := hs1.all spanC_good (by omega)
  replace hb := hb.trans (hb1.mono hb.size)
  clear ho1 hb1 HCALL g0 g1 g2 g3
  have hG := HG.out _ hb
  have g0 : w1.cell? ⟨g, 0, none⟩ = some (.int .i64 x.legs) := hG.cell rfl
  have g1 : w1.cell? ⟨g, 1, none⟩ = some (.int .i64 x.souls) := hG.cell rfl
  have g2 : w1.cell? ⟨g, 2, none⟩ = some (.slice A n cap) := hG.cell rfl
  have g3 : w1.cell? ⟨g, 3, none⟩ = some (.slice B m cap2) := hG.cell rfl
  have HCALL := Lib.hid (HS2.out w1 (HC6.out.bel hb) (HD6.out.bel hb) (HL6.out.bel hb) HN6.out)
  clear hG
  go_wp2_with fail
  refine HCALL.out.mono ?_
  rintro e w2 ⟨v2, xs2, rfl, ho2, hb1⟩
  obtain ⟨A2, n2, c2, rfl, hs2⟩ := ho2.sl spanC_good
  replace hs2 := hs2.all spanC_good (by omega)
  replace hs1 := hs1.bel hb1
  replace hb := hb.trans (hb1.mono hb.size)
  clear ho2 hb1 HCALL g0 g1 g2 g3
  have hG := HG.out _ hb
  have g0 : w2.cell? ⟨g, 0, none⟩ = some (.int .i64 x.legs) := hG.cell rfl
  have g1 : w2.cell? ⟨g, 1, none⟩ = some (.int .i64 x.souls) := hG.cell rfl
  have g2 : w2.cell? ⟨g, 2, none⟩ = some (.slice A n cap) := hG.cell rfl
  have g3 : w2.cell? ⟨g, 3, none⟩ = some (.slice B m cap2) := hG.cell rfl
  have HCALL := Lib.hid (HU1.out w2 (HC6.out.bel hb) (HD6.out.bel hb) (HLL.out.bel hb) hnb2)
  clear hG
  go_wp2_with fail
  refine HCALL.out.mono ?_
  rintro e w3 ⟨v3, xs3, rfl, ho3, hb1⟩
  obtain ⟨A3', n3', c3', rfl, hs3⟩ := ho3.sl intC_good
  replace hs3 := hs3.all intC_good (by omega)
  replace hs1 := hs1.bel hb1
  replace hs2 := hs2.bel hb1
  replace hb := hb.trans (hb1.mono hb.size)
  clear ho3 hb1 HCALL g0 g1 g2 g3
  have hG := HG.out _ hb
  have g0 : w3.cell? ⟨g, 0, none⟩ = some (.int .i64 x.legs) := hG.cell rfl
  have g1 : w3.cell? ⟨g, 1, none⟩ = some (.int .i64 x.souls) := hG.cell rfl
  have g2 : w3.cell? ⟨g, 2, none⟩ = some (.slice A n cap) := hG.cell rfl
  have g3 : w3.cell? ⟨g, 3, none⟩ = some (.slice B m cap2) := hG.cell rfl
  have HCALL := Lib.hid (HU2.out w3 (HC6.out.bel hb) (HD6.out.bel hb) (HL6.out.bel hb) HN6.out)
  clear hG hnb2
  go_wp2_with fail
  refine HCALL.out.mono ?_
  rintro e w4 ⟨v4, xs4, rfl, ho4, hb1⟩
  obtain ⟨A4, n4, c4, rfl, hs4⟩ := ho4.sl intC_good
  replace hs4 := hs4.all intC_good (by omega)
  replace hs1 := hs1.bel hb1
  replace hs2 := hs2.bel hb1
  replace hs3 := hs3.bel hb1
  replace hb := hb.trans (hb1.mono hb.size)
  clear ho4 hb1 HCALL g0 g1 g2 g3
  have hsm := SameSpans_any _ _ _ _ _ _ _ _ _ hs1 hs2
  rw [decide_eq_true rfl] at hsm
  have HSM := Lib.hid hsm
  clear hsm
  have HS3 := Lib.hid hs3
  have HS4 := Lib.hid hs4
  have HBB := Lib.hid hb
  clear hb
  clear hs1 hs2 hs3 hs4
  go_wp2_with fail
  refine HSM.out.mono ?_
  rintro e w13 ⟨rfl, q, hw13⟩
  have hbq : Below w4.heap.size w4 w13 := by rw [hw13]; exact below_drewN (Below.refl _ _) _
  have hsi := SameInts_any _ _ _ _ _ _ _ _ _ (HS3.out.bel hbq) (HS4.out.bel hbq)
  rw [decide_eq_true rfl] at hsi
  have HSI := Lib.hid hsi
  clear hsi
  have HB2 := Lib.hid (HBB.out.trans (hbq.mono HBB.out.size))
  clear hw13 hbq
  go_wp2_with fail
  refine HSI.out.mono ?_
  rintro e w14 ⟨rfl, q2, hw14⟩
  have HB4 := Lib.hid (show Below W6.heap.size W6 w14 by rw [hw14]; exact below_drewN HB2.out _)
  clear hw14
  go_wp2_with fail
  go_ret
  exact ⟨rfl, HB.out.trans (HB4.out.mono HB.out.size)⟩
set_option maxRecDepth 100000 in
theorem BookGone_lifted (os : Os) (started : os.Started) (H : Type) (enc : TypeId × Value → H) :
    ReturnsInHanded {} Try.checked os 4 .any (Rows.bookGoneSpec.pre6 enc Try.prog Try.f4 Rows.bookGoneRow.domain false) (Rows.bookGoneSpec.post enc Try.prog Try.f4 false true false false) := by
  refine returnsInHanded_of_change_sized (C := Try.checked) own started (by kernel_rfl) Try.func4
    (ChangeSpec.witness6 (enc := enc) (C := Try.checked) false ⟨#[], #[.agg #[.int .i64 0, .int .i64 0, .slice none 0 0, .slice none 0 0], .slice none 0 0, .int .i64 0, .int .i64 0], []⟩ 8 (by kernel_rfl) (by kernel_rfl) (by kernel_rfl) (by kernel_rfl)) ?_
  intro W base args ds gs before hval0 hW hcnd hsz0 _
  have hval : ∀ (j : Nat) t v, Try.f4.params[j]? = some t → args[j]? = some v → Value.okWide Try.prog W .any base t v := hval0
  have hW' := hW
  obtain ⟨p, q, hA0, hV, rfl, hfz, hnd⟩ := hW
  have hA : DataW.TrodAll enc Try.prog W 0 (fun _ => true) true Try.f4.params.toList args.toList ds p := hA0
  rw [Try.params4] at hA hval
  obtain ⟨v0, vs0, d0, ds0, p0, q0, hargs, rfl, rfl, h0, r0⟩ := trodAll_cons hA
  obtain ⟨v1, vs1, d1, ds1, p1, q1, rfl, rfl, rfl, h1, r1⟩ := trodAll_cons r0
  obtain ⟨v2, vs2, d2, ds2, p2, q2, rfl, rfl, rfl, h2, r2⟩ := trodAll_cons r1
  obtain ⟨v3, vs3, d3, ds3, p3, q3, rfl, rfl, rfl, h3, r3⟩ := trodAll_cons r2
  obtain ⟨rfl, rfl, rfl⟩ := trodAll_nil r3
  obtain rfl : args = #[v0, v1, v2, v3] := by cases args; simp_all
  obtain ⟨rfl, rfl⟩ := trodVars_none hV
  have lt0 := arg_lt h0
  have k0 := h0
  obtain ⟨cs0, a0, rfl, w0⟩ := arg_agg (c := shpC) Try.underlying25 opens_shpC (hval 0 25 v0 rfl rfl) h0
  have lt1 := arg_lt h1
  have k1 := h1
  obtain ⟨A1, n1, c1, a1, rfl, w1⟩ := arg_sl (size := 11) Try.underlying31 (by kernel_rfl) (by omega) opens_bkgC (hval 1 31 v1 rfl rfl) h1
  have z1 := arg_sl_len Try.underlying31 k1 (fun z hz => by have := List.all_eq_true.1 hsz0 z (DataW.weights_mem_each (j := 1) (by rw [Try.params4]; rfl) rfl z hz); simpa using this)
  rw [show Try.prog.bytesOf _ = 104 by kernel_rfl] at z1
  have y1 : n1 ≤ 1353245080300 := by simp only [reachBytes] at z1; omega
  have lt2 := arg_lt h2
  have k2 := h2
  obtain ⟨a2, rfl, w2⟩ := arg_int Try.underlying3 (hval 2 3 v2 rfl rfl) h2
  have lt3 := arg_lt h3
  have k3 := h3
  obtain ⟨a3, rfl, w3⟩ := arg_int Try.underlying3 (hval 3 3 v3 rfl rfl) h3
  clear hA0 hval0
  refine (BookGone_walk W cs0 a0 w0 A1 n1 c1 a1 w1 y1 a2 w2 a3 w3).mono fun e W' ⟨he, bel⟩ => ?_
  subst he
  exact ⟨_, rfl, _, _, _, [], _, [], hW', trodAll_mk1 (shut_bool Try.underlying4 _), (trodAll_cons_mk (Below.trod laidOut (by kernel_rfl) (of_decide_eq_true (by kernel_rfl)) k0 bel lt0) (trodAll_cons_mk (Below.trod laidOut (by kernel_rfl) (of_decide_eq_true (by kernel_rfl)) k1 bel lt1) (trodAll_cons_mk (Below.trod laidOut (by kernel_rfl) (of_decide_eq_true (by kernel_rfl)) k2 bel lt2) (trodAll_cons_mk (Below.trod laidOut (by kernel_rfl) (of_decide_eq_true (by kernel_rfl)) k3 bel lt3) trodAll_mk0)))), rfl, bel.frame _, fun h => by cases h⟩

/-- THE GIVEN STATEMENT BookGone. -/
theorem bookGone_holds : Rows.BookGoneSaid :=
  OpenClaim.holds_of_wide 4 Try.f4 rfl rfl rfl rfl rfl rfl rfl ⟨rfl, rfl, rfl, rfl, rfl⟩ rfl rfl rfl rfl rfl (by kernel_rfl) Try.func4 (by kernel_rfl)
    (of_decide_eq_true (by kernel_rfl)) (by unfold Func.isWrapper; rw [if_neg (of_decide_eq_false (by kernel_rfl))]; exact ⟨rfl, rfl⟩)
    (fun os started H enc _ => BookGone_lifted os started H enc)
#print axioms bookGone_holds
end Go.Proofs.Ytlablioefblmkaa
