/-
  Words, laws and contracts: SameS, SameT.
-/
import Derived.Test.YtoilcdgpeilgaaaGreatBun25
import Derived.BigQuiet
set_option linter.unusedSimpArgs false
set_option linter.unusedVariables false
namespace Go.Proofs.YtoilcdgpeilgaaaGreat
open Go.RowKit Go.Shelf
theorem same_span (f u : Int) (W : World) : (binOp .eql 34 (.agg #[.int .i64 f, .int .i64 u]) (.agg #[.int .i64 f, .int .i64 u])).run Tryz.prog W = .ok (.bool true) W := by
  go_simp
theorem same_band (f u : Int) (W : World) : (binOp .neq 186 (.agg #[.int .i64 f, .int .i64 u]) (.agg #[.int .i64 f, .int .i64 u])).run Tryz.prog W = .ok (.bool false) W := by
  go_simp
theorem same_str (s : List UInt8) (W : World) : (binOp .neq 9 (strV s) (strV s)).run Tryz.prog W = .ok (.bool false) W := by
  go_simp
theorem same_cab (s : List UInt8) (a b : Int) (l : Bool) (W : World) : (binOp .neq 76 (.agg #[strV s, .int .i64 a, .int .i64 b, .bool l]) (.agg #[strV s, .int .i64 a, .int .i64 b, .bool l])).run Tryz.prog W = .ok (.bool false) W := by
  go_simp
set_option maxRecDepth 100000 in
set_option maxHeartbeats 8000000 in
theorem SameBooking_any (b : Bkg) (A3 : Option Addr) (n3 c3 : Nat) (B3 : Option Addr) (m3 d3 : Nat) (w : World) (h1 : Sl entryC 3 w All A3 n3 c3 b.fol) (h2 : Sl entryC 3 w All B3 m3 d3 b.fol) :
    Calls Tryz.prog 26 #[.agg (bkgA b (.slice A3 n3 c3)), .agg (bkgA b (.slice B3 m3 d3))] w fun e w' => e = .returned (.bool true) ∧ Below w.heap.size w w' := by
  obtain ⟨id, kind, state, gst, lev, cab, cat, frm, upto, til, fol⟩ := b
  simp only at h1 h2
  have HC := Lib.hid (fun X hX => SameFolio_any A3 B3 n3 c3 m3 d3 fol fol X (h1.bel hX) (h2.bel hX))
  rw [decide_eq_true (rfl : fol = fol)] at HC
  clear h1 h2
  have hsp := fun W => same_span frm upto W
  go_enter Tryz.func26, Tryz.ntmps26
  go_wp2_with fail
  refine (HC.out _ (bel2 w _ _)).mono ?_
  rintro e w2 ⟨rfl, q, rfl⟩
  go_wp2_with fail
  go_ret
  exact ⟨rfl, below_drewN (bel2 _ _ _) _⟩
set_option maxRecDepth 100000 in
set_option maxHeartbeats 8000000 in
theorem SameShip_any (x : Shp) (A : Option Addr) (n cap : Nat) (B : Option Addr) (m cap2 : Nat) (A' : Option Addr) (n' cap' : Nat) (B' : Option Addr) (m' cap2' : Nat) (w : World) (h1 : Sl catC 2 w All A n cap x.cats) (h2 : Sl cabC 4 w All B m cap2 x.cabs) (h3 : Sl catC 2 w All A' n' cap' x.cats) (h4 : Sl cabC 4 w All B' m' cap2' x.cabs) :
    Calls Tryz.prog 60 #[.agg #[.int .i64 x.legs, .int .i64 x.souls, .slice A n cap, .slice B m cap2], .agg #[.int .i64 x.legs, .int .i64 x.souls, .slice A' n' cap', .slice B' m' cap2']] w fun e w' => e = .returned (.bool true) ∧ Below w.heap.size w w' := by
  obtain rfl : n' = n := by rw [← h1.len, ← h3.len]
  obtain rfl : m' = m := by rw [← h2.len, ← h4.len]
  have hnb := h1.bd
  have hmb := h2.bd
  have H1 := Lib.hid h1
  have H2 := Lib.hid h2
  have H3 := Lib.hid h3
  have H4 := Lib.hid h4
  clear h1 h2 h3 h4
  go_enter Tryz.func60, Tryz.ntmps60
  go_upto_region 0 with (fail)
  go_cut [2, 3, 4] (fun p p2 _ wx => ∃ g h, p = .pointer (some ⟨g, 0, none⟩) ∧ p2 = .pointer (some ⟨h, 0, none⟩) ∧ Blk wx g #[.int .i64 x.legs, .int .i64 x.souls, .slice A n' cap, .slice B m' cap2] 25 ∧ Blk wx h #[.int .i64 x.legs, .int .i64 x.souls, .slice A' n' cap', .slice B' m' cap2'] 25 ∧ Below w.heap.size w wx)
  case first => as_aux_lemma =>
    go_wp2_with fail
    go_meet
    exact ⟨_, _, rfl, rfl, blk2_0 _ _ _, blk2_1 _ _ _, bel2 _ _ _⟩
  obtain ⟨g, h, rfl, rfl, hG, hH, hb0⟩ := hcut
  obtain ⟨W1, hW1⟩ : ∃ V, V = wc := ⟨_, rfl⟩
  subst hW1
  have HG := Lib.hid (fun X (hX : Below W1.heap.size W1 X) => hG.bel hX)
  have HH := Lib.hid (fun X (hX : Below W1.heap.size W1 X) => hH.bel hX)
  have HT := Lib.hid (fun X (hX : Below W1.heap.size W1 X) => hb0.trans (hX.mono hb0.size))
  have g0 : W1.cell? ⟨g, 0, none⟩ = some (.int .i64 x.legs) := hG.cell rfl
  have g1 : W1.cell? ⟨g, 1, none⟩ = some (.int .i64 x.souls) := hG.cell rfl
  have g2 : W1.cell? ⟨g, 2, none⟩ = some (.slice A n' cap) := hG.cell rfl
  have g3 : W1.cell? ⟨g, 3, none⟩ = some (.slice B m' cap2) := hG.cell rfl
  have k0 : W1.cell? ⟨h, 0, none⟩ = some (.int .i64 x.legs) := hH.cell rfl
  have k1 : W1.cell? ⟨h, 1, none⟩ = some (.int .i64 x.souls) := hH.cell rfl
  have k2 : W1.cell? ⟨h, 2, none⟩ = some (.slice A' n' cap') := hH.cell rfl
  have k3 : W1.cell? ⟨h, 3, none⟩ = some (.slice B' m' cap2') := hH.cell rfl
  clear hG hH hb0
  go_wp2_with fail
  clear g0 g1 g2 g3 k0 k1 k2 k3
  go_loopg [5] n' (fun gk i wr => ∃ k : Nat, k ≤ n' ∧ n' - k ≤ gk ∧ i = .int .i64 k ∧ Below W1.heap.size W1 wr)
  case atStart => exact ⟨0, Nat.zero_le _, by omega, rfl, Below.refl _ _⟩
  case round =>
    obtain ⟨k, hk, hgk, rfl, hb⟩ := hrel
    have g2 : wr.cell? ⟨g, 2, none⟩ = some (.slice A n' cap) := (HG.out _ hb).cell rfl
    by_cases hlt : k < n'
    · obtain ⟨ab, off, y, c0, c1, hA, hx, ⟨A5, n5, c5, hc, hs5, _⟩, e0, e1⟩ := (H1.out.bel (HT.out _ hb)).at2 hlt
      simp only [List.cons.injEq, and_true] at hc
      obtain ⟨rfl, rfl⟩ := hc
      obtain ⟨ab2, off2, y2, c0, c1, hA2, hx2, ⟨A6, n6, c6, hc, hs6, _⟩, f0, f1⟩ := (H3.out.bel (HT.out _ hb)).at2 hlt
      simp only [List.cons.injEq, and_true] at hc
      obtain ⟨rfl, rfl⟩ := hc
      rw [hx] at hx2
      injection hx2 with hx2
      subst hx2
      subst hA hA2
      obtain ⟨nm, hnm⟩ : ∃ s, s = y.name := ⟨_, rfl⟩
      rw [← hnm] at e0 f0
      have hstr := fun W => same_str nm W
      have hk0 : (0 : Int) ≤ (k : Int) := by omega
      have hk1 : (k : Int) < (n' : Int) := by omega
      obtain ⟨w1, hw1⟩ : ∃ V, V = wr := ⟨_, rfl⟩
      subst hw1
      have HSX := Lib.hid (show ∀ w', Below w1.heap.size w1 w' → (w'.cell? ⟨g, 2, none⟩ = some (.slice (some ⟨ab, off, none⟩) n' cap) ∧ w'.cell? ⟨h, 2, none⟩ = some (.slice (some ⟨ab2, off2, none⟩) n' cap') ∧ w'.cell? ⟨ab, off + k * 2, none⟩ = some (strV nm) ∧ w'.cell? ⟨ab, off + k * 2 + 1, none⟩ = some (.slice A5 n5 c5) ∧ w'.cell? ⟨ab2, off2 + k * 2, none⟩ = some (strV nm) ∧ w'.cell? ⟨ab2, off2 + k * 2 + 1, none⟩ = some (.slice A6 n6 c6)) from fun w' hX =>
        ⟨cellB hX g2, cellB hX ((HH.out _ hb).cell rfl), cellB hX e0, cellB hX e1, cellB hX f0, cellB hX f1⟩)
      have HC := Lib.hid (fun X (hX : Below w1.heap.size w1 X) => SameInts_any A5 A6 n5 c5 n6 c6 y.high y.high X (hs5.bel hX) (hs6.bel hX))
      rw [decide_eq_true (rfl : y.high = y.high)] at HC
      clear hx hs5 hs6 e0 e1 f0 f1 hnm
      go_upto_region 6 with (fail)
      clear g2
      have hbx : Below w1.heap.size w1 w1.drew := (Below.refl _ _).drew
      refine wp_region_held_drew (S := (fun w' => w'.cell? ⟨g, 2, none⟩ = some (.slice (some ⟨ab, off, none⟩) n' cap) ∧ w'.cell? ⟨h, 2, none⟩ = some (.slice (some ⟨ab2, off2, none⟩) n' cap') ∧ w'.cell? ⟨ab, off + k * 2, none⟩ = some (strV nm) ∧ w'.cell? ⟨ab, off + k * 2 + 1, none⟩ = some (.slice A5 n5 c5) ∧ w'.cell? ⟨ab2, off2 + k * 2, none⟩ = some (strV nm) ∧ w'.cell? ⟨ab2, off2 + k * 2 + 1, none⟩ = some (.slice A6 n6 c6))) (by kernel_rfl) (HSX.out _ hbx) (fun hHeld => ?_)
      refine wpAnyH_take (i := 0) (v := ?v1) (gA rfl) (by kernel_rfl) (by kernel_rfl) (by kernel_rfl) (fun _ _ _ h => h) (Or.inl ⟨rfl, ?y1⟩) (by assumption) ?_
      case y1 => (intro w hSw; (try dsimp only at hSw); go_simp <;> with_reducible rfl)
      simp only [Act.put, List.setIfInBounds_toArray, List.set_cons_zero, List.set_cons_succ]
      refine wpAnyH_take (i := 1) (v := ?v2) (gA rfl) (by kernel_rfl) (by kernel_rfl) (by kernel_rfl) (fun _ _ _ h => h) (Or.inl ⟨rfl, ?y2⟩) (by assumption) ?_
      case y2 => (intro w hSw; (try dsimp only at hSw); go_simp <;> with_reducible rfl)
      simp only [Act.put, List.setIfInBounds_toArray, List.set_cons_zero, List.set_cons_succ]
      refine wpAnyH_take (i := 2) (v := ?v3) (gA rfl) (by kernel_rfl) (by kernel_rfl) (by kernel_rfl) (fun _ _ _ h => h) (Or.inl ⟨rfl, ?y3⟩) (by assumption) ?_
      case y3 => (intro w hSw; (try dsimp only at hSw); go_simp <;> with_reducible rfl)
      simp only [Act.put, List.setIfInBounds_toArray, List.set_cons_zero, List.set_cons_succ]
      refine wpAnyH_take (i := 3) (v := ?v4) (gA rfl) (by kernel_rfl) (by kernel_rfl) (by kernel_rfl) (fun _ _ _ h => h) (Or.inl ⟨rfl, ?y4⟩) (by assumption) ?_
      case y4 => (intro w hSw; (try dsimp only at hSw); go_simp <;> with_reducible rfl)
      simp only [Act.put, List.setIfInBounds_toArray, List.set_cons_zero, List.set_cons_succ]
      refine wpAnyH_take (i := 4) (v := ?v5) (gA rfl) (by kernel_rfl) (by kernel_rfl) (by kernel_rfl) (fun _ _ _ h => h) (Or.inl ⟨rfl, ?y5⟩) (by assumption) ?_
      case y5 => (intro w hSw; (try dsimp only at hSw); go_simp <;> with_reducible rfl)
      simp only [Act.put, List.setIfInBounds_toArray, List.set_cons_zero, List.set_cons_succ]
      refine wpAnyH_take (i := 5) (v := ?v6) (gA rfl) (by kernel_rfl) (by kernel_rfl) (by kernel_rfl) (fun _ _ _ h => h) (Or.inl ⟨rfl, ?y6⟩) (by assumption) ?_
      case y6 => (intro w hSw; (try dsimp only at hSw); go_simp <;> with_reducible rfl)
      simp only [Act.put, List.setIfInBounds_toArray, List.set_cons_zero, List.set_cons_succ]
      refine wpAnyH_take (i := 6) (v := ?v7) (gA rfl) (by kernel_rfl) (by kernel_rfl) (by kernel_rfl) (fun _ _ _ h => h) (Or.inl ⟨rfl, ?y7⟩) (by assumption) ?_
      case y7 => (intro w hSw; (try dsimp only at hSw); go_simp <;> with_reducible rfl)
      simp only [Act.put, List.setIfInBounds_toArray, List.set_cons_zero, List.set_cons_succ]
      refine wpAnyH_take (i := 7) (v := ?v8) (gA rfl) (by kernel_rfl) (by kernel_rfl) (by kernel_rfl) (fun _ _ _ h => h) (Or.inl ⟨rfl, ?y8⟩) (by assumption) ?_
      case y8 => (intro w hSw; (try dsimp only at hSw); go_simp <;> with_reducible rfl)
      simp only [Act.put, List.setIfInBounds_toArray, List.set_cons_zero, List.set_cons_succ]
      refine wpAnyH_take (i := 8) (v := ?v9) (gA rfl) (by kernel_rfl) (by kernel_rfl) (by kernel_rfl) (fun _ _ _ h => h) (Or.inl ⟨rfl, ?y9⟩) (by assumption) ?_
      case y9 => (intro w hSw; (try dsimp only at hSw); go_simp <;> with_reducible rfl)
      simp only [Act.put, List.setIfInBounds_toArray, List.set_cons_zero, List.set_cons_succ]
      refine wpAnyH_take (i := 9) (v := ?v10) (gA rfl) (by kernel_rfl) (by kernel_rfl) (by kernel_rfl) (fun _ _ _ h => h) (Or.inl ⟨rfl, ?y10⟩) (by assumption) ?_
      case y10 => (intro w hSw; (try dsimp only at hSw); go_simp <;> with_reducible rfl)
      simp only [Act.put, List.setIfInBounds_toArray, List.set_cons_zero, List.set_cons_succ]
      refine wpAnyH_take (i := 10) (v := ?v11) (gA rfl) (by kernel_rfl) (by kernel_rfl) (by kernel_rfl) (fun _ _ _ h => h) (Or.inl ⟨rfl, ?y11⟩) (by assumption) ?_
      case y11 => (intro w hSw; (try dsimp only at hSw); go_simp <;> with_reducible rfl)
      simp only [Act.put, List.setIfInBounds_toArray, List.set_cons_zero, List.set_cons_succ]
      refine wpAnyH_take (i := 11) (v := ?v12) (gA rfl) (by kernel_rfl) (by kernel_rfl) (by kernel_rfl) (fun _ _ _ h => h) (Or.inl ⟨rfl, ?y12⟩) (by assumption) ?_
      case y12 => (intro w hSw; (try dsimp only at hSw); go_simp <;> with_reducible rfl)
      simp only [Act.put, List.setIfInBounds_toArray, List.set_cons_zero, List.set_cons_succ]
      refine wpAnyH_take (i := 12) (v := ?v13) (gA rfl) (by kernel_rfl) (by kernel_rfl) (by kernel_rfl) (fun _ _ _ h => h) (Or.inl ⟨rfl, ?y13⟩) (by assumption) ?_
      case y13 => (intro w hSw; (try dsimp only at hSw); go_simp <;> with_reducible rfl)
      simp only [Act.put, List.setIfInBounds_toArray, List.set_cons_zero, List.set_cons_succ]
      refine wpAnyH_take (i := 13) (v := ?v14) (gA rfl) (by kernel_rfl) (by kernel_rfl) (by kernel_rfl) (fun _ _ _ h => h) (Or.inl ⟨rfl, ?y14⟩) (by assumption) ?_
      case y14 => (intro w hSw; (try dsimp only at hSw); go_simp <;> with_reducible rfl)
      simp only [Act.put, List.setIfInBounds_toArray, List.set_cons_zero, List.set_cons_succ]
      refine wpAnyH_take (i := 14) (v := ?v15) (gA rfl) (by kernel_rfl) (by kernel_rfl) (by kernel_rfl) (fun _ _ _ h => h) (Or.inl ⟨rfl, ?y15⟩) (by assumption) ?_
      case y15 => (intro w hSw; (try dsimp only at hSw); go_simp <;> with_reducible rfl)
      simp only [Act.put, List.setIfInBounds_toArray, List.set_cons_zero, List.set_cons_succ]
      refine wpAnyH_take (i := 15) (v := ?v16) (gA rfl) (by kernel_rfl) (by kernel_rfl) (by kernel_rfl) (fun _ _ _ h => h) (Or.inl ⟨rfl, ?y16⟩) (by assumption) ?_
      case y16 => (intro w hSw; (try dsimp only at hSw); go_simp <;> with_reducible rfl)
      simp only [Act.put, List.setIfInBounds_toArray, List.set_cons_zero, List.set_cons_succ]
      refine wpAnyH_take (i := 16) (v := ?v17) (gA rfl) (by kernel_rfl) (by kernel_rfl) (by kernel_rfl) (fun _ _ _ h => h) (Or.inl ⟨rfl, ?y17⟩) (by assumption) ?_
      case y17 => (intro w hSw; (try dsimp only at hSw); go_simp <;> with_reducible rfl)
      simp only [Act.put, List.setIfInBounds_toArray, List.set_cons_zero, List.set_cons_succ]
      refine wpAnyH_take (i := 17) (v := ?v18) (gA rfl) (by kernel_rfl) (by kernel_rfl) (by kernel_rfl) (fun _ _ _ h => h) (Or.inl ⟨rfl, ?y18⟩) (by assumption) ?_
      case y18 => (intro w hSw; (try dsimp only at hSw); go_simp <;> with_reducible rfl)
      simp only [Act.put, List.setIfInBounds_toArray, List.set_cons_zero, List.set_cons_succ]
      refine wpAnyH_take (i := 18) (v := ?v19) (gA rfl) (by kernel_rfl) (by kernel_rfl) (by kernel_rfl) (fun _ _ _ h => h) (Or.inl ⟨rfl, ?y19⟩) (by assumption) ?_
      case y19 => (intro w hSw; (try dsimp only at hSw); go_simp <;> with_reducible rfl)
      simp only [Act.put, List.setIfInBounds_toArray, List.set_cons_zero, List.set_cons_succ]
      refine wpAnyH_take (i := 19) (v := ?v20) (gA rfl) (by kernel_rfl) (by kernel_rfl) (by kernel_rfl) (fun _ _ _ h => h) (Or.inl ⟨rfl, ?y20⟩) (by assumption) ?_
      case y20 => (intro w hSw; (try dsimp only at hSw); go_simp <;> with_reducible rfl)
      simp only [Act.put, List.setIfInBounds_toArray, List.set_cons_zero, List.set_cons_succ]
      refine wpAnyH_take (i := 20) (v := ?v21) (gA rfl) (by kernel_rfl) (by kernel_rfl) (by kernel_rfl) (fun _ _ _ h => h) (Or.inl ⟨rfl, ?y21⟩) (by assumption) ?_
      case y21 => (intro w hSw; (try dsimp only at hSw); go_simp <;> with_reducible rfl)
      simp only [Act.put, List.setIfInBounds_toArray, List.set_cons_zero, List.set_cons_succ]
      refine wpAnyH_take (i := 21) (v := ?v22) (gA rfl) (by kernel_rfl) (by kernel_rfl) (by kernel_rfl) (fun _ _ _ h => h) (Or.inl ⟨rfl, ?y22⟩) (by assumption) ?_
      case y22 => (intro w hSw; (try dsimp only at hSw); go_simp <;> with_reducible rfl)
      simp only [Act.put, List.setIfInBounds_toArray, List.set_cons_zero, List.set_cons_succ]
      refine wpAnyH_take (i := 22) (v := ?v23) (gA rfl) (by kernel_rfl) (by kernel_rfl) (by kernel_rfl) (fun _ _ _ h => h) (Or.inl ⟨rfl, ?y23⟩) (by assumption) ?_
      case y23 => (intro w hSw; (try dsimp only at hSw); go_simp <;> with_reducible rfl)
      simp only [Act.put, List.setIfInBounds_toArray, List.set_cons_zero, List.set_cons_succ]
      refine wpAnyH_take (i := 23) (v := ?v24) (gA rfl) (by kernel_rfl) (by kernel_rfl) (by kernel_rfl) (fun _ _ _ h => h) (Or.inl ⟨rfl, ?y24⟩) (by assumption) ?_
      case y24 => (intro w hSw; (try dsimp only at hSw); go_simp <;> with_reducible rfl)
      simp only [Act.put, List.setIfInBounds_toArray, List.set_cons_zero, List.set_cons_succ]
      refine wpAnyH_take (i := 24) (v := ?v25) (gA rfl) (by kernel_rfl) (by kernel_rfl) (by kernel_rfl) (fun _ _ _ h => h) (Or.inl ⟨rfl, ?y25⟩) (by assumption) ?_
      case y25 => (intro w hSw; (try dsimp only at hSw); go_simp <;> with_reducible rfl)
      simp only [Act.put, List.setIfInBounds_toArray, List.set_cons_zero, List.set_cons_succ]
      refine wpAnyH_take (i := 25) (v := ?v26) (gA rfl) (by kernel_rfl) (by kernel_rfl) (by kernel_rfl) (fun _ _ _ h => h) (Or.inl ⟨rfl, ?y26⟩) (by assumption) ?_
      case y26 => (intro w hSw; (try dsimp only at hSw); go_simp <;> with_reducible rfl)
      simp only [Act.put, List.setIfInBounds_toArray, List.set_cons_zero, List.set_cons_succ]
      refine wpAnyH_ready (rs := [26]) (by kernel_rfl) (by simp) (AllReadyH.cons (gA rfl) (fun K hK => ?_) AllReadyH.nil)
      go_simp
      (go_at_call 49; refine (HC.out _ hbx).mono ?_; rintro e w5 ⟨rfl, q, hq⟩; replace hbx : Below w1.heap.size w1 w5 := (by rw [hq]; exact below_drewN hbx _); clear hq)
      go_wp2_with fail
      refine hK.out _ _ ?_ (fun hHeld => ?_)
      · exact HSX.out _ hbx
      clear hK K
      try simp only [Act.put, List.setIfInBounds_toArray, List.set_cons_zero, List.set_cons_succ]
      refine wpAnyH_take (i := 27) (v := ?v28) (gA rfl) (by kernel_rfl) (by kernel_rfl) (by kernel_rfl) (fun _ _ _ h => h) (Or.inl ⟨rfl, ?y28⟩) (by assumption) ?_
      case y28 => (intro w hSw; (try dsimp only at hSw); go_simp <;> with_reducible rfl)
      simp only [Act.put, List.setIfInBounds_toArray, List.set_cons_zero, List.set_cons_succ]
      refine wpAnyH_take (i := 28) (v := ?v29) (gA rfl) (by kernel_rfl) (by kernel_rfl) (by kernel_rfl) (fun _ _ _ h => h) (Or.inl ⟨rfl, ?y29⟩) (by assumption) ?_
      case y29 => (intro w hSw; (try dsimp only at hSw); go_simp <;> with_reducible rfl)
      simp only [Act.put, List.setIfInBounds_toArray, List.set_cons_zero, List.set_cons_succ]
      refine wpAnyH_done (by kernel_rfl) ?_ _
      go_wp2_with fail
      go_roundg (n' - (k + 1))
      case measure => omega
      case rel => exact ⟨k + 1, by omega, by omega, by go_num, hb.trans (hbx.mono hb.size)⟩
    · obtain rfl : k = n' := by omega
      go_wp2_with fail
      clear g2
      obtain ⟨W2, hW2⟩ : ∃ V, V = wr := ⟨_, rfl⟩
      subst hW2
      go_loopg [6] m' (fun gk i wr => ∃ k : Nat, k ≤ m' ∧ m' - k ≤ gk ∧ i = .int .i64 k ∧ Below W1.heap.size W1 wr)
      case atStart => exact ⟨0, Nat.zero_le _, by omega, rfl, hb⟩
      case round =>
        clear hb
        obtain ⟨k, hk, hgk, rfl, hb⟩ := hrel
        have g3 : wr.cell? ⟨g, 3, none⟩ = some (.slice B m' cap2) := (HG.out _ hb).cell rfl
        by_cases hlt : k < m'
        · obtain ⟨ab, off, y, c0, c1, c2, c3, hA, hx, ⟨hc, _⟩, e0, e1, e2, e3⟩ := (H2.out.bel (HT.out _ hb)).at4 hlt
          simp only [List.cons.injEq, and_true] at hc
          obtain ⟨rfl, rfl, rfl, rfl⟩ := hc
          obtain ⟨ab2, off2, y2, c0, c1, c2, c3, hA2, hx2, ⟨hc, _⟩, f0, f1, f2, f3⟩ := (H4.out.bel (HT.out _ hb)).at4 hlt
          simp only [List.cons.injEq, and_true] at hc
          obtain ⟨rfl, rfl, rfl, rfl⟩ := hc
          rw [hx] at hx2
          injection hx2 with hx2
          subst hx2
          subst hA hA2
          have k3 : wr.cell? ⟨h, 3, none⟩ = some (.slice (some ⟨ab2, off2, none⟩) m' cap2') := (HH.out _ hb).cell rfl
          have hcab := fun W => same_cab y.name y.cat y.ber y.lev W
          have hk0 : (0 : Int) ≤ (k : Int) := by omega
          have hk1 : (k : Int) < (m' : Int) := by omega
          clear hx
          go_upto_region 11 with (fail)
          go_quiet (fail)
          go_wp2_with fail
          go_roundg (m' - (k + 1))
          case measure => omega
          case rel => exact ⟨k + 1, by omega, by omega, by go_num, below_drewN hb _⟩
        · obtain rfl : k = m' := by omega
          go_wp2_with fail
          go_ret
          exact ⟨rfl, HT.out _ hb⟩
set_option maxRecDepth 100000 in
set_option maxHeartbeats 8000000 in
theorem SameFares_any (x : Fares) (A : Option Addr) (n cap : Nat) (B : Option Addr) (m cap2 : Nat) (A' : Option Addr) (n' cap' : Nat) (B' : Option Addr) (m' cap2' : Nat) (w : World) (h1 : FareR w A n cap x B m cap2) (h2 : FareR w A' n' cap' x B' m' cap2') :
    Calls Tryz.prog 61 #[.agg #[.slice A n cap, .int .i64 x.alone, .int .i64 x.third, .slice B m cap2, .int .i64 x.down], .agg #[.slice A' n' cap', .int .i64 x.alone, .int .i64 x.third, .slice B' m' cap2', .int .i64 x.down]] w fun e w' => e = .returned (.bool true) ∧ Below w.heap.size w w' := by
  obtain rfl : n' = n := by rw [← h1.leg.len, ← h2.leg.len]
  obtain rfl : m' = m := by rw [← h1.bands.len, ← h2.bands.len]
  have hnb := h1.leg.bd
  have hmb := h1.bands.bd
  have H1 := Lib.hid h1
  have H2 := Lib.hid h2
  clear h1 h2
  go_enter Tryz.func61, Tryz.ntmps61
  go_upto_region 0 with (fail)
  go_cut [2, 3, 4] (fun p p2 _ wx => ∃ g h, p = .pointer (some ⟨g, 0, none⟩) ∧ p2 = .pointer (some ⟨h, 0, none⟩) ∧ Blk wx g #[.slice A n' cap, .int .i64 x.alone, .int .i64 x.third, .slice B m' cap2, .int .i64 x.down] 29 ∧ Blk wx h #[.slice A' n' cap', .int .i64 x.alone, .int .i64 x.third, .slice B' m' cap2', .int .i64 x.down] 29 ∧ Below w.heap.size w wx)
  case first => as_aux_lemma =>
    go_wp2_with fail
    go_meet
    exact ⟨_, _, rfl, rfl, blk2_0 _ _ _, blk2_1 _ _ _, bel2 _ _ _⟩
  obtain ⟨g, h, rfl, rfl, hG, hH, hb0⟩ := hcut
  obtain ⟨W1, hW1⟩ : ∃ V, V = wc := ⟨_, rfl⟩
  subst hW1
  have HG := Lib.hid (fun X (hX : Below W1.heap.size W1 X) => hG.bel hX)
  have HH := Lib.hid (fun X (hX : Below W1.heap.size W1 X) => hH.bel hX)
  have HT := Lib.hid (fun X (hX : Below W1.heap.size W1 X) => hb0.trans (hX.mono hb0.size))
  have g0 : W1.cell? ⟨g, 0, none⟩ = some (.slice A n' cap) := hG.cell rfl
  have g1 : W1.cell? ⟨g, 1, none⟩ = some (.int .i64 x.alone) := hG.cell rfl
  have g2 : W1.cell? ⟨g, 2, none⟩ = some (.int .i64 x.third) := hG.cell rfl
  have g3 : W1.cell? ⟨g, 3, none⟩ = some (.slice B m' cap2) := hG.cell rfl
  have g4 : W1.cell? ⟨g, 4, none⟩ = some (.int .i64 x.down) := hG.cell rfl
  have k0 : W1.cell? ⟨h, 0, none⟩ = some (.slice A' n' cap') := hH.cell rfl
  have k1 : W1.cell? ⟨h, 1, none⟩ = some (.int .i64 x.alone) := hH.cell rfl
  have k2 : W1.cell? ⟨h, 2, none⟩ = some (.int .i64 x.third) := hH.cell rfl
  have k3 : W1.cell? ⟨h, 3, none⟩ = some (.slice B' m' cap2') := hH.cell rfl
  have k4 : W1.cell? ⟨h, 4, none⟩ = some (.int .i64 x.down) := hH.cell rfl
  clear hG hH hb0
  go_wp2_with fail
  clear g0 g1 g2 g3 g4 k0 k1 k2 k3 k4
  go_loopg [5] n' (fun gk i wr => ∃ k : Nat, k ≤ n' ∧ n' - k ≤ gk ∧ i = .int .i64 k ∧ Below W1.heap.size W1 wr)
  case atStart => exact ⟨0, Nat.zero_le _, by omega, rfl, Below.refl _ _⟩
  case round =>
    obtain ⟨k, hk, hgk, rfl, hb⟩ := hrel
    have g0 : wr.cell? ⟨g, 0, none⟩ = some (.slice A n' cap) := (HG.out _ hb).cell rfl
    by_cases hlt : k < n'
    · obtain ⟨ab, off, y, c0, hA, hx, ⟨A5, n5, c5, hc, hs5⟩, e0⟩ := (H1.out.leg.below (slC_good intC_good (by omega)) (by omega) (HT.out _ hb)).at1 hlt
      simp only [List.cons.injEq, and_true] at hc
      subst hc
      obtain ⟨ab2, off2, y2, c0, hA2, hx2, ⟨A6, n6, c6, hc, hs6⟩, f0⟩ := (H2.out.leg.below (slC_good intC_good (by omega)) (by omega) (HT.out _ hb)).at1 hlt
      simp only [List.cons.injEq, and_true] at hc
      subst hc
      rw [hx] at hx2
      injection hx2 with hx2
      subst hx2
      subst hA hA2
      have hk0 : (0 : Int) ≤ (k : Int) := by omega
      have hk1 : (k : Int) < (n' : Int) := by omega
      obtain ⟨w1, hw1⟩ : ∃ V, V = wr := ⟨_, rfl⟩
      subst hw1
      have HSX := Lib.hid (show ∀ w', Below w1.heap.size w1 w' → (w'.cell? ⟨g, 0, none⟩ = some (.slice (some ⟨ab, off, none⟩) n' cap) ∧ w'.cell? ⟨h, 0, none⟩ = some (.slice (some ⟨ab2, off2, none⟩) n' cap') ∧ w'.cell? ⟨ab, off + k, none⟩ = some (.slice A5 n5 c5) ∧ w'.cell? ⟨ab2, off2 + k, none⟩ = some (.slice A6 n6 c6)) from fun w' hX =>
        ⟨cellB hX g0, cellB hX ((HH.out _ hb).cell rfl), cellB hX e0, cellB hX f0⟩)
      have HC := Lib.hid (fun X (hX : Below w1.heap.size w1 X) => SameInts_any A5 A6 n5 c5 n6 c6 y y X (hs5.bel hX) (hs6.bel hX))
      rw [decide_eq_true (rfl : y = y)] at HC
      clear hx hs5 hs6 e0 f0
      go_upto_region 6 with (fail)
      clear g0
      have hbx : Below w1.heap.size w1 w1.drew := (Below.refl _ _).drew
      refine wp_region_held_drew (S := (fun w' => w'.cell? ⟨g, 0, none⟩ = some (.slice (some ⟨ab, off, none⟩) n' cap) ∧ w'.cell? ⟨h, 0, none⟩ = some (.slice (some ⟨ab2, off2, none⟩) n' cap') ∧ w'.cell? ⟨ab, off + k, none⟩ = some (.slice A5 n5 c5) ∧ w'.cell? ⟨ab2, off2 + k, none⟩ = some (.slice A6 n6 c6))) (by kernel_rfl) (HSX.out _ hbx) (fun hHeld => ?_)
      refine wpAnyH_take (i := 0) (v := ?v30) (gA rfl) (by kernel_rfl) (by kernel_rfl) (by kernel_rfl) (fun _ _ _ h => h) (Or.inl ⟨rfl, ?y30⟩) (by assumption) ?_
      case y30 => (intro w hSw; (try dsimp only at hSw); go_simp <;> with_reducible rfl)
      simp only [Act.put, List.setIfInBounds_toArray, List.set_cons_zero, List.set_cons_succ]
      refine wpAnyH_take (i := 1) (v := ?v31) (gA rfl) (by kernel_rfl) (by kernel_rfl) (by kernel_rfl) (fun _ _ _ h => h) (Or.inl ⟨rfl, ?y31⟩) (by assumption) ?_
      case y31 => (intro w hSw; (try dsimp only at hSw); go_simp <;> with_reducible rfl)
      simp only [Act.put, List.setIfInBounds_toArray, List.set_cons_zero, List.set_cons_succ]
      refine wpAnyH_take (i := 2) (v := ?v32) (gA rfl) (by kernel_rfl) (by kernel_rfl) (by kernel_rfl) (fun _ _ _ h => h) (Or.inl ⟨rfl, ?y32⟩) (by assumption) ?_
      case y32 => (intro w hSw; (try dsimp only at hSw); go_simp <;> with_reducible rfl)
      simp only [Act.put, List.setIfInBounds_toArray, List.set_cons_zero, List.set_cons_succ]
      refine wpAnyH_take (i := 3) (v := ?v33) (gA rfl) (by kernel_rfl) (by kernel_rfl) (by kernel_rfl) (fun _ _ _ h => h) (Or.inl ⟨rfl, ?y33⟩) (by assumption) ?_
      case y33 => (intro w hSw; (try dsimp only at hSw); go_simp <;> with_reducible rfl)
      simp only [Act.put, List.setIfInBounds_toArray, List.set_cons_zero, List.set_cons_succ]
      refine wpAnyH_take (i := 4) (v := ?v34) (gA rfl) (by kernel_rfl) (by kernel_rfl) (by kernel_rfl) (fun _ _ _ h => h) (Or.inl ⟨rfl, ?y34⟩) (by assumption) ?_
      case y34 => (intro w hSw; (try dsimp only at hSw); go_simp <;> with_reducible rfl)
      simp only [Act.put, List.setIfInBounds_toArray, List.set_cons_zero, List.set_cons_succ]
      refine wpAnyH_take (i := 5) (v := ?v35) (gA rfl) (by kernel_rfl) (by kernel_rfl) (by kernel_rfl) (fun _ _ _ h => h) (Or.inl ⟨rfl, ?y35⟩) (by assumption) ?_
      case y35 => (intro w hSw; (try dsimp only at hSw); go_simp <;> with_reducible rfl)
      simp only [Act.put, List.setIfInBounds_toArray, List.set_cons_zero, List.set_cons_succ]
      refine wpAnyH_take (i := 6) (v := ?v36) (gA rfl) (by kernel_rfl) (by kernel_rfl) (by kernel_rfl) (fun _ _ _ h => h) (Or.inl ⟨rfl, ?y36⟩) (by assumption) ?_
      case y36 => (intro w hSw; (try dsimp only at hSw); go_simp <;> with_reducible rfl)
      simp only [Act.put, List.setIfInBounds_toArray, List.set_cons_zero, List.set_cons_succ]
      refine wpAnyH_take (i := 7) (v := ?v37) (gA rfl) (by kernel_rfl) (by kernel_rfl) (by kernel_rfl) (fun _ _ _ h => h) (Or.inl ⟨rfl, ?y37⟩) (by assumption) ?_
      case y37 => (intro w hSw; (try dsimp only at hSw); go_simp <;> with_reducible rfl)
      simp only [Act.put, List.setIfInBounds_toArray, List.set_cons_zero, List.set_cons_succ]
      refine wpAnyH_take (i := 8) (v := ?v38) (gA rfl) (by kernel_rfl) (by kernel_rfl) (by kernel_rfl) (fun _ _ _ h => h) (Or.inl ⟨rfl, ?y38⟩) (by assumption) ?_
      case y38 => (intro w hSw; (try dsimp only at hSw); go_simp <;> with_reducible rfl)
      simp only [Act.put, List.setIfInBounds_toArray, List.set_cons_zero, List.set_cons_succ]
      refine wpAnyH_take (i := 9) (v := ?v39) (gA rfl) (by kernel_rfl) (by kernel_rfl) (by kernel_rfl) (fun _ _ _ h => h) (Or.inl ⟨rfl, ?y39⟩) (by assumption) ?_
      case y39 => (intro w hSw; (try dsimp only at hSw); go_simp <;> with_reducible rfl)
      simp only [Act.put, List.setIfInBounds_toArray, List.set_cons_zero, List.set_cons_succ]
      refine wpAnyH_ready (rs := [10]) (by kernel_rfl) (by simp) (AllReadyH.cons (gA rfl) (fun K hK => ?_) AllReadyH.nil)
      go_simp
      (go_at_call 49; refine (HC.out _ hbx).mono ?_; rintro e w5 ⟨rfl, q, hq⟩; replace hbx : Below w1.heap.size w1 w5 := (by rw [hq]; exact below_drewN hbx _); clear hq)
      go_wp2_with fail
      refine hK.out _ _ ?_ (fun hHeld => ?_)
      · exact HSX.out _ hbx
      clear hK K
      try simp only [Act.put, List.setIfInBounds_toArray, List.set_cons_zero, List.set_cons_succ]
      refine wpAnyH_take (i := 11) (v := ?v41) (gA rfl) (by kernel_rfl) (by kernel_rfl) (by kernel_rfl) (fun _ _ _ h => h) (Or.inl ⟨rfl, ?y41⟩) (by assumption) ?_
      case y41 => (intro w hSw; (try dsimp only at hSw); go_simp <;> with_reducible rfl)
      simp only [Act.put, List.setIfInBounds_toArray, List.set_cons_zero, List.set_cons_succ]
      refine wpAnyH_done (by kernel_rfl) ?_ _
      go_wp2_with fail
      go_roundg (n' - (k + 1))
      case measure => omega
      case rel => exact ⟨k + 1, by omega, by omega, by go_num, hb.trans (hbx.mono hb.size)⟩
    · obtain rfl : k = n' := by omega
      go_wp2_with fail
      clear g0
      obtain ⟨W2, hW2⟩ : ∃ V, V = wr := ⟨_, rfl⟩
      subst hW2
      go_loopg [6] m' (fun gk i wr => ∃ k : Nat, k ≤ m' ∧ m' - k ≤ gk ∧ i = .int .i64 k ∧ Below W1.heap.size W1 wr)
      case atStart => exact ⟨0, Nat.zero_le _, by omega, rfl, hb⟩
      case round =>
        clear hb
        obtain ⟨k, hk, hgk, rfl, hb⟩ := hrel
        have g3 : wr.cell? ⟨g, 3, none⟩ = some (.slice B m' cap2) := (HG.out _ hb).cell rfl
        by_cases hlt : k < m'
        · obtain ⟨ab, off, y, c0, c1, hA, hx, ⟨hc, _⟩, e0, e1⟩ := (H1.out.bands.below bandC_good (by omega) (HT.out _ hb)).at2 hlt
          simp only [List.cons.injEq, and_true] at hc
          obtain ⟨rfl, rfl⟩ := hc
          obtain ⟨ab2, off2, y2, c0, c1, hA2, hx2, ⟨hc, _⟩, f0, f1⟩ := (H2.out.bands.below bandC_good (by omega) (HT.out _ hb)).at2 hlt
          simp only [List.cons.injEq, and_true] at hc
          obtain ⟨rfl, rfl⟩ := hc
          rw [hx] at hx2
          injection hx2 with hx2
          subst hx2
          subst hA hA2
          have k3 : wr.cell? ⟨h, 3, none⟩ = some (.slice (some ⟨ab2, off2, none⟩) m' cap2') := (HH.out _ hb).cell rfl
          have hbnd := fun W => same_band y.days y.part W
          have hk0 : (0 : Int) ≤ (k : Int) := by omega
          have hk1 : (k : Int) < (m' : Int) := by omega
          clear hx
          go_upto_region 11 with (fail)
          go_quiet (fail)
          go_wp2_with fail
          go_roundg (m' - (k + 1))
          case measure => omega
          case rel => exact ⟨k + 1, by omega, by omega, by go_num, below_drewN hb _⟩
        · obtain rfl : k = m' := by omega
          go_wp2_with fail
          go_ret
          exact ⟨rfl, HT.out _ hb⟩
end Go.Proofs.YtoilcdgpeilgaaaGreat
namespace Go.Proofs.YtoilcdgpeilgaaaGreat
open Go.RowKit Go.Shelf
theorem saiCells {w : World} {g : Nat} {x : Sai} {p : SaiV} {t : TypeId} (h : Blk w g (saiA x p) t) : w.cell? ⟨g, 0, none⟩ = some (.int .i64 x.ship.legs) ∧ w.cell? ⟨g, 1, none⟩ = some (.int .i64 x.ship.souls) ∧ w.cell? ⟨g, 2, none⟩ = some (.slice p.A p.n p.cap) ∧ w.cell? ⟨g, 3, none⟩ = some (.slice p.B p.m p.cap2) ∧ w.cell? ⟨g, 4, none⟩ = some (.slice p.D p.nd p.cd) ∧ w.cell? ⟨g, 5, none⟩ = some (.int .i64 x.fares.alone) ∧ w.cell? ⟨g, 6, none⟩ = some (.int .i64 x.fares.third) ∧ w.cell? ⟨g, 7, none⟩ = some (.slice p.E p.ne p.ce) ∧ w.cell? ⟨g, 8, none⟩ = some (.int .i64 x.fares.down) ∧ w.cell? ⟨g, 9, none⟩ = some (.int .i64 x.day) ∧ w.cell? ⟨g, 10, none⟩ = some (.int .i64 x.leaves) ∧ w.cell? ⟨g, 11, none⟩ = some (.slice p.C p.nb p.cb) ∧ w.cell? ⟨g, 12, none⟩ = some (.bool x.closed) :=
  ⟨h.cell rfl, h.cell rfl, h.cell rfl, h.cell rfl, h.cell rfl, h.cell rfl, h.cell rfl, h.cell rfl, h.cell rfl, h.cell rfl, h.cell rfl, h.cell rfl, h.cell rfl⟩
set_option maxRecDepth 100000 in
set_option maxHeartbeats 16000000 in
theorem SameSailing_any (x : Sai) (p q : SaiV) (w : World) (h1 : SaiR w x p) (h2 : SaiR w x q) :
    Calls Tryz.prog 41 #[.agg (saiA x p), .agg (saiA x q)] w fun e w' => e = .returned (.bool true) ∧ Below w.heap.size w w' := by
  have HSH := Lib.hid (fun X (k1 : SaiR X x p) (k2 : SaiR X x q) => SameShip_any x.ship p.A p.n p.cap p.B p.m p.cap2 q.A q.n q.cap q.B q.m q.cap2 X k1.cats k1.cabs k2.cats k2.cabs)
  have HFA := Lib.hid (fun X (k1 : SaiR X x p) (k2 : SaiR X x q) => SameFares_any x.fares p.D p.nd p.cd p.E p.ne p.ce q.D q.nd q.cd q.E q.ne q.ce X k1.fares k2.fares)
  obtain ⟨A, n, cap, B, m, cap2, D, nd, cd, E, ne, ce, C, nb, cb⟩ := p
  obtain ⟨A', n', cap', B', m', cap2', D', nd', cd', E', ne', ce', C', nb', cb'⟩ := q
  obtain rfl : nb = nb' := by rw [show nb = x.bks.length from h1.bks.len.symm]; exact h2.bks.len
  have hnb := h1.bks.bd
  simp only at HSH HFA hnb
  have H1 := Lib.hid h1
  have H2 := Lib.hid h2
  clear h1 h2
  go_enter Tryz.func41, Tryz.ntmps41
  go_upto_region 0 with (fail)
  go_cut [2, 3, 4] (fun p p2 _ wx => ∃ g h, p = .pointer (some ⟨g, 0, none⟩) ∧ p2 = .pointer (some ⟨h, 0, none⟩) ∧ Blk wx g (saiA x ⟨A, n, cap, B, m, cap2, D, nd, cd, E, ne, ce, C, nb, cb⟩) 32 ∧ Blk wx h (saiA x ⟨A', n', cap', B', m', cap2', D', nd', cd', E', ne', ce', C', nb, cb'⟩) 32 ∧ Below w.heap.size w wx)
  case first => as_aux_lemma =>
    go_wp2_with fail
    go_meet
    exact ⟨_, _, rfl, rfl, blk2_0 _ _ _, blk2_1 _ _ _, bel2 _ _ _⟩
  obtain ⟨g, h, rfl, rfl, hG, hH, hb0⟩ := hcut
  obtain ⟨W1, hW1⟩ : ∃ V, V = wc := ⟨_, rfl⟩
  subst hW1
  have HG := Lib.hid (fun X (hX : Below W1.heap.size W1 X) => hG.bel hX)
  have HH := Lib.hid (fun X (hX : Below W1.heap.size W1 X) => hH.bel hX)
  have HT := Lib.hid (fun X (hX : Below W1.heap.size W1 X) => hb0.trans (hX.mono hb0.size))
  have HS1 := Lib.hid (fun X (hX : Below W1.heap.size W1 X) => H1.out.bel (HT.out X hX))
  have HS2 := Lib.hid (fun X (hX : Below W1.heap.size W1 X) => H2.out.bel (HT.out X hX))
  clear hG hH hb0
  have hb : Below W1.heap.size W1 W1 := Below.refl _ _
  go_upto_region 1 with (fail)
  go_cut [49] (fun p wx => p = .bool false ∧ Below W1.heap.size W1 wx)
  case first => as_aux_lemma =>
    have hG := HG.out _ hb
    have hH := HH.out _ hb
    have s0 : W1.cell? ⟨g, 0, none⟩ = some (.int .i64 x.ship.legs) := hG.cell rfl
    have s1 : W1.cell? ⟨g, 1, none⟩ = some (.int .i64 x.ship.souls) := hG.cell rfl
    have s2 : W1.cell? ⟨g, 2, none⟩ = some (.slice A n cap) := hG.cell rfl
    have s3 : W1.cell? ⟨g, 3, none⟩ = some (.slice B m cap2) := hG.cell rfl
    have s4 : W1.cell? ⟨g, 4, none⟩ = some (.slice D nd cd) := hG.cell rfl
    have s5 : W1.cell? ⟨g, 5, none⟩ = some (.int .i64 x.fares.alone) := hG.cell rfl
    have s6 : W1.cell? ⟨g, 6, none⟩ = some (.int .i64 x.fares.third) := hG.cell rfl
    have s7 : W1.cell? ⟨g, 7, none⟩ = some (.slice E ne ce) := hG.cell rfl
    have s8 : W1.cell? ⟨g, 8, none⟩ = some (.int .i64 x.fares.down) := hG.cell rfl
    have s9 : W1.cell? ⟨g, 9, none⟩ = some (.int .i64 x.day) := hG.cell rfl
    have s10 : W1.cell? ⟨g, 10, none⟩ = some (.int .i64 x.leaves) := hG.cell rfl
    have s11 : W1.cell? ⟨g, 11, none⟩ = some (.slice C nb cb) := hG.cell rfl
    have s12 : W1.cell? ⟨g, 12, none⟩ = some (.bool x.closed) := hG.cell rfl
    have k0 : W1.cell? ⟨h, 0, none⟩ = some (.int .i64 x.ship.legs) := hH.cell rfl
    have k1 : W1.cell? ⟨h, 1, none⟩ = some (.int .i64 x.ship.souls) := hH.cell rfl
    have k2 : W1.cell? ⟨h, 2, none⟩ = some (.slice A' n' cap') := hH.cell rfl
    have k3 : W1.cell? ⟨h, 3, none⟩ = some (.slice B' m' cap2') := hH.cell rfl
    have k9 : W1.cell? ⟨h, 9, none⟩ = some (.int .i64 x.day) := hH.cell rfl
    have k10 : W1.cell? ⟨h, 10, none⟩ = some (.int .i64 x.leaves) := hH.cell rfl
    have k11 : W1.cell? ⟨h, 11, none⟩ = some (.slice C' nb cb') := hH.cell rfl
    have k12 : W1.cell? ⟨h, 12, none⟩ = some (.bool x.closed) := hH.cell rfl
    have HC := Lib.hid (HSH.out _ (HS1.out _ hb) (HS2.out _ hb))
    clear hG hH
    go_wp2_with fail
    refine HC.out.mono ?_
    rintro e w2 ⟨rfl, hb2⟩
    have hG := HG.out _ hb2
    have hH := HH.out _ hb2
    clear s0 s1 s2 s3 s4 s5 s6 s7 s8 s9 s10 s11 s12 k0 k1 k2 k3 k9 k10 k11 k12 HC
    have s4 : w2.cell? ⟨g, 4, none⟩ = some (.slice D nd cd) := hG.cell rfl
    have s5 : w2.cell? ⟨g, 5, none⟩ = some (.int .i64 x.fares.alone) := hG.cell rfl
    have s6 : w2.cell? ⟨g, 6, none⟩ = some (.int .i64 x.fares.third) := hG.cell rfl
    have s7 : w2.cell? ⟨g, 7, none⟩ = some (.slice E ne ce) := hG.cell rfl
    have s8 : w2.cell? ⟨g, 8, none⟩ = some (.int .i64 x.fares.down) := hG.cell rfl
    have k4 : w2.cell? ⟨h, 4, none⟩ = some (.slice D' nd' cd') := hH.cell rfl
    have k5 : w2.cell? ⟨h, 5, none⟩ = some (.int .i64 x.fares.alone) := hH.cell rfl
    have k6 : w2.cell? ⟨h, 6, none⟩ = some (.int .i64 x.fares.third) := hH.cell rfl
    have k7 : w2.cell? ⟨h, 7, none⟩ = some (.slice E' ne' ce') := hH.cell rfl
    have k8 : w2.cell? ⟨h, 8, none⟩ = some (.int .i64 x.fares.down) := hH.cell rfl
    have HC := Lib.hid (HFA.out _ (HS1.out _ hb2) (HS2.out _ hb2))
    clear hG hH
    go_wp2_with fail
    refine HC.out.mono ?_
    rintro e w3 ⟨rfl, hb3⟩
    go_wp2_with fail
    go_meet
    exact ⟨rfl, hb2.trans (hb3.mono hb2.size)⟩
  obtain ⟨rfl, hb1⟩ := hcut
  replace hb := hb1
  clear hb1
  go_wp2_with fail
  go_loopg [5] nb (fun gk i wr => ∃ k : Nat, k ≤ nb ∧ nb - k ≤ gk ∧ i = .int .i64 k ∧ Below W1.heap.size W1 wr)
  case atStart => exact ⟨0, Nat.zero_le _, by omega, rfl, hb⟩
  case round =>
    clear hb
    obtain ⟨k, hk, hgk, rfl, hb⟩ := hrel
    have g11 : wr.cell? ⟨g, 11, none⟩ = some (.slice C nb cb) := (HG.out _ hb).cell rfl
    by_cases hlt : k < nb
    · obtain ⟨ab, off, b, A3, n3, c3, hA, hx, hF, -, hcel⟩ := (HS1.out _ hb).bks.bkg hlt
      obtain ⟨ab2, off2, b2, B3, m3, d3, hA2, hx2, hF2, -, hcel2⟩ := (HS2.out _ hb).bks.bkg hlt
      rw [hx] at hx2
      injection hx2 with hx2
      subst hx2
      simp only at hA hA2
      subst hA hA2
      obtain ⟨w1, hw1⟩ : ∃ V, V = wr := ⟨_, rfl⟩
      subst hw1
      have h11 : w1.cell? ⟨h, 11, none⟩ = some (.slice (some ⟨ab2, off2, none⟩) nb cb') := (HH.out _ hb).cell rfl
      have r1 : w1.rangeAt ab (off + k * 11) (bkgA b (.slice A3 n3 c3)).toList := hcel
      have r2 : w1.rangeAt ab2 (off2 + k * 11) (bkgA b (.slice B3 m3 d3)).toList := hcel2
      have HR1 := Lib.hid r1
      have HR2 := Lib.hid r2
      have HSX := Lib.hid (show ∀ w', Below w1.heap.size w1 w' → (w'.cell? ⟨g, 11, none⟩ = some (.slice (some ⟨ab, off, none⟩) nb cb) ∧ w'.cell? ⟨h, 11, none⟩ = some (.slice (some ⟨ab2, off2, none⟩) nb cb')) from fun w' hX => ⟨cellB hX g11, cellB hX h11⟩)
      have HC := Lib.hid (fun X (hX : Below w1.heap.size w1 X) => SameBooking_any b A3 n3 c3 B3 m3 d3 X (hF.bel hX) (hF2.bel hX))
      have hk0 : (0 : Int) ≤ (k : Int) := by omega
      have hk1 : (k : Int) < (nb : Int) := by omega
      clear hx hF hF2 hcel hcel2 r1 r2 h11
      go_upto_region 6 with (fail)
      clear g11
      have hbx : Below w1.heap.size w1 w1.drew := (Below.refl _ _).drew
      have hd1 : w1.drew.rangeAt ab (off + k * 11) (bkgA b (.slice A3 n3 c3)).toList := by rw [World.rangeAt_drew]; exact HR1.out
      have hd2 : w1.drew.rangeAt ab2 (off2 + k * 11) (bkgA b (.slice B3 m3 d3)).toList := by rw [World.rangeAt_drew]; exact HR2.out
      have HD1 := Lib.hid hd1
      have HD2 := Lib.hid hd2
      clear hd1 hd2
      refine wp_region_held_drew (S := (fun w' => w'.cell? ⟨g, 11, none⟩ = some (.slice (some ⟨ab, off, none⟩) nb cb) ∧ w'.cell? ⟨h, 11, none⟩ = some (.slice (some ⟨ab2, off2, none⟩) nb cb'))) (by kernel_rfl) (HSX.out _ hbx) (fun hHeld => ?_)
      refine wpAnyH_take (i := 0) (v := ?v5) (gA rfl) (by kernel_rfl) (by kernel_rfl) (by kernel_rfl) (fun _ _ _ h => h) (Or.inl ⟨rfl, ?y5⟩) (by assumption) ?_
      case y5 => (intro w hSw; (try dsimp only at hSw); go_simp <;> with_reducible rfl)
      simp only [Act.put, List.setIfInBounds_toArray, List.set_cons_zero, List.set_cons_succ]
      refine wpAnyH_take (i := 1) (v := ?v6) (gA rfl) (by kernel_rfl) (by kernel_rfl) (by kernel_rfl) (fun _ _ _ h => h) (Or.inl ⟨rfl, ?y6⟩) (by assumption) ?_
      case y6 => (intro w hSw; (try dsimp only at hSw); go_simp <;> with_reducible rfl)
      simp only [Act.put, List.setIfInBounds_toArray, List.set_cons_zero, List.set_cons_succ]
      refine wpAnyH_take (i := 2) (v := ?v7) (gA rfl) (by kernel_rfl) (by kernel_rfl) (by kernel_rfl) (fun _ _ _ h => h) (Or.inl ⟨rfl, ?y7⟩) (by assumption) ?_
      case y7 => (intro w hSw; (try dsimp only at hSw); go_simp <;> with_reducible rfl)
      simp only [Act.put, List.setIfInBounds_toArray, List.set_cons_zero, List.set_cons_succ]
      refine wpAnyH_take (i := 3) (v := ?v8) (gA rfl) (by kernel_rfl) (by kernel_rfl) (by kernel_rfl) (fun _ _ _ h => h) (Or.inl ⟨rfl, ?y8⟩) (by assumption) ?_
      case y8 => (intro w hSw; (try dsimp only at hSw); go_simp <;> with_reducible rfl)
      simp only [Act.put, List.setIfInBounds_toArray, List.set_cons_zero, List.set_cons_succ]
      refine wpAnyH_take (i := 5) (v := ?v9) (gA rfl) (by kernel_rfl) (by kernel_rfl) (by kernel_rfl) (fun _ _ _ h => h) (Or.inl ⟨rfl, ?y9⟩) (by assumption) ?_
      case y9 => (intro w hSw; (try dsimp only at hSw); go_simp <;> with_reducible rfl)
      simp only [Act.put, List.setIfInBounds_toArray, List.set_cons_zero, List.set_cons_succ]
      refine wpAnyH_take (i := 6) (v := ?v10) (gA rfl) (by kernel_rfl) (by kernel_rfl) (by kernel_rfl) (fun _ _ _ h => h) (Or.inl ⟨rfl, ?y10⟩) (by assumption) ?_
      case y10 => (intro w hSw; (try dsimp only at hSw); go_simp <;> with_reducible rfl)
      simp only [Act.put, List.setIfInBounds_toArray, List.set_cons_zero, List.set_cons_succ]
      refine wpAnyH_take (i := 7) (v := ?v11) (gA rfl) (by kernel_rfl) (by kernel_rfl) (by kernel_rfl) (fun _ _ _ h => h) (Or.inl ⟨rfl, ?y11⟩) (by assumption) ?_
      case y11 => (intro w hSw; (try dsimp only at hSw); go_simp <;> with_reducible rfl)
      simp only [Act.put, List.setIfInBounds_toArray, List.set_cons_zero, List.set_cons_succ]
      refine wpAnyH_take (i := 8) (v := ?v12) (gA rfl) (by kernel_rfl) (by kernel_rfl) (by kernel_rfl) (fun _ _ _ h => h) (Or.inl ⟨rfl, ?y12⟩) (by assumption) ?_
      case y12 => (intro w hSw; (try dsimp only at hSw); go_simp <;> with_reducible rfl)
      simp only [Act.put, List.setIfInBounds_toArray, List.set_cons_zero, List.set_cons_succ]
      refine wpAnyH_ready (rs := [4, 9]) (by kernel_rfl) (by simp) ?_
      refine AllReadyH.cons (gA rfl) (fun K hK => ?_) ?m_1
      case m_1 =>
        refine AllReadyH.cons (gA rfl) (fun K hK => ?_) AllReadyH.nil
        (refine step_load_mid rfl 37 (.tmp 65) rfl ab2 (off2 + k * 11) rfl (bkgA b (.slice B3 m3 d3)).toList _ HD2.out Tryz.underlying37 (by kernel_rfl) (by kernel_rfl) ?_)
        refine hK.out _ _ ?_ (fun hHeld => ?_)
        · exact HSX.out _ hbx
        clear hK K
        try simp only [Act.put, List.setIfInBounds_toArray, List.set_cons_zero, List.set_cons_succ]
        refine wpAnyH_ready (rs := [4]) (by kernel_rfl) (by simp) ?_
        refine AllReadyH.cons (gA rfl) (fun K hK => ?_) AllReadyH.nil
        (refine step_load_mid rfl 37 (.tmp 60) rfl ab (off + k * 11) rfl (bkgA b (.slice A3 n3 c3)).toList _ HD1.out Tryz.underlying37 (by kernel_rfl) (by kernel_rfl) ?_)
        refine hK.out _ _ ?_ (fun hHeld => ?_)
        · exact HSX.out _ hbx
        clear hK K
        try simp only [Act.put, List.setIfInBounds_toArray, List.set_cons_zero, List.set_cons_succ]
        refine wpAnyH_ready (rs := [10]) (by kernel_rfl) (by simp) (AllReadyH.cons (gA rfl) (fun K hK => ?_) AllReadyH.nil)
        go_simp
        (go_at_call 26; refine (HC.out _ hbx).mono ?_; rintro e w5 ⟨rfl, hb5⟩; replace hbx := hbx.trans (hb5.mono hbx.size); clear hb5)
        go_wp2_with fail
        refine hK.out _ _ ?_ (fun hHeld => ?_)
        · exact HSX.out _ hbx
        clear hK K
        try simp only [Act.put, List.setIfInBounds_toArray, List.set_cons_zero, List.set_cons_succ]
        refine wpAnyH_take (i := 11) (v := ?v14) (gA rfl) (by kernel_rfl) (by kernel_rfl) (by kernel_rfl) (fun _ _ _ h => h) (Or.inl ⟨rfl, ?y14⟩) (by assumption) ?_
        case y14 => (intro w hSw; (try dsimp only at hSw); go_simp <;> with_reducible rfl)
        simp only [Act.put, List.setIfInBounds_toArray, List.set_cons_zero, List.set_cons_succ]
        refine wpAnyH_done (by kernel_rfl) ?_ _
        go_wp2_with fail
        go_roundg (nb - (k + 1))
        case measure => omega
        case rel => exact ⟨k + 1, by omega, by omega, by go_num, hb.trans (hbx.mono hb.size)⟩
      (refine step_load_mid rfl 37 (.tmp 60) rfl ab (off + k * 11) rfl (bkgA b (.slice A3 n3 c3)).toList _ HD1.out Tryz.underlying37 (by kernel_rfl) (by kernel_rfl) ?_)
      refine hK.out _ _ ?_ (fun hHeld => ?_)
      · exact HSX.out _ hbx
      clear hK K
      try simp only [Act.put, List.setIfInBounds_toArray, List.set_cons_zero, List.set_cons_succ]
      refine wpAnyH_ready (rs := [9]) (by kernel_rfl) (by simp) ?_
      refine AllReadyH.cons (gA rfl) (fun K hK => ?_) AllReadyH.nil
      (refine step_load_mid rfl 37 (.tmp 65) rfl ab2 (off2 + k * 11) rfl (bkgA b (.slice B3 m3 d3)).toList _ HD2.out Tryz.underlying37 (by kernel_rfl) (by kernel_rfl) ?_)
      refine hK.out _ _ ?_ (fun hHeld => ?_)
      · exact HSX.out _ hbx
      clear hK K
      try simp only [Act.put, List.setIfInBounds_toArray, List.set_cons_zero, List.set_cons_succ]
      refine wpAnyH_ready (rs := [10]) (by kernel_rfl) (by simp) (AllReadyH.cons (gA rfl) (fun K hK => ?_) AllReadyH.nil)
      go_simp
      (go_at_call 26; refine (HC.out _ hbx).mono ?_; rintro e w5 ⟨rfl, hb5⟩; replace hbx := hbx.trans (hb5.mono hbx.size); clear hb5)
      go_wp2_with fail
      refine hK.out _ _ ?_ (fun hHeld => ?_)
      · exact HSX.out _ hbx
      clear hK K
      try simp only [Act.put, List.setIfInBounds_toArray, List.set_cons_zero, List.set_cons_succ]
      refine wpAnyH_take (i := 11) (v := ?v16) (gA rfl) (by kernel_rfl) (by kernel_rfl) (by kernel_rfl) (fun _ _ _ h => h) (Or.inl ⟨rfl, ?y16⟩) (by assumption) ?_
      case y16 => (intro w hSw; (try dsimp only at hSw); go_simp <;> with_reducible rfl)
      simp only [Act.put, List.setIfInBounds_toArray, List.set_cons_zero, List.set_cons_succ]
      refine wpAnyH_done (by kernel_rfl) ?_ _
      go_wp2_with fail
      go_roundg (nb - (k + 1))
      case measure => omega
      case rel => exact ⟨k + 1, by omega, by omega, by go_num, hb.trans (hbx.mono hb.size)⟩
    · obtain rfl : k = nb := by omega
      go_wp2_with fail
      go_ret
      exact ⟨rfl, HT.out _ hb⟩
end Go.Proofs.YtoilcdgpeilgaaaGreat
