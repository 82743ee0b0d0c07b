/-
  Words, laws and contracts: SellJ, SellM.
-/
import Derived.Test.YtoilcdgpeilgaaaGreatBun33
import Derived.BigQuiet
set_option linter.unusedSimpArgs false
set_option linter.unusedVariables false
namespace Go.Proofs.YtoilcdgpeilgaaaGreat
open Go.RowKit Go.Shelf
def Others (x : Sai) (l : List Bkg) (id : Int) : Prop := ∀ (i : Nat) (b : Bkg), x.bks[i]? = some b → b.id ≠ id → ∃ k : Nat, atI l b.id = (k : Int) ∧ l[k]? = some b
set_option maxRecDepth 100000 in
set_option maxHeartbeats 16000000 in
theorem othersStay_any (x : Sai) (l : List Bkg) (t : Int) (p q : SaiV) (w : World) (h1 : SaiR w x p) (h2 : SaiR w (bksS x l) q) (ho : Others x l t) (h16 : l.length ≤ 1000) :
    Calls Tryz.prog 25 #[.agg (saiA x p), .agg (saiA (bksS x l) q), .int .i64 t] w fun e w' => e = .returned (.bool true) ∧ Below w.heap.size w w' := by
  have HSH := Lib.hid (fun X (k1 : SaiR X x p) (k2 : SaiR X (bksS x l) q) => SameShip_any x.ship p.A p.n p.cap p.B p.m p.cap2 q.A q.n q.cap q.B q.m q.cap2 X k1.cats k1.cabs k2.cats k2.cabs)
  have HFA := Lib.hid (fun X (k1 : SaiR X x p) (k2 : SaiR X (bksS x l) q) => SameFares_any x.fares p.D p.nd p.cd p.E p.ne p.ce q.D q.nd q.cd q.E q.ne q.ce X k1.fares k2.fares)
  have HBA := Lib.hid (fun t X hl => BookingAt_any (bksS x l) q t X hl)
  have HLN := Lib.hid (show l.length = q.nb from h2.bks.len)
  obtain ⟨A, n, cap, B, m, cap2, D, nd, cd, E, ne, ce, C, nb, cb⟩ := p
  obtain ⟨A', n', cap', B', m', cap2', D', nd', cd', E', ne', ce', C', nb2, cb2⟩ := q
  have hnb := h1.bks.bd
  simp only at HSH HFA hnb HLN
  have hnb2 : nb2 ≤ 1000 := by rw [← HLN.out]; exact h16
  have H1 := Lib.hid h1
  have H2 := Lib.hid h2
  have HO := Lib.hid ho
  clear ho
  clear h1 h2 h16
  go_enter Tryz.func25, Tryz.ntmps25
  go_upto_region 0 with (fail)
  go_cut [3, 4, 6] (fun p p2 _ wx => ∃ g h, p = .pointer (some ⟨g, 0, none⟩) ∧ p2 = .pointer (some ⟨h, 0, none⟩) ∧ Blk wx g (saiA x ⟨A, n, cap, B, m, cap2, D, nd, cd, E, ne, ce, C, nb, cb⟩) 32 ∧ Blk wx h (saiA (bksS x l) ⟨A', n', cap', B', m', cap2', D', nd', cd', E', ne', ce', C', nb2, cb2⟩) 32 ∧ Below w.heap.size w wx)
  case first => as_aux_lemma =>
    go_wp2_with fail
    go_meet
    exact ⟨_, _, rfl, rfl, blk2_0 _ _ _, blk2_1 _ _ _, bel2 _ _ _⟩
  obtain ⟨g, h, rfl, rfl, hG, hH, hb0⟩ := hcut
  obtain ⟨W1, hW1⟩ : ∃ V, V = wc := ⟨_, rfl⟩
  subst hW1
  have HG := Lib.hid (fun X (hX : Below W1.heap.size W1 X) => hG.bel hX)
  have HH := Lib.hid (fun X (hX : Below W1.heap.size W1 X) => hH.bel hX)
  have HT := Lib.hid (fun X (hX : Below W1.heap.size W1 X) => hb0.trans (hX.mono hb0.size))
  have HS1 := Lib.hid (fun X (hX : Below W1.heap.size W1 X) => H1.out.bel (HT.out X hX))
  have HS2 := Lib.hid (fun X (hX : Below W1.heap.size W1 X) => H2.out.bel (HT.out X hX))
  clear hG hH hb0
  go_wp2_with fail
  go_loopg [7] nb (fun gk i wr => ∃ k : Nat, k ≤ nb ∧ nb - k ≤ gk ∧ i = .int .i64 k ∧ Below W1.heap.size W1 wr)
  case atStart => exact ⟨0, Nat.zero_le _, by omega, rfl, Below.refl _ _⟩
  case round =>
    obtain ⟨k, hk, hgk, rfl, hb⟩ := hrel
    have g11 : wr.cell? ⟨g, 11, none⟩ = some (.slice C nb cb) := (HG.out _ hb).cell rfl
    by_cases hlt : k < nb
    · obtain ⟨ab, off, bk, A3, n3, c3, hA, hx, hF, -, hcel⟩ := (HS1.out _ hb).bks.bkg hlt
      simp only at hA
      subst hA
      have hr1 : wr.rangeAt ab (off + k * 11) (bkgA bk (.slice A3 n3 c3)).toList := hcel
      have HR1 := Lib.hid hr1
      have hk0 : (0 : Int) ≤ (k : Int) := by omega
      have hk1 : (k : Int) < (nb : Int) := by omega
      clear hcel hr1
      obtain ⟨w1, hw1⟩ : ∃ V, V = wr := ⟨_, rfl⟩
      subst hw1
      have HB := Lib.hid hb
      clear hb
      go_upto_region 4 with (fail)
      go_cut [8] (fun p wx => ∃ z, p = .pointer (some ⟨z, 0, none⟩) ∧ Blk wx z (bkgA bk (.slice A3 n3 c3)) 37 ∧ Below w1.heap.size w1 wx)
      case first => as_aux_lemma =>
        go_wp2_with (first | (refine wpList_load_mid rfl 37 (.tmp 20) rfl ab (off + k * 11) rfl (bkgA bk (.slice A3 n3 c3)).toList _ HR1.out Tryz.underlying37 (by kernel_rfl) (by kernel_rfl) ?_) | (refine wpList_store_row rfl 37 (.tmp 8) (.tmp 21) rfl w1.heap.size (bkgA bk (.slice A3 n3 c3)) rfl rfl 37 _ (Blk.new w1 #[.int .i64 0, .int .i64 0, .int .i64 0, .int .i64 0, .bool false, .int .i64 0, .int .i64 0, .int .i64 0, .int .i64 0, .int .i64 0, .slice none 0 0] 37) (by kernel_rfl) rfl (by simp [Value.oneCell']) ?_))
        go_meet
        exact ⟨_, rfl, (Blk.new w1 _ _).row _, below_setRow (bel1 w1 _) (Nat.le_refl _) _⟩
      obtain ⟨z, rfl, hZ, hbz⟩ := hcut
      clear g11
      have hb2 := HB.out.trans (hbz.mono HB.out.size)
      have z0 : wc.cell? ⟨z, 0, none⟩ = some (.int .i64 bk.id) := hZ.cell rfl
      have HC := Lib.hid (HBA.out bk.id _ (HS2.out _ hb2).bks)
      have HHX := Lib.hid (HH.out _ hb2)
      replace hF := hF.bel hbz
      have HZ := Lib.hid hZ
      clear hZ
      have HB2 := Lib.hid hb2
      clear hb2
      clear hbz
      go_wp2_with (refine wpList_load_row rfl 32 (.tmp 4) rfl h rfl 32 _ (0, 0) _ HHX.out Tryz.underlying32 rfl (by kernel_rfl) ?_)
      refine HC.out.mono ?_
      rintro e w3 ⟨rfl, hb3⟩
      replace hF := hF.bel hb3
      have hb := HB2.out.trans (hb3.mono HB2.out.size)
      have hZ := HZ.out.bel hb3
      clear hb3 z0 HC HHX HZ HB2
      go_upto_region 6 with (fail)
      by_cases q : bk.id = t
      · have z0 : w3.cell? ⟨z, 0, none⟩ = some (.int .i64 bk.id) := hZ.cell rfl
        have q' : (bk.id != t) = false := by simpa using q
        clear q hZ hF hx
        go_quiet (fail)
        go_wp2_with fail
        go_roundg (nb - (k + 1))
        case measure => omega
        case rel => exact ⟨k + 1, by omega, by omega, by go_num, below_drewN hb _⟩
      · obtain ⟨k2, hk2, hx2⟩ := HO.out k bk hx q
        have q' : (bk.id != t) = true := by simpa using q
        have hk3 : atI (bksS x l).bks bk.id = (k2 : Int) := hk2
        rw [hk3]
        clear hk3
        have hl2 : k2 < nb2 := by rw [← HLN.out]; exact (List.getElem?_eq_some_iff.1 hx2).1
        obtain ⟨ab2, off2, bk2, A5, n5, c5, hA2, hx3, hF2, -, hcel2⟩ := (HS2.out _ hb).bks.bkg hl2
        obtain rfl : bk = bk2 := by
          have : l[k2]? = some bk2 := hx3
          rw [hx2] at this; injection this
        simp only at hA2
        subst hA2
        obtain ⟨w4, hw4⟩ : ∃ V, V = w3 := ⟨_, rfl⟩
        subst hw4
        have hH := HH.out _ hb
        have HSS := Lib.hid (show ∀ w', Below w4.heap.size w4 w' → (w'.cell? ⟨z, 0, none⟩ = some (.int .i64 bk.id) ∧ w'.cell? ⟨z, 1, none⟩ = some (.int .i64 bk.kind) ∧ w'.cell? ⟨z, 2, none⟩ = some (.int .i64 bk.state) ∧ w'.cell? ⟨z, 3, none⟩ = some (.int .i64 bk.gst) ∧ w'.cell? ⟨z, 4, none⟩ = some (.bool bk.lev) ∧ w'.cell? ⟨z, 5, none⟩ = some (.int .i64 bk.cab) ∧ w'.cell? ⟨z, 6, none⟩ = some (.int .i64 bk.cat) ∧ w'.cell? ⟨z, 7, none⟩ = some (.int .i64 bk.frm) ∧ w'.cell? ⟨z, 8, none⟩ = some (.int .i64 bk.upto) ∧ w'.cell? ⟨z, 9, none⟩ = some (.int .i64 bk.til) ∧ w'.cell? ⟨z, 10, none⟩ = some (.slice A3 n3 c3) ∧ w'.cell? ⟨h, 11, none⟩ = some (.slice (some ⟨ab2, off2, none⟩) nb2 cb2) ∧ w'.cell? ⟨ab2, off2 + k2 * 11, none⟩ = some (.int .i64 bk.id) ∧ w'.cell? ⟨ab2, off2 + k2 * 11 + 1, none⟩ = some (.int .i64 bk.kind) ∧ w'.cell? ⟨ab2, off2 + k2 * 11 + 2, none⟩ = some (.int .i64 bk.state) ∧ w'.cell? ⟨ab2, off2 + k2 * 11 + 3, none⟩ = some (.int .i64 bk.gst) ∧ w'.cell? ⟨ab2, off2 + k2 * 11 + 4, none⟩ = some (.bool bk.lev) ∧ w'.cell? ⟨ab2, off2 + k2 * 11 + 5, none⟩ = some (.int .i64 bk.cab) ∧ w'.cell? ⟨ab2, off2 + k2 * 11 + 6, none⟩ = some (.int .i64 bk.cat) ∧ w'.cell? ⟨ab2, off2 + k2 * 11 + 7, none⟩ = some (.int .i64 bk.frm) ∧ w'.cell? ⟨ab2, off2 + k2 * 11 + 8, none⟩ = some (.int .i64 bk.upto) ∧ w'.cell? ⟨ab2, off2 + k2 * 11 + 9, none⟩ = some (.int .i64 bk.til) ∧ w'.cell? ⟨ab2, off2 + k2 * 11 + 10, none⟩ = some (.slice A5 n5 c5)) from fun w' hX => ⟨(hZ.bel hX).cell rfl, (hZ.bel hX).cell rfl, (hZ.bel hX).cell rfl, (hZ.bel hX).cell rfl, (hZ.bel hX).cell rfl, (hZ.bel hX).cell rfl, (hZ.bel hX).cell rfl, (hZ.bel hX).cell rfl, (hZ.bel hX).cell rfl, (hZ.bel hX).cell rfl, (hZ.bel hX).cell rfl, (hH.bel hX).cell rfl, cellB hX (hcel2 0 _ rfl), cellB hX (hcel2 1 _ rfl), cellB hX (hcel2 2 _ rfl), cellB hX (hcel2 3 _ rfl), cellB hX (hcel2 4 _ rfl), cellB hX (hcel2 5 _ rfl), cellB hX (hcel2 6 _ rfl), cellB hX (hcel2 7 _ rfl), cellB hX (hcel2 8 _ rfl), cellB hX (hcel2 9 _ rfl), cellB hX (hcel2 10 _ rfl)⟩)
        have HC := Lib.hid (fun X (hX : Below w4.heap.size w4 X) => SameBooking_any bk A5 n5 c5 A3 n3 c3 X (hF2.bel hX) (hF.bel hX))
        have hj0 : (0 : Int) ≤ (k2 : Int) := by omega
        have hj1 : (k2 : Int) < (nb2 : Int) := by omega
        have hj2 : decide ((k2 : Int) < 0) = false := decide_eq_false (by omega)
        have HB4 := Lib.hid hb
        clear hb
        clear q hZ hF hF2 hx hx2 hx3 hcel2 hH hk2
        have hbx : Below w4.heap.size w4 w4.drew := (Below.refl _ _).drew
        refine wp_region_held_drew (S := (fun w' => (w'.cell? ⟨z, 0, none⟩ = some (.int .i64 bk.id) ∧ w'.cell? ⟨z, 1, none⟩ = some (.int .i64 bk.kind) ∧ w'.cell? ⟨z, 2, none⟩ = some (.int .i64 bk.state) ∧ w'.cell? ⟨z, 3, none⟩ = some (.int .i64 bk.gst) ∧ w'.cell? ⟨z, 4, none⟩ = some (.bool bk.lev) ∧ w'.cell? ⟨z, 5, none⟩ = some (.int .i64 bk.cab) ∧ w'.cell? ⟨z, 6, none⟩ = some (.int .i64 bk.cat) ∧ w'.cell? ⟨z, 7, none⟩ = some (.int .i64 bk.frm) ∧ w'.cell? ⟨z, 8, none⟩ = some (.int .i64 bk.upto) ∧ w'.cell? ⟨z, 9, none⟩ = some (.int .i64 bk.til) ∧ w'.cell? ⟨z, 10, none⟩ = some (.slice A3 n3 c3) ∧ w'.cell? ⟨h, 11, none⟩ = some (.slice (some ⟨ab2, off2, none⟩) nb2 cb2) ∧ w'.cell? ⟨ab2, off2 + k2 * 11, none⟩ = some (.int .i64 bk.id) ∧ w'.cell? ⟨ab2, off2 + k2 * 11 + 1, none⟩ = some (.int .i64 bk.kind) ∧ w'.cell? ⟨ab2, off2 + k2 * 11 + 2, none⟩ = some (.int .i64 bk.state) ∧ w'.cell? ⟨ab2, off2 + k2 * 11 + 3, none⟩ = some (.int .i64 bk.gst) ∧ w'.cell? ⟨ab2, off2 + k2 * 11 + 4, none⟩ = some (.bool bk.lev) ∧ w'.cell? ⟨ab2, off2 + k2 * 11 + 5, none⟩ = some (.int .i64 bk.cab) ∧ w'.cell? ⟨ab2, off2 + k2 * 11 + 6, none⟩ = some (.int .i64 bk.cat) ∧ w'.cell? ⟨ab2, off2 + k2 * 11 + 7, none⟩ = some (.int .i64 bk.frm) ∧ w'.cell? ⟨ab2, off2 + k2 * 11 + 8, none⟩ = some (.int .i64 bk.upto) ∧ w'.cell? ⟨ab2, off2 + k2 * 11 + 9, none⟩ = some (.int .i64 bk.til) ∧ w'.cell? ⟨ab2, off2 + k2 * 11 + 10, none⟩ = some (.slice A5 n5 c5)))) (by kernel_rfl) (HSS.out _ hbx) (fun hHeld => ?_)
        refine wpAnyH_take (i := 0) (v := ?v1) (gA rfl) (by kernel_rfl) (by kernel_rfl) (by kernel_rfl) (fun _ _ _ h => h) (Or.inl ⟨rfl, ?y1⟩) (by assumption) ?_
        case y1 => (intro w hSw; (try dsimp only at hSw); go_simp <;> with_reducible rfl)
        simp only [Act.put, List.setIfInBounds_toArray, List.set_cons_zero, List.set_cons_succ]
        refine wpAnyH_take (i := 1) (v := ?v2) (gA rfl) (by kernel_rfl) (by kernel_rfl) (by kernel_rfl) (fun _ _ _ h => h) (Or.inl ⟨rfl, ?y2⟩) (by assumption) ?_
        case y2 => (intro w hSw; (try dsimp only at hSw); go_simp <;> with_reducible rfl)
        simp only [Act.put, List.setIfInBounds_toArray, List.set_cons_zero, List.set_cons_succ]
        refine wpAnyH_take (i := 2) (v := ?v3) (gA rfl) (by kernel_rfl) (by kernel_rfl) (by kernel_rfl) (fun _ _ _ h => h) (Or.inl ⟨rfl, ?y3⟩) (by assumption) ?_
        case y3 => (intro w hSw; (try dsimp only at hSw); go_simp <;> with_reducible rfl)
        simp only [Act.put, List.setIfInBounds_toArray, List.set_cons_zero, List.set_cons_succ]
        refine wpAnyH_take (i := 3) (v := ?v4) (gA rfl) (by kernel_rfl) (by kernel_rfl) (by kernel_rfl) (fun _ _ _ h => h) (Or.inl ⟨rfl, ?y4⟩) (by assumption) ?_
        case y4 => (intro w hSw; (try dsimp only at hSw); go_simp <;> with_reducible rfl)
        simp only [Act.put, List.setIfInBounds_toArray, List.set_cons_zero, List.set_cons_succ]
        refine wpAnyH_take (i := 4) (v := ?v5) (gA rfl) (by kernel_rfl) (by kernel_rfl) (by kernel_rfl) (fun _ _ _ h => h) (Or.inl ⟨rfl, ?y5⟩) (by assumption) ?_
        case y5 => (intro w hSw; (try dsimp only at hSw); go_simp <;> with_reducible rfl)
        simp only [Act.put, List.setIfInBounds_toArray, List.set_cons_zero, List.set_cons_succ]
        refine wpAnyH_take (i := 5) (v := ?v6) (gA rfl) (by kernel_rfl) (by kernel_rfl) (by kernel_rfl) (fun _ _ _ h => h) (Or.inl ⟨rfl, ?y6⟩) (by assumption) ?_
        case y6 => (intro w hSw; (try dsimp only at hSw); go_simp <;> with_reducible rfl)
        simp only [Act.put, List.setIfInBounds_toArray, List.set_cons_zero, List.set_cons_succ]
        refine wpAnyH_take (i := 6) (v := ?v7) (gA rfl) (by kernel_rfl) (by kernel_rfl) (by kernel_rfl) (fun _ _ _ h => h) (Or.inl ⟨rfl, ?y7⟩) (by assumption) ?_
        case y7 => (intro w hSw; (try dsimp only at hSw); go_simp <;> with_reducible rfl)
        simp only [Act.put, List.setIfInBounds_toArray, List.set_cons_zero, List.set_cons_succ]
        refine wpAnyH_take (i := 7) (v := ?v8) (gA rfl) (by kernel_rfl) (by kernel_rfl) (by kernel_rfl) (fun _ _ _ h => h) (Or.inl ⟨rfl, ?y8⟩) (by assumption) ?_
        case y8 => (intro w hSw; (try dsimp only at hSw); go_simp <;> with_reducible rfl)
        simp only [Act.put, List.setIfInBounds_toArray, List.set_cons_zero, List.set_cons_succ]
        refine wpAnyH_take (i := 8) (v := ?v9) (gA rfl) (by kernel_rfl) (by kernel_rfl) (by kernel_rfl) (fun _ _ _ h => h) (Or.inl ⟨rfl, ?y9⟩) (by assumption) ?_
        case y9 => (intro w hSw; (try dsimp only at hSw); go_simp <;> with_reducible rfl)
        simp only [Act.put, List.setIfInBounds_toArray, List.set_cons_zero, List.set_cons_succ]
        refine wpAnyH_take (i := 9) (v := ?v10) (gA rfl) (by kernel_rfl) (by kernel_rfl) (by kernel_rfl) (fun _ _ _ h => h) (Or.inl ⟨rfl, ?y10⟩) (by assumption) ?_
        case y10 => (intro w hSw; (try dsimp only at hSw); go_simp <;> with_reducible rfl)
        simp only [Act.put, List.setIfInBounds_toArray, List.set_cons_zero, List.set_cons_succ]
        refine wpAnyH_take (i := 10) (v := ?v11) (gA rfl) (by kernel_rfl) (by kernel_rfl) (by kernel_rfl) (fun _ _ _ h => h) (Or.inl ⟨rfl, ?y11⟩) (by assumption) ?_
        case y11 => (intro w hSw; (try dsimp only at hSw); go_simp <;> with_reducible rfl)
        simp only [Act.put, List.setIfInBounds_toArray, List.set_cons_zero, List.set_cons_succ]
        refine wpAnyH_take (i := 11) (v := ?v12) (gA rfl) (by kernel_rfl) (by kernel_rfl) (by kernel_rfl) (fun _ _ _ h => h) (Or.inl ⟨rfl, ?y12⟩) (by assumption) ?_
        case y12 => (intro w hSw; (try dsimp only at hSw); go_simp <;> with_reducible rfl)
        simp only [Act.put, List.setIfInBounds_toArray, List.set_cons_zero, List.set_cons_succ]
        refine wpAnyH_take (i := 12) (v := ?v13) (gA rfl) (by kernel_rfl) (by kernel_rfl) (by kernel_rfl) (fun _ _ _ h => h) (Or.inl ⟨rfl, ?y13⟩) (by assumption) ?_
        case y13 => (intro w hSw; (try dsimp only at hSw); go_simp <;> with_reducible rfl)
        simp only [Act.put, List.setIfInBounds_toArray, List.set_cons_zero, List.set_cons_succ]
        refine wpAnyH_take (i := 13) (v := ?v14) (gA rfl) (by kernel_rfl) (by kernel_rfl) (by kernel_rfl) (fun _ _ _ h => h) (Or.inl ⟨rfl, ?y14⟩) (by assumption) ?_
        case y14 => (intro w hSw; (try dsimp only at hSw); go_simp <;> with_reducible rfl)
        simp only [Act.put, List.setIfInBounds_toArray, List.set_cons_zero, List.set_cons_succ]
        refine wpAnyH_ready (rs := [14]) (by kernel_rfl) (by simp) (AllReadyH.cons (gA rfl) (fun K hK => ?_) AllReadyH.nil)
        go_simp
        (go_at_call 26; refine (HC.out _ hbx).mono ?_; rintro e w5 ⟨rfl, hb5⟩; replace hbx := hbx.trans (hb5.mono hbx.size); clear hb5)
        go_wp2_with fail
        refine hK.out _ _ ?_ (fun hHeld => ?_)
        · exact HSS.out _ hbx
        clear hK K
        try simp only [Act.put, List.setIfInBounds_toArray, List.set_cons_zero, List.set_cons_succ]
        refine wpAnyH_take (i := 15) (v := ?v16) (gA rfl) (by kernel_rfl) (by kernel_rfl) (by kernel_rfl) (fun _ _ _ h => h) (Or.inl ⟨rfl, ?y16⟩) (by assumption) ?_
        case y16 => (intro w hSw; (try dsimp only at hSw); go_simp <;> with_reducible rfl)
        simp only [Act.put, List.setIfInBounds_toArray, List.set_cons_zero, List.set_cons_succ]
        refine wpAnyH_take (i := 16) (v := ?v17) (gA rfl) (by kernel_rfl) (by kernel_rfl) (by kernel_rfl) (fun _ _ _ h => h) (Or.inl ⟨rfl, ?y17⟩) (by assumption) ?_
        case y17 => (intro w hSw; (try dsimp only at hSw); go_simp <;> with_reducible rfl)
        simp only [Act.put, List.setIfInBounds_toArray, List.set_cons_zero, List.set_cons_succ]
        refine wpAnyH_take (i := 17) (v := ?v18) (gA rfl) (by kernel_rfl) (by kernel_rfl) (by kernel_rfl) (fun _ _ _ h => h) (Or.inl ⟨rfl, ?y18⟩) (by assumption) ?_
        case y18 => (intro w hSw; (try dsimp only at hSw); go_simp <;> with_reducible rfl)
        simp only [Act.put, List.setIfInBounds_toArray, List.set_cons_zero, List.set_cons_succ]
        refine wpAnyH_done (by kernel_rfl) ?_ _
        go_wp2_with fail
        go_roundg (nb - (k + 1))
        case measure => omega
        case rel => exact ⟨k + 1, by omega, by omega, by go_num, HB4.out.trans (hbx.mono HB4.out.size)⟩
    · obtain rfl : k = nb := by omega
      have hG := HG.out _ hb
      have hH := HH.out _ hb
      have HC := Lib.hid (HSH.out _ (HS1.out _ hb) (HS2.out _ hb))
      obtain ⟨a0, a1, a2, a3, -⟩ := saiCells hG
      obtain ⟨f0, f1, f2, f3, -⟩ := saiCells hH
      clear hG hH
      go_wp2_with fail
      refine HC.out.mono ?_
      rintro e w3 ⟨rfl, hb3⟩
      replace hb := hb.trans (hb3.mono hb.size)
      have hG := HG.out _ hb
      have hH := HH.out _ hb
      have HC2 := Lib.hid (HFA.out _ (HS1.out _ hb) (HS2.out _ hb))
      clear a0 a1 a2 a3 f0 f1 f2 f3 HC hb3 g11
      have a4 : w3.cell? ⟨g, 4, none⟩ = some (.slice D nd cd) := hG.cell rfl
      have a5 : w3.cell? ⟨g, 5, none⟩ = some (.int .i64 x.fares.alone) := hG.cell rfl
      have a6 : w3.cell? ⟨g, 6, none⟩ = some (.int .i64 x.fares.third) := hG.cell rfl
      have a7 : w3.cell? ⟨g, 7, none⟩ = some (.slice E ne ce) := hG.cell rfl
      have a8 : w3.cell? ⟨g, 8, none⟩ = some (.int .i64 x.fares.down) := hG.cell rfl
      have f4 : w3.cell? ⟨h, 4, none⟩ = some (.slice D' nd' cd') := hH.cell rfl
      have f5 : w3.cell? ⟨h, 5, none⟩ = some (.int .i64 x.fares.alone) := hH.cell rfl
      have f6 : w3.cell? ⟨h, 6, none⟩ = some (.int .i64 x.fares.third) := hH.cell rfl
      have f7 : w3.cell? ⟨h, 7, none⟩ = some (.slice E' ne' ce') := hH.cell rfl
      have f8 : w3.cell? ⟨h, 8, none⟩ = some (.int .i64 x.fares.down) := hH.cell rfl
      clear hG hH
      go_wp2_with fail
      refine HC2.out.mono ?_
      rintro e w4 ⟨rfl, hb4⟩
      replace hb := hb.trans (hb4.mono hb.size)
      have hG := HG.out _ hb
      have hH := HH.out _ hb
      clear a4 a5 a6 a7 a8 f4 f5 f6 f7 f8 HC2 hb4
      have a9 : w4.cell? ⟨g, 9, none⟩ = some (.int .i64 x.day) := hG.cell rfl
      have a10 : w4.cell? ⟨g, 10, none⟩ = some (.int .i64 x.leaves) := hG.cell rfl
      have a12 : w4.cell? ⟨g, 12, none⟩ = some (.bool x.closed) := hG.cell rfl
      have f9 : w4.cell? ⟨h, 9, none⟩ = some (.int .i64 x.day) := hH.cell rfl
      have f10 : w4.cell? ⟨h, 10, none⟩ = some (.int .i64 x.leaves) := hH.cell rfl
      have f12 : w4.cell? ⟨h, 12, none⟩ = some (.bool x.closed) := hH.cell rfl
      clear hG hH
      go_wp2_with fail
      go_ret
      exact ⟨rfl, HT.out _ hb⟩
end Go.Proofs.YtoilcdgpeilgaaaGreat
namespace Go.Proofs.YtoilcdgpeilgaaaGreat
open Go.RowKit Go.Shelf
theorem at_mem {l : List Bkg} (hr : Rise l) {i : Nat} {b : Bkg} (h : l[i]? = some b) : atI l b.id = (i : Int) := by
  have hm : hasId l b.id = true := List.any_eq_true.2 ⟨b, List.mem_of_getElem? h, by simp⟩
  have hl := (List.getElem?_eq_some_iff.1 h).1
  rw [at_pos hr hm, pos_of (by omega) (fun q a hq ha => hr q i a b hq ha h) (fun q c hq hc => ?_)]
  rcases Nat.lt_or_ge i q with h3 | h3
  · have := hr i q b c h3 h hc; omega
  · obtain rfl : q = i := by omega
    rw [h] at hc; injection hc with hc; rw [hc]; exact Int.le_refl _
end Go.Proofs.YtoilcdgpeilgaaaGreat
