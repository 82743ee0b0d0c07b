/-
  Words, laws and contracts: VoyJ.
-/
import Derived.Test.YtoilcdgpeilgaaaGreatBun30
import Derived.BigQuiet
set_option linter.unusedSimpArgs false
set_option linter.unusedVariables false
namespace Go.Proofs.YtoilcdgpeilgaaaGreat
open Go.RowKit Go.Shelf
def keepP (b : Bkg) : Bool := liveB b && decide (0 ≤ b.cab)
theorem keepP_q (b : Bkg) : keepP b = !planQ b := by
  unfold keepP planQ
  rw [Bool.not_or, Bool.not_not]
  congr 1
  by_cases h : b.cab < 0
  · rw [decide_eq_true h, decide_eq_false (by omega)]; rfl
  · rw [decide_eq_false h, decide_eq_true (by omega)]; rfl
def planE (l : List Bkg) : List Edg := (l.filter keepP).map (fun b => ⟨b.id, b.cab⟩)
theorem planE_all (x : Sai) : planE x.bks = planL x := by
  unfold planE planL
  congr 2
  funext b
  exact keepP_q b
theorem planE_succ {l : List Bkg} {k : Nat} {b : Bkg} (h : l[k]? = some b) : planE (l.take (k + 1)) = planE (l.take k) ++ (if keepP b = true then [⟨b.id, b.cab⟩] else []) := by
  unfold planE
  rw [fil_snoc keepP h, List.map_append]
  cases keepP b <;> rfl
theorem planE_len (l : List Bkg) (k : Nat) : (planE (l.take k)).length ≤ k := by
  unfold planE
  rw [List.length_map]
  exact fil_take_len l keepP k
theorem sl_blkE {w : World} {q : Nat} {a b : Int} (h : Blk w q #[.int .i64 a, .int .i64 b] 115) (ha : InI a) (hb : InI b) : Sl edgC 2 w All (some ⟨q, 0, none⟩) 1 1 [⟨a, b⟩] :=
  Sl.ofEdgs [⟨a, b⟩] h (by simp) trivial rfl (fun x hx => by simp at hx; subst hx; exact ⟨ha, hb⟩)
set_option maxRecDepth 100000 in
set_option maxHeartbeats 16000000 in
theorem PlanOf_any (x : Sai) (p : SaiV) (w : World) (h : SaiR w x p) (h16 : x.bks.length ≤ 16) :
    Calls Tryz.prog 47 #[.agg (saiA x p)] w fun e w' => ∃ v xs, e = .returned v ∧ Own edgC 2 115 w' w.heap.size v (planL x) xs ∧ Below w.heap.size w w' := by
  obtain ⟨A, n, cap, B, m, cap2, D, nd, cd, E, ne, ce, C, nb, cb⟩ := p
  have hl : Sl bkgC 11 w All C nb cb x.bks := h.bks
  have HN := Lib.hid hl.len
  have hnb : nb ≤ 16 := by rw [← hl.len]; exact h16
  have HL := Lib.hid hl
  clear h hl h16
  go_enter Tryz.func47, Tryz.ntmps47
  go_upto_region 0 with (fail)
  go_cut [1, 2] (fun q _ wx => ∃ g, q = .pointer (some ⟨g, 0, none⟩) ∧ Blk wx g (saiA x ⟨A, n, cap, B, m, cap2, D, nd, cd, E, ne, ce, C, nb, cb⟩) 32 ∧ Below w.heap.size w wx)
  case first => as_aux_lemma =>
    go_wp2_with fail
    go_meet
    exact ⟨_, rfl, blk1 _ _, bel1 _ _⟩
  obtain ⟨g, rfl, hG, hbw⟩ := hcut
  obtain ⟨W0, hW0⟩ : ∃ W, W = wc := ⟨_, rfl⟩
  subst hW0
  have hs0 := hbw.size
  have HG := Lib.hid hG
  clear hG
  have HBW := Lib.hid hbw
  clear hbw
  go_wp2_with fail
  go_loopg [3, 4] nb (fun gk v i wr => ∃ (k : Nat) (xs : List Value) (vo : Value), k ≤ nb ∧ nb - k ≤ gk ∧ i = .int .i64 k ∧ vo = v ∧ Own edgC 2 115 wr W0.heap.size vo (planE (x.bks.take k)) xs ∧ Below W0.heap.size W0 wr)
  case atStart => exact ⟨0, [], _, Nat.zero_le _, by omega, rfl, rfl, Own.nil _ _ _ _ _, Below.refl _ _⟩
  case round =>
    obtain ⟨k, xs, vo, hk, hgk, rfl, rfl, hO, hb⟩ := hrel
    obtain ⟨V1, hV1⟩ : ∃ V, V = wr := ⟨_, rfl⟩
    subst hV1
    have hG := HG.out.bel hb
    have hs1 := hb.size
    by_cases hlt : k < nb
    · have hbo := HBW.out.trans (hb.mono HBW.out.size)
      obtain ⟨ab, off, ⟨id, kind, state, gst, lev, cab, cat, frm, upto, til, fol⟩, A3, n3, c3, hA, hx, hF, hI, hcel⟩ := (HL.out.bel hbo).bkg hlt
      subst hA
      simp only at hF
      have y0 : V1.cell? ⟨ab, off + k * 11, none⟩ = some (.int .i64 id) := hcel 0 _ rfl
      have y1 : V1.cell? ⟨ab, off + k * 11 + 1, none⟩ = some (.int .i64 kind) := hcel 1 _ rfl
      have y2 : V1.cell? ⟨ab, off + k * 11 + 2, none⟩ = some (.int .i64 state) := hcel 2 _ rfl
      have y3 : V1.cell? ⟨ab, off + k * 11 + 3, none⟩ = some (.int .i64 gst) := hcel 3 _ rfl
      have y4 : V1.cell? ⟨ab, off + k * 11 + 4, none⟩ = some (.bool lev) := hcel 4 _ rfl
      have y5 : V1.cell? ⟨ab, off + k * 11 + 5, none⟩ = some (.int .i64 cab) := hcel 5 _ rfl
      have y6 : V1.cell? ⟨ab, off + k * 11 + 6, none⟩ = some (.int .i64 cat) := hcel 6 _ rfl
      have y7 : V1.cell? ⟨ab, off + k * 11 + 7, none⟩ = some (.int .i64 frm) := hcel 7 _ rfl
      have y8 : V1.cell? ⟨ab, off + k * 11 + 8, none⟩ = some (.int .i64 upto) := hcel 8 _ rfl
      have y9 : V1.cell? ⟨ab, off + k * 11 + 9, none⟩ = some (.int .i64 til) := hcel 9 _ rfl
      have y10 : V1.cell? ⟨ab, off + k * 11 + 10, none⟩ = some (.slice A3 n3 c3) := hcel 10 _ rfl
      clear hcel
      have s11 : V1.cell? ⟨g, 11, none⟩ = some (.slice (some ⟨ab, off, none⟩) nb cb) := hG.cell rfl
      have HNX := Lib.hid (planE_succ hx)
      have hpl := planE_len x.bks k
      obtain ⟨kp, hkp⟩ : ∃ r, r = keepP ⟨id, kind, state, gst, lev, cab, cat, frm, upto, til, fol⟩ := ⟨_, rfl⟩
      rw [← hkp] at HNX
      have HKP := Lib.hid (show kp = (!decide (state = 3) && decide (0 ≤ cab)) from hkp)
      have hI0 := Lib.hid hI.id
      have hI5 := Lib.hid hI.cab
      simp only at hI0 hI5
      have HCL := Lib.hid (show ∀ X, Below V1.heap.size V1 X → (fun w' => w'.cell? ⟨g, 11, none⟩ = some (.slice (some ⟨ab, off, none⟩) nb cb) ∧ w'.cell? ⟨ab, off + k * 11, none⟩ = some (.int .i64 id) ∧ w'.cell? ⟨ab, off + k * 11 + 5, none⟩ = some (.int .i64 cab)) X from fun X hX => ⟨cellB hX s11, cellB hX y0, cellB hX y5⟩)
      have hgl0 := HG.out.lt
      have hal0 : ab < W0.heap.size := by
        obtain ⟨ab', off', _, _, _, _, hA', _, _, _, hcel'⟩ := (HL.out.bel HBW.out).bkg hlt
        have h0 := cell_lt (hcel' 0 _ rfl)
        injection hA' with hA'
        injection hA' with h1
        omega
      have HCW := Lib.hid (show ∀ X, Below W0.heap.size V1 X → (fun w' => w'.cell? ⟨g, 11, none⟩ = some (.slice (some ⟨ab, off, none⟩) nb cb) ∧ w'.cell? ⟨ab, off + k * 11, none⟩ = some (.int .i64 id) ∧ w'.cell? ⟨ab, off + k * 11 + 5, none⟩ = some (.int .i64 cab)) X from fun X hX => ⟨(World.cell?_of_block (a := ⟨g, 11, none⟩) (hX.block g hgl0)).trans s11, (World.cell?_of_block (a := ⟨ab, off + k * 11, none⟩) (hX.block ab hal0)).trans y0, (World.cell?_of_block (a := ⟨ab, off + k * 11 + 5, none⟩) (hX.block ab hal0)).trans y5⟩)
      have HO := Lib.hid (fun X (hX : Below V1.heap.size V1 X) => hO.bel hX)
      have HB := Lib.hid hb
      clear hb
      clear hO hx hI hF hkp hbo hG
      go_upto_region 5 with (fail)
      go_cut [27] (fun q wx => q = .bool kp ∧ V1 = wx)
      case first => as_aux_lemma =>
        by_cases q1 : state = 3
        · obtain rfl : kp = false := by rw [HKP.out, decide_eq_true q1]; rfl
          subst q1
          go_wp2_with fail
          go_meet
          exact ⟨rfl, rfl⟩
        · have hv : kp = decide (0 ≤ cab) := by rw [HKP.out, decide_eq_false q1]; rfl
          have HV := Lib.hid hv
          have q2 : (state != 3) = true := by simpa using q1
          clear q1 hv
          go_wp2_with fail
          go_meet
          exact ⟨by rw [HV.out], rfl⟩
      obtain ⟨rfl, rfl⟩ := hcut
      clear y0 y1 y2 y3 y4 y5 y6 y7 y8 y9 y10
      cases kp
      · have HV := Lib.hid (HNX.out.trans (by simp : _ = planE (x.bks.take k)))
        go_wp2_with fail
        go_roundg (nb - (k + 1))
        case measure => omega
        case rel => exact ⟨k + 1, xs, vo, by omega, by omega, by go_num, rfl, by rw [HV.out]; exact HO.out _ (Below.refl _ _), HB.out⟩
      have HV := Lib.hid (HNX.out.trans (show _ = planE (x.bks.take k) ++ [⟨id, cab⟩] from rfl))
      have hby : ((planE (x.bks.take k)).length + 1) * 16 ≤ 140737488355328 := by omega
      clear s11
      go_upto_region 6 with (fail)
      have hbx : Below V1.heap.size V1 V1.drew := (Below.refl _ V1).drew
      refine wp_region_held_drew (S := (fun w' => w'.cell? ⟨g, 11, none⟩ = some (.slice (some ⟨ab, off, none⟩) nb cb) ∧ w'.cell? ⟨ab, off + k * 11, none⟩ = some (.int .i64 id) ∧ w'.cell? ⟨ab, off + k * 11 + 5, none⟩ = some (.int .i64 cab))) (by kernel_rfl) (HCL.out _ hbx) (fun hHeld => ?_)
      refine wpAnyH_take (i := 0) (v := ?v1) (gA rfl) (by kernel_rfl) (by kernel_rfl) (by kernel_rfl) (fun _ _ _ h => h) (Or.inl ⟨rfl, ?y1⟩) (by assumption) ?_
      case y1 => (intro w hSw; (try dsimp only at hSw); go_simp <;> with_reducible rfl)
      simp only [Act.put, List.setIfInBounds_toArray, List.set_cons_zero, List.set_cons_succ]
      refine wpAnyH_take (i := 1) (v := ?v2) (gA rfl) (by kernel_rfl) (by kernel_rfl) (by kernel_rfl) (fun _ _ _ h => h) (Or.inl ⟨rfl, ?y2⟩) (by assumption) ?_
      case y2 => (intro w hSw; (try dsimp only at hSw); go_simp <;> with_reducible rfl)
      simp only [Act.put, List.setIfInBounds_toArray, List.set_cons_zero, List.set_cons_succ]
      refine wpAnyH_take (i := 2) (v := ?v3) (gA rfl) (by kernel_rfl) (by kernel_rfl) (by kernel_rfl) (fun _ _ _ h => h) (Or.inl ⟨rfl, ?y3⟩) (by assumption) ?_
      case y3 => (intro w hSw; (try dsimp only at hSw); go_simp <;> with_reducible rfl)
      simp only [Act.put, List.setIfInBounds_toArray, List.set_cons_zero, List.set_cons_succ]
      refine wpAnyH_take (i := 3) (v := ?v4) (gA rfl) (by kernel_rfl) (by kernel_rfl) (by kernel_rfl) (fun _ _ _ h => h) (Or.inl ⟨rfl, ?y4⟩) (by assumption) ?_
      case y4 => (intro w hSw; (try dsimp only at hSw); go_simp <;> with_reducible rfl)
      simp only [Act.put, List.setIfInBounds_toArray, List.set_cons_zero, List.set_cons_succ]
      refine wpAnyH_take (i := 4) (v := ?v5) (gA rfl) (by kernel_rfl) (by kernel_rfl) (by kernel_rfl) (fun _ _ _ h => h) (Or.inl ⟨rfl, ?y5⟩) (by assumption) ?_
      case y5 => (intro w hSw; (try dsimp only at hSw); go_simp <;> with_reducible rfl)
      simp only [Act.put, List.setIfInBounds_toArray, List.set_cons_zero, List.set_cons_succ]
      refine wpAnyH_take (i := 5) (v := ?v6) (gA rfl) (by kernel_rfl) (by kernel_rfl) (by kernel_rfl) (fun _ _ _ h => h) (Or.inl ⟨rfl, ?y6⟩) (by assumption) ?_
      case y6 => (intro w hSw; (try dsimp only at hSw); go_simp <;> with_reducible rfl)
      simp only [Act.put, List.setIfInBounds_toArray, List.set_cons_zero, List.set_cons_succ]
      refine wpAnyH_take (i := 6) (v := ?v7) (gA rfl) (by kernel_rfl) (by kernel_rfl) (by kernel_rfl) (fun _ _ _ h => h) (Or.inl ⟨rfl, ?y7⟩) (by assumption) ?_
      case y7 => (intro w hSw; (try dsimp only at hSw); go_simp <;> with_reducible rfl)
      simp only [Act.put, List.setIfInBounds_toArray, List.set_cons_zero, List.set_cons_succ]
      refine wpAnyH_take (i := 7) (v := ?v8) (gA rfl) (by kernel_rfl) (by kernel_rfl) (by kernel_rfl) (fun _ _ _ h => h) (Or.inl ⟨rfl, ?y8⟩) (by assumption) ?_
      case y8 => (intro w hSw; (try dsimp only at hSw); go_simp <;> with_reducible rfl)
      simp only [Act.put, List.setIfInBounds_toArray, List.set_cons_zero, List.set_cons_succ]
      refine wpAnyH_take (i := 8) (v := ?v9) (gA rfl) (by kernel_rfl) (by kernel_rfl) (by kernel_rfl) (fun _ _ _ h => h) (Or.inl ⟨rfl, ?y9⟩) (by assumption) ?_
      case y9 => (intro w hSw; (try dsimp only at hSw); go_simp <;> with_reducible rfl)
      simp only [Act.put, List.setIfInBounds_toArray, List.set_cons_zero, List.set_cons_succ]
      refine wpAnyH_take (i := 9) (v := ?v10) (gA rfl) (by kernel_rfl) (by kernel_rfl) (by kernel_rfl) (fun _ _ _ h => h) (Or.inl ⟨rfl, ?y10⟩) (by assumption) ?_
      case y10 => (intro w hSw; (try dsimp only at hSw); go_simp <;> with_reducible rfl)
      simp only [Act.put, List.setIfInBounds_toArray, List.set_cons_zero, List.set_cons_succ]
      refine wpAnyH_take (i := 10) (v := ?v11) (gA rfl) (by kernel_rfl) (by kernel_rfl) (by kernel_rfl) (fun _ _ _ h => h) (Or.inl ⟨rfl, ?y11⟩) (by assumption) ?_
      case y11 => (intro w hSw; (try dsimp only at hSw); go_simp <;> with_reducible rfl)
      simp only [Act.put, List.setIfInBounds_toArray, List.set_cons_zero, List.set_cons_succ]
      refine wpAnyH_take (i := 11) (v := ?v12) (gA rfl) (by kernel_rfl) (by kernel_rfl) (by kernel_rfl) (fun _ _ _ h => h) (Or.inl ⟨rfl, ?y12⟩) (by assumption) ?_
      case y12 => (intro w hSw; (try dsimp only at hSw); go_simp <;> with_reducible rfl)
      simp only [Act.put, List.setIfInBounds_toArray, List.set_cons_zero, List.set_cons_succ]
      refine wpAnyH_take (i := 12) (v := ?v13) (gA rfl) (by kernel_rfl) (by kernel_rfl) (by kernel_rfl) (fun _ _ _ h => h) (Or.inl ⟨rfl, ?y13⟩) (by assumption) ?_
      case y13 => (intro w hSw; (try dsimp only at hSw); go_simp <;> with_reducible rfl)
      simp only [Act.put, List.setIfInBounds_toArray, List.set_cons_zero, List.set_cons_succ]
      refine wpAnyH_take (i := 13) (v := ?v14) (gA rfl) (by kernel_rfl) (by kernel_rfl) (by kernel_rfl) (fun _ _ _ h => h) (Or.inl ⟨rfl, ?y14⟩) (by assumption) ?_
      case y14 => (intro w hSw; (try dsimp only at hSw); go_simp <;> with_reducible rfl)
      simp only [Act.put, List.setIfInBounds_toArray, List.set_cons_zero, List.set_cons_succ]
      refine wpAnyH_ready (rs := [14]) (by kernel_rfl) (by simp) (AllReadyH.cons (gA rfl) (fun K hK => ?_) AllReadyH.nil)
      go_simp
      refine hK.out _ _ ?_ (fun hHeld => ?_)
      · exact HCL.out _ (hbx.alloc hbx.size (.cells #[.int .i64 id, .int .i64 cab] 115))
      clear hK K
      try simp only [Act.put, List.setIfInBounds_toArray, List.set_cons_zero, List.set_cons_succ]
      have hL := freshG hbx #[.int .i64 id, .int .i64 cab] 115
      replace hbx := hbx.alloc hbx.size (.cells #[.int .i64 id, .int .i64 cab] 115)
      have hOx := HO.out _ hbx
      have hbz := HB.out.trans (hbx.mono HB.out.size)
      refine wpAnyH_ready (rs := [15]) (by kernel_rfl) (by simp) (AllReadyH.cons (gA rfl) (fun K hK => ?_) AllReadyH.nil)
      (refine step_app (t := 65) (e := 115) (bytes := 16) (base := W0.heap.size) (c := edgC) (l := planE (x.bks.take k)) (xs := xs) (l2 := [⟨id, cab⟩]) (S := All) rfl (.tmp 28) (.tmp 42) rfl edg_elem edgC_good rfl rfl hOx (sl_blkE (hL _ (by simp)) hI0.out hI5.out) (fun _ _ hc => hc) hby (by omega) hbz.size ?_; intro v2 w2 xs2 hO2 hg2 hat2; have hbE := below_app hbz hOx hg2 hbz.size; have hbV := below_app (hbx.mono hs1) hOx hg2 hbz.size)
      refine hK.out _ _ ?_ (fun hHeld => ?_)
      · exact HCW.out _ hbV
      clear hK K
      try simp only [Act.put, List.setIfInBounds_toArray, List.set_cons_zero, List.set_cons_succ]
      refine wpAnyH_take (i := 16) (v := ?v17) (gA rfl) (by kernel_rfl) (by kernel_rfl) (by kernel_rfl) (fun _ _ _ h => h) (Or.inl ⟨rfl, ?y17⟩) (by assumption) ?_
      case y17 => (intro w hSw; (try dsimp only at hSw); go_simp <;> with_reducible rfl)
      simp only [Act.put, List.setIfInBounds_toArray, List.set_cons_zero, List.set_cons_succ]
      refine wpAnyH_done (by kernel_rfl) ?_ _
      have HO2 := Lib.hid hO2
      have HB2 := Lib.hid hbE
      clear hO2 hbE hbz hOx hbx hL hg2 hat2
      go_wp2_with fail
      go_roundg (nb - (k + 1))
      case measure => omega
      case rel => exact ⟨k + 1, xs2, v2, by omega, by omega, by go_num, rfl, by rw [HV.out]; exact HO2.out, HB2.out⟩
    · obtain rfl : k = nb := by omega
      have s11 : V1.cell? ⟨g, 11, none⟩ = some (.slice C k cb) := hG.cell rfl
      rw [List.take_of_length_le (by have := HN.out; omega), planE_all] at hO
      have HO := Lib.hid hO
      have HB := Lib.hid hb
      clear hb
      clear hO hG
      go_wp2_with fail
      go_ret
      exact ⟨vo, xs, rfl, HO.out.mono edgC_good hs0, HBW.out.trans (HB.out.mono HBW.out.size)⟩
end Go.Proofs.YtoilcdgpeilgaaaGreat
