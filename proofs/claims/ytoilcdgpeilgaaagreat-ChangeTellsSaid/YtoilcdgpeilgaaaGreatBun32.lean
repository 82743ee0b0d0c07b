/-
  Words, laws and contracts: ChgI.
-/
import Derived.Test.YtoilcdgpeilgaaaGreatBun31
import Derived.BigQuiet
set_option linter.unusedSimpArgs false
set_option linter.unusedVariables false
namespace Go.Proofs.YtoilcdgpeilgaaaGreat
open Go.RowKit Go.Shelf
theorem Own.rowT {w : World} {base z : Nat} {v : Value} {l : List Entry} {xs : List Value} {cs : Array Value} {t : TypeId} (h : Own entryC 3 57 w base v l xs) (hZ : Blk w z cs t) (ht : t ≠ 57) (us : Array Value) : Own entryC 3 57 (w.setRow z us) base v l xs :=
  h.keepB entryC_flat2 fun j hj => setRow_other _ _ _ _ (fun e => h.neTy hZ ht (by rw [hj, e]))
set_option maxRecDepth 100000 in
set_option maxHeartbeats 16000000 in
theorem CancelBooking_K (K : World → Prop) (x : Sai) (p : SaiV) (t : Int) (X : Sai) (L : List (List Value)) (w : World) (hKb : ∀ V V', K V → Below V.heap.size V V' → K V') (hKS : ∀ V, K V → SaiR V x p) (hKP : ∀ V, K V → Pts bkgC V L x.bks) (hKw : K w) (hLs : Sl (rawC 11) 11 w All p.C p.nb p.cb L)
    (ho : OkSai x) (hX : X = goneX x t) :
    Calls Tryz.prog 35 #[.agg (saiA x p), .int .i64 t] w fun e w' => ResK K w w' (chE1 x t (goneE x (curB x t) x.day)) X e ∧ Below w.heap.size w w' := by
  have HX := Lib.hid hX
  have HSB0 := Lib.hid (fun K k b A3 n3 c3 V h1 h2 h3 h4 h5 h6 h7 => setBooking_K K x p k b A3 n3 c3 L V h1 h2 h3 h4 h5 h6 h7 ho.bs.len)
  have HGO0 := Lib.hid (fun b A3 n3 c3 V hF hR hfo => goneOf_any x p b A3 n3 c3 x.day V hF hR ho.fares ho.leaves hfo (betB_iff.1 ho.day))
  clear hX
  have HLA := Lib.hid (fun X hl => liveAt_any x p t X hl (rise_of ho.bs.rise))
  have hS := hKS w hKw
  have HKB := Lib.hid hKb
  have HKS := Lib.hid hKS
  have HKP := Lib.hid hKP
  have HKW := Lib.hid hKw
  have HLS := Lib.hid hLs
  have HS := Lib.hid hS
  have HRI := Lib.hid (rise_of ho.bs.rise)
  have HLN := Lib.hid (show x.bks.length = p.nb from hS.bks.len)
  have h16 : p.nb ≤ 16 := by have := ho.bs.len; have := HLN.out; omega
  obtain ⟨R, hR⟩ : ∃ r, r = chE1 x t (goneE x (curB x t) x.day) := ⟨_, rfl⟩
  obtain ⟨lv, hlv⟩ : ∃ r, r = isLive x t := ⟨_, rfl⟩
  obtain ⟨lp, hlp⟩ : ∃ r, r = liveP x t := ⟨_, rfl⟩
  have HR := Lib.hid (show R = if lv = true then (goneE x (curB x t) x.day) else 5 by rw [hR, hlv]; rfl)
  have HLP := Lib.hid (show lp = if lv = true then (posI x.bks t : Int) else -1 by rw [hlp, hlv]; rfl)
  have HLV := Lib.hid hlv
  rw [← hlp] at HLA
  rw [← hR]
  clear hR hlv hlp hS hKb hKS hKP hKw hLs
  obtain ⟨A, n, cap, B, m, cap2, D, nd, cd, E, ne, ce, C, nb, cb⟩ := p
  simp only at HLA HLN h16
  go_enter Tryz.func35, Tryz.ntmps35
  go_upto_region 0 with (fail)
  go_cut [2, 4, 5] (fun p p2 p3 wx => ∃ g z, p = .pointer (some ⟨g, 0, none⟩) ∧ p2 = .pointer (some ⟨z, 0, none⟩) ∧ p3 = .int .i64 0 ∧ w.heap.size ≤ g ∧ w.heap.size ≤ z ∧ g ≠ z ∧ Blk wx g (saiA x ⟨A, n, cap, B, m, cap2, D, nd, cd, E, ne, ce, C, nb, cb⟩) 32 ∧ Blk wx z #[.int .i64 0, .int .i64 0, .slice none 0 0, .slice none 0 0, .slice none 0 0, .int .i64 0, .int .i64 0, .slice none 0 0, .int .i64 0, .int .i64 0, .int .i64 0, .slice none 0 0, .bool false] 32 ∧ Below w.heap.size w wx)
  case first => as_aux_lemma =>
    go_wp2_with fail
    go_meet
    exact ⟨_, _, rfl, rfl, rfl, Nat.le_refl _, by omega, by omega, blk2_0 _ _ _, blk2_1 _ _ _, bel2 _ _ _⟩
  obtain ⟨g, z, rfl, rfl, rfl, hg, hz, hgz, hG, hZ, hb0⟩ := hcut
  obtain ⟨W1, hW1⟩ : ∃ V, V = wc := ⟨_, rfl⟩
  subst hW1
  have HT := Lib.hid (fun X (hX : Below W1.heap.size W1 X) => hb0.trans (hX.mono hb0.size))
  have HG := Lib.hid (fun X (hX : Below W1.heap.size W1 X) => hG.bel hX)
  have HZ := Lib.hid (fun X (hX : Below W1.heap.size W1 X) => hZ.bel hX)
  have HSX := Lib.hid (fun X (hX : Below W1.heap.size W1 X) => HS.out.bel (HT.out X hX))
  have HKX := Lib.hid (fun X (hX : Below W1.heap.size W1 X) => HKB.out w X HKW.out (HT.out X hX))
  have HEND := Lib.hid (show ∀ (E' : Int) V, ¬ E' = 0 → Below W1.heap.size W1 V → ResK K w (V.setRow z (saiA zeroS zeroP)) E' X (.returned (.tuple #[.agg (saiA zeroS zeroP), .int .i64 E'])) ∧ Below w.heap.size w (V.setRow z (saiA zeroS zeroP)) from fun E' V h0 hX =>
    ⟨⟨zeroS, zeroP, rfl, (okS_ne h0 _).symm, fun V _ _ => zeroS_rd V⟩, (HT.out V hX).trans (((Kept.refl (fun k => k = z) V).setRow (.inl rfl) _).below (B := w.heap.size) (HT.out V hX).size (fun k hk e => by omega))⟩)
  have hb : Below W1.heap.size W1 W1 := Below.refl _ _
  have hszW := hb0.size
  have hzW := hZ.lt
  clear hG hZ hb0
  have HC := Lib.hid (HLA.out _ (HSX.out _ hb).bks)
  go_wp2_with (refine wpList_load_row rfl 32 (.tmp 2) rfl g rfl 32 _ (0, 0) _ (HG.out _ hb) Tryz.underlying32 rfl (by kernel_rfl) ?_)
  refine HC.out.mono ?_
  rintro e w1 ⟨rfl, hb1⟩
  replace hb := hb.trans (hb1.mono hb.size)
  clear hb1 HC HLA
  cases lv
  · obtain rfl : lp = -1 := by rw [HLP.out]; rfl
    obtain rfl : R = 5 := by rw [HR.out]; rfl
    have hz6 := HZ.out _ hb
    go_wp2_with (refine wpList_store_row rfl 32 (.tmp 4) (.tmp 14) rfl z (saiA zeroS zeroP) rfl rfl 32 _ hz6 (by kernel_rfl) rfl (by simp [Value.oneCell']) ?_)
    refine bodyPost_ret (v := .tuple #[.agg (saiA zeroS zeroP), .int .i64 5]) ((hz6.row _).ret2 (k := 4) (u := 5) (by kernel_rfl) rfl rfl Tryz.underlying32 (by kernel_rfl) (by kernel_rfl)) rfl ?_
    exact HEND.out _ _ (by decide) hb
  have HR1 := Lib.hid (show R = (goneE x (curB x t) x.day) by rw [HR.out]; rfl)
  obtain ⟨b, h1, h2, h3, h4, h5, h6⟩ := live_at HRI.out HLV.out.symm
  have HCU := Lib.hid h6
  obtain rfl : lp = (posI x.bks t : Int) := by rw [HLP.out]; rfl
  obtain ⟨k, hkk⟩ : ∃ q, q = posI x.bks t := ⟨_, rfl⟩
  rw [← hkk] at h1 h3 ⊢
  have HKK := Lib.hid hkk
  have HBX := Lib.hid h1
  have hlt : k < nb := by rw [← HLN.out]; exact h3
  have hk0 : (0 : Int) ≤ (k : Int) := Int.natCast_nonneg _
  have hk1 : (k : Int) < (nb : Int) := by omega
  clear h2 h4 h5 h6 hkk h1 h3 HR HLP HLV
  obtain ⟨ab, off, cs, hA, hLk, hl11, hcel⟩ := raw_at (HLS.out.bel (HT.out _ hb)) hlt
  try simp only at hA
  subst hA
  obtain ⟨A3, n3, c3, rfl, hI, hfK⟩ := pts_fol HKP.out hLk HBX.out HKW.out
  have HFK := Lib.hid hfK
  have HI := Lib.hid hI
  have HM := Lib.hid hcel
  clear hLk hl11 hcel hI hfK
  have hfo := (ho.bs.bk b (List.mem_of_getElem? HBX.out)).fol
  have HGO := Lib.hid (fun V (hX : Below w1.heap.size w1 V) => HGO0.out b A3 n3 c3 V (HFK.out _ (HKX.out _ (hb.trans (hX.mono hb.size)))) (HSX.out _ (hb.trans (hX.mono hb.size))).fares hfo)
  obtain ⟨E1, hE1⟩ : ∃ q, q = goneE x b x.day := ⟨_, rfl⟩
  obtain ⟨gb, hgb⟩ : ∃ q, q = goneB x b x.day := ⟨_, rfl⟩
  have HGR := Lib.hid (show ∀ V V' e, GoneR V V' x b x.day A3 n3 c3 e → ∃ (b' : Bkg) (A5 : Option Addr) (n5 c5 : Nat), e = .returned (.tuple #[.agg (bkgA b' (.slice A5 n5 c5)), .int .i64 E1]) ∧
    (E1 = 0 → b' = gb ∧ ∃ xs, Own entryC 3 57 V' V.heap.size (.slice A5 n5 c5) b'.fol xs) from fun V V' e h => by
      obtain ⟨b', A5, n5, c5, h1, _, h2⟩ := h
      exact ⟨b', A5, n5, c5, by rw [hE1]; exact h1, by rw [hE1, hgb]; exact h2⟩)
  have HR2 := Lib.hid (show R = E1 by rw [HR1.out, HCU.out, hE1])
  have HXE := Lib.hid (show X = setS x k gb by rw [HX.out]; unfold goneX; rw [HCU.out, ← HKK.out, hgb])
  have HGI := Lib.hid (show BkIn gb by rw [hgb]; exact ⟨HI.out.id, HI.out.kind, show InI 3 from .of (by decide) (by decide), HI.out.gst, HI.out.cab, HI.out.cat, HI.out.frm, HI.out.upto, zero_in⟩)
  have HSS := Lib.hid (show ∀ V, Below w1.heap.size w1 V → (fun w' => (w'.cell? ⟨g, 0, none⟩ = some (.int .i64 x.ship.legs) ∧ w'.cell? ⟨g, 1, none⟩ = some (.int .i64 x.ship.souls) ∧ w'.cell? ⟨g, 2, none⟩ = some (.slice A n cap) ∧ w'.cell? ⟨g, 3, none⟩ = some (.slice B m cap2) ∧ w'.cell? ⟨g, 4, none⟩ = some (.slice D nd cd) ∧ w'.cell? ⟨g, 5, none⟩ = some (.int .i64 x.fares.alone) ∧ w'.cell? ⟨g, 6, none⟩ = some (.int .i64 x.fares.third) ∧ w'.cell? ⟨g, 7, none⟩ = some (.slice E ne ce) ∧ w'.cell? ⟨g, 8, none⟩ = some (.int .i64 x.fares.down) ∧ w'.cell? ⟨g, 9, none⟩ = some (.int .i64 x.day) ∧ w'.cell? ⟨g, 10, none⟩ = some (.int .i64 x.leaves) ∧ w'.cell? ⟨g, 11, none⟩ = some (.slice (some ⟨ab, off, none⟩) nb cb) ∧ w'.cell? ⟨g, 12, none⟩ = some (.bool x.closed)) ∧ (w'.cell? ⟨ab, off + k * 11, none⟩ = some (.int .i64 b.id) ∧ w'.cell? ⟨ab, off + k * 11 + 1, none⟩ = some (.int .i64 b.kind) ∧ w'.cell? ⟨ab, off + k * 11 + 2, none⟩ = some (.int .i64 b.state) ∧ w'.cell? ⟨ab, off + k * 11 + 3, none⟩ = some (.int .i64 b.gst) ∧ w'.cell? ⟨ab, off + k * 11 + 4, none⟩ = some (.bool b.lev) ∧ w'.cell? ⟨ab, off + k * 11 + 5, none⟩ = some (.int .i64 b.cab) ∧ w'.cell? ⟨ab, off + k * 11 + 6, none⟩ = some (.int .i64 b.cat) ∧ w'.cell? ⟨ab, off + k * 11 + 7, none⟩ = some (.int .i64 b.frm) ∧ w'.cell? ⟨ab, off + k * 11 + 8, none⟩ = some (.int .i64 b.upto) ∧ w'.cell? ⟨ab, off + k * 11 + 9, none⟩ = some (.int .i64 b.til) ∧ w'.cell? ⟨ab, off + k * 11 + 10, none⟩ = some (.slice A3 n3 c3))) V from fun V hX => ⟨⟨(HG.out _ (hb.trans (hX.mono hb.size))).cell rfl, (HG.out _ (hb.trans (hX.mono hb.size))).cell rfl, (HG.out _ (hb.trans (hX.mono hb.size))).cell rfl, (HG.out _ (hb.trans (hX.mono hb.size))).cell rfl, (HG.out _ (hb.trans (hX.mono hb.size))).cell rfl, (HG.out _ (hb.trans (hX.mono hb.size))).cell rfl, (HG.out _ (hb.trans (hX.mono hb.size))).cell rfl, (HG.out _ (hb.trans (hX.mono hb.size))).cell rfl, (HG.out _ (hb.trans (hX.mono hb.size))).cell rfl, (HG.out _ (hb.trans (hX.mono hb.size))).cell rfl, (HG.out _ (hb.trans (hX.mono hb.size))).cell rfl, (HG.out _ (hb.trans (hX.mono hb.size))).cell rfl, (HG.out _ (hb.trans (hX.mono hb.size))).cell rfl⟩,
    ⟨cellB hX (HM.out 0 _ rfl), cellB hX (HM.out 1 _ rfl), cellB hX (HM.out 2 _ rfl), cellB hX (HM.out 3 _ rfl), cellB hX (HM.out 4 _ rfl), cellB hX (HM.out 5 _ rfl), cellB hX (HM.out 6 _ rfl), cellB hX (HM.out 7 _ rfl), cellB hX (HM.out 8 _ rfl), cellB hX (HM.out 9 _ rfl), cellB hX (HM.out 10 _ rfl)⟩⟩)
  clear hE1 hgb hfo ho HGO0 HM
  go_upto_region 4 with (fail)
  go_cut [7, 8] (fun q q2 wx => ∃ (h : Nat) (b5 : Bkg) (A5 : Option Addr) (n5 c5 : Nat), q = .pointer (some ⟨h, 0, none⟩) ∧ q2 = .int .i64 E1 ∧ w1.heap.size ≤ h ∧ Blk wx h (bkgA b5 (.slice A5 n5 c5)) 37 ∧ (E1 = 0 → b5 = gb ∧ ∃ xs, Own entryC 3 57 wx w1.heap.size (.slice A5 n5 c5) b5.fol xs) ∧ Below w1.heap.size w1 wx)
  case first =>
    have hbx : Below w1.heap.size w1 w1.drew := (Below.refl _ w1).drew
    refine wp_region_held_drew (S := (fun w' => (w'.cell? ⟨g, 0, none⟩ = some (.int .i64 x.ship.legs) ∧ w'.cell? ⟨g, 1, none⟩ = some (.int .i64 x.ship.souls) ∧ w'.cell? ⟨g, 2, none⟩ = some (.slice A n cap) ∧ w'.cell? ⟨g, 3, none⟩ = some (.slice B m cap2) ∧ w'.cell? ⟨g, 4, none⟩ = some (.slice D nd cd) ∧ w'.cell? ⟨g, 5, none⟩ = some (.int .i64 x.fares.alone) ∧ w'.cell? ⟨g, 6, none⟩ = some (.int .i64 x.fares.third) ∧ w'.cell? ⟨g, 7, none⟩ = some (.slice E ne ce) ∧ w'.cell? ⟨g, 8, none⟩ = some (.int .i64 x.fares.down) ∧ w'.cell? ⟨g, 9, none⟩ = some (.int .i64 x.day) ∧ w'.cell? ⟨g, 10, none⟩ = some (.int .i64 x.leaves) ∧ w'.cell? ⟨g, 11, none⟩ = some (.slice (some ⟨ab, off, none⟩) nb cb) ∧ w'.cell? ⟨g, 12, none⟩ = some (.bool x.closed)) ∧ (w'.cell? ⟨ab, off + k * 11, none⟩ = some (.int .i64 b.id) ∧ w'.cell? ⟨ab, off + k * 11 + 1, none⟩ = some (.int .i64 b.kind) ∧ w'.cell? ⟨ab, off + k * 11 + 2, none⟩ = some (.int .i64 b.state) ∧ w'.cell? ⟨ab, off + k * 11 + 3, none⟩ = some (.int .i64 b.gst) ∧ w'.cell? ⟨ab, off + k * 11 + 4, none⟩ = some (.bool b.lev) ∧ w'.cell? ⟨ab, off + k * 11 + 5, none⟩ = some (.int .i64 b.cab) ∧ w'.cell? ⟨ab, off + k * 11 + 6, none⟩ = some (.int .i64 b.cat) ∧ w'.cell? ⟨ab, off + k * 11 + 7, none⟩ = some (.int .i64 b.frm) ∧ w'.cell? ⟨ab, off + k * 11 + 8, none⟩ = some (.int .i64 b.upto) ∧ w'.cell? ⟨ab, off + k * 11 + 9, none⟩ = some (.int .i64 b.til) ∧ w'.cell? ⟨ab, off + k * 11 + 10, none⟩ = some (.slice A3 n3 c3)))) (by kernel_rfl) (HSS.out _ hbx) (fun hHeld => ?_)
    refine wpAnyH_take (i := 0) (v := ?v5) (gA rfl) (by kernel_rfl) (by kernel_rfl) (by kernel_rfl) (fun _ _ _ h => h) (Or.inl ⟨rfl, ?y5⟩) (by assumption) ?_
    case y5 => (intro w hSw; (try dsimp only at hSw); go_simp <;> with_reducible rfl)
    simp only [Act.put, List.setIfInBounds_toArray, List.set_cons_zero, List.set_cons_succ]
    refine wpAnyH_take (i := 1) (v := ?v6) (gA rfl) (by kernel_rfl) (by kernel_rfl) (by kernel_rfl) (fun _ _ _ h => h) (Or.inl ⟨rfl, ?y6⟩) (by assumption) ?_
    case y6 => (intro w hSw; (try dsimp only at hSw); go_simp <;> with_reducible rfl)
    simp only [Act.put, List.setIfInBounds_toArray, List.set_cons_zero, List.set_cons_succ]
    refine wpAnyH_take (i := 2) (v := ?v7) (gA rfl) (by kernel_rfl) (by kernel_rfl) (by kernel_rfl) (fun _ _ _ h => h) (Or.inl ⟨rfl, ?y7⟩) (by assumption) ?_
    case y7 => (intro w hSw; (try dsimp only at hSw); go_simp <;> with_reducible rfl)
    simp only [Act.put, List.setIfInBounds_toArray, List.set_cons_zero, List.set_cons_succ]
    refine wpAnyH_take (i := 3) (v := ?v8) (gA rfl) (by kernel_rfl) (by kernel_rfl) (by kernel_rfl) (fun _ _ _ h => h) (Or.inl ⟨rfl, ?y8⟩) (by assumption) ?_
    case y8 => (intro w hSw; (try dsimp only at hSw); go_simp <;> with_reducible rfl)
    simp only [Act.put, List.setIfInBounds_toArray, List.set_cons_zero, List.set_cons_succ]
    refine wpAnyH_take (i := 4) (v := ?v9) (gA rfl) (by kernel_rfl) (by kernel_rfl) (by kernel_rfl) (fun _ _ _ h => h) (Or.inl ⟨rfl, ?y9⟩) (by assumption) ?_
    case y9 => (intro w hSw; (try dsimp only at hSw); go_simp <;> with_reducible rfl)
    simp only [Act.put, List.setIfInBounds_toArray, List.set_cons_zero, List.set_cons_succ]
    refine wpAnyH_take (i := 5) (v := ?v10) (gA rfl) (by kernel_rfl) (by kernel_rfl) (by kernel_rfl) (fun _ _ _ h => h) (Or.inl ⟨rfl, ?y10⟩) (by assumption) ?_
    case y10 => (intro w hSw; (try dsimp only at hSw); go_simp <;> with_reducible rfl)
    simp only [Act.put, List.setIfInBounds_toArray, List.set_cons_zero, List.set_cons_succ]
    refine wpAnyH_take (i := 6) (v := ?v11) (gA rfl) (by kernel_rfl) (by kernel_rfl) (by kernel_rfl) (fun _ _ _ h => h) (Or.inl ⟨rfl, ?y11⟩) (by assumption) ?_
    case y11 => (intro w hSw; (try dsimp only at hSw); go_simp <;> with_reducible rfl)
    simp only [Act.put, List.setIfInBounds_toArray, List.set_cons_zero, List.set_cons_succ]
    refine wpAnyH_take (i := 7) (v := ?v12) (gA rfl) (by kernel_rfl) (by kernel_rfl) (by kernel_rfl) (fun _ _ _ h => h) (Or.inl ⟨rfl, ?y12⟩) (by assumption) ?_
    case y12 => (intro w hSw; (try dsimp only at hSw); go_simp <;> with_reducible rfl)
    simp only [Act.put, List.setIfInBounds_toArray, List.set_cons_zero, List.set_cons_succ]
    refine wpAnyH_ready (rs := [8, 12]) (by kernel_rfl) (by simp) ?_
    refine AllReadyH.cons (gA rfl) (fun K hK => ?_) ?m_1
    case m_1 =>
      refine AllReadyH.cons (gA rfl) (fun K hK => ?_) AllReadyH.nil
      go_simp
      refine hK.out _ _ ?_ (fun hHeld => ?_)
      · exact HSS.out _ (hbx.alloc hbx.size (.cells #[.int .i64 0, .int .i64 0, .int .i64 0, .int .i64 0, .bool false, .int .i64 0, .int .i64 0, .int .i64 0, .int .i64 0, .int .i64 0, .slice none 0 0] 37))
      clear hK K
      try simp only [Act.put, List.setIfInBounds_toArray, List.set_cons_zero, List.set_cons_succ]
      (have hL := freshG hbx #[.int .i64 0, .int .i64 0, .int .i64 0, .int .i64 0, .bool false, .int .i64 0, .int .i64 0, .int .i64 0, .int .i64 0, .int .i64 0, .slice none 0 0] 37; have hge := geOf hbx; (try replace hyes := fun h0 => And.intro (hyes h0).1 (Exists.intro _ ((hyes h0).2.choose_spec.bel (bel1 _ (.cells #[.int .i64 0, .int .i64 0, .int .i64 0, .int .i64 0, .bool false, .int .i64 0, .int .i64 0, .int .i64 0, .int .i64 0, .int .i64 0, .slice none 0 0] 37))))); replace hbx := hbx.alloc hbx.size (.cells #[.int .i64 0, .int .i64 0, .int .i64 0, .int .i64 0, .bool false, .int .i64 0, .int .i64 0, .int .i64 0, .int .i64 0, .int .i64 0, .slice none 0 0] 37))
      refine wpAnyH_ready (rs := [8]) (by kernel_rfl) (by simp) ?_
      refine AllReadyH.cons (gA rfl) (fun K hK => ?_) AllReadyH.nil
      go_simp
      (go_at_call 114; refine (HGO.out _ hbx).mono ?_; rintro e w8 ⟨hgr, hb8⟩; obtain ⟨b5, A5, n5, c5, rfl, hyes0⟩ := HGR.out _ _ _ hgr; have hs8 := hbx.size; have hyes := fun h0 => And.intro (hyes0 h0).1 (Exists.intro _ ((hyes0 h0).2.choose_spec.mono entryC_good hs8)); (try replace hL := fun g hg => (hL g hg).bel hb8); replace hbx := hbx.trans (hb8.mono hbx.size); clear hb8 hgr hyes0)
      go_wp2_with fail
      refine hK.out _ _ ?_ (fun hHeld => ?_)
      · exact HSS.out _ hbx
      clear hK K
      try simp only [Act.put, List.setIfInBounds_toArray, List.set_cons_zero, List.set_cons_succ]
      refine wpAnyH_take (i := 9) (v := ?v13) (gA rfl) (by kernel_rfl) (by kernel_rfl) (by kernel_rfl) (fun _ _ _ h => h) (Or.inl ⟨rfl, ?y13⟩) (by assumption) ?_
      case y13 => (intro w hSw; (try dsimp only at hSw); go_simp <;> with_reducible rfl)
      simp only [Act.put, List.setIfInBounds_toArray, List.set_cons_zero, List.set_cons_succ]
      refine wpAnyH_take (i := 10) (v := ?v14) (gA rfl) (by kernel_rfl) (by kernel_rfl) (by kernel_rfl) (fun _ _ _ h => h) (Or.inl ⟨rfl, ?y14⟩) (by assumption) ?_
      case y14 => (intro w hSw; (try dsimp only at hSw); go_simp <;> with_reducible rfl)
      simp only [Act.put, List.setIfInBounds_toArray, List.set_cons_zero, List.set_cons_succ]
      refine wpAnyH_take (i := 11) (v := ?v15) (gA rfl) (by kernel_rfl) (by kernel_rfl) (by kernel_rfl) (fun _ _ _ h => h) (Or.inl ⟨rfl, ?y15⟩) (by assumption) ?_
      case y15 => (intro w hSw; (try dsimp only at hSw); go_simp <;> with_reducible rfl)
      simp only [Act.put, List.setIfInBounds_toArray, List.set_cons_zero, List.set_cons_succ]
      refine wpAnyH_ready (rs := [13]) (by kernel_rfl) (by simp) (AllReadyH.cons (gA rfl) (fun K hK => ?_) AllReadyH.nil)
      (refine wp_store_row 37 (.tmp 7) (.tmp 25) rfl _ (bkgA b5 (.slice A5 n5 c5)) rfl rfl 37 _ (hL _ (by simp)) (by kernel_rfl) rfl (bkgA_one _ _ _ _) ?_)
      refine hK.out _ _ ?_ (fun hHeld => ?_)
      · exact HSS.out _ (below_setRow hbx (hge _ (by simp)) _)
      clear hK K
      try simp only [Act.put, List.setIfInBounds_toArray, List.set_cons_zero, List.set_cons_succ]
      refine wpAnyH_take (i := 14) (v := ?v17) (gA rfl) (by kernel_rfl) (by kernel_rfl) (by kernel_rfl) (fun _ _ _ h => h) (Or.inl ⟨rfl, ?y17⟩) (by assumption) ?_
      case y17 => (intro w hSw; (try dsimp only at hSw); go_simp <;> with_reducible rfl)
      simp only [Act.put, List.setIfInBounds_toArray, List.set_cons_zero, List.set_cons_succ]
      refine wpAnyH_done (by kernel_rfl) ?_ _
      go_wp2_with fail
      go_meet
      exact ⟨_, b5, A5, n5, c5, rfl, rfl, hge _ (by simp), (hL _ (by simp)).row _, fun h0 => ⟨(hyes h0).1, _, (hyes h0).2.choose_spec.rowT (hL _ (by simp)) (by decide) _⟩, below_setRow hbx (hge _ (by simp)) _⟩
    go_simp
    (go_at_call 114; refine (HGO.out _ hbx).mono ?_; rintro e w8 ⟨hgr, hb8⟩; obtain ⟨b5, A5, n5, c5, rfl, hyes0⟩ := HGR.out _ _ _ hgr; have hs8 := hbx.size; have hyes := fun h0 => And.intro (hyes0 h0).1 (Exists.intro _ ((hyes0 h0).2.choose_spec.mono entryC_good hs8)); (try replace hL := fun g hg => (hL g hg).bel hb8); replace hbx := hbx.trans (hb8.mono hbx.size); clear hb8 hgr hyes0)
    go_wp2_with fail
    refine hK.out _ _ ?_ (fun hHeld => ?_)
    · exact HSS.out _ hbx
    clear hK K
    try simp only [Act.put, List.setIfInBounds_toArray, List.set_cons_zero, List.set_cons_succ]
    refine wpAnyH_take (i := 9) (v := ?v18) (gA rfl) (by kernel_rfl) (by kernel_rfl) (by kernel_rfl) (fun _ _ _ h => h) (Or.inl ⟨rfl, ?y18⟩) (by assumption) ?_
    case y18 => (intro w hSw; (try dsimp only at hSw); go_simp <;> with_reducible rfl)
    simp only [Act.put, List.setIfInBounds_toArray, List.set_cons_zero, List.set_cons_succ]
    refine wpAnyH_take (i := 10) (v := ?v19) (gA rfl) (by kernel_rfl) (by kernel_rfl) (by kernel_rfl) (fun _ _ _ h => h) (Or.inl ⟨rfl, ?y19⟩) (by assumption) ?_
    case y19 => (intro w hSw; (try dsimp only at hSw); go_simp <;> with_reducible rfl)
    simp only [Act.put, List.setIfInBounds_toArray, List.set_cons_zero, List.set_cons_succ]
    refine wpAnyH_take (i := 11) (v := ?v20) (gA rfl) (by kernel_rfl) (by kernel_rfl) (by kernel_rfl) (fun _ _ _ h => h) (Or.inl ⟨rfl, ?y20⟩) (by assumption) ?_
    case y20 => (intro w hSw; (try dsimp only at hSw); go_simp <;> with_reducible rfl)
    simp only [Act.put, List.setIfInBounds_toArray, List.set_cons_zero, List.set_cons_succ]
    refine wpAnyH_ready (rs := [12]) (by kernel_rfl) (by simp) ?_
    refine AllReadyH.cons (gA rfl) (fun K hK => ?_) AllReadyH.nil
    go_simp
    refine hK.out _ _ ?_ (fun hHeld => ?_)
    · exact HSS.out _ (hbx.alloc hbx.size (.cells #[.int .i64 0, .int .i64 0, .int .i64 0, .int .i64 0, .bool false, .int .i64 0, .int .i64 0, .int .i64 0, .int .i64 0, .int .i64 0, .slice none 0 0] 37))
    clear hK K
    try simp only [Act.put, List.setIfInBounds_toArray, List.set_cons_zero, List.set_cons_succ]
    (have hL := freshG hbx #[.int .i64 0, .int .i64 0, .int .i64 0, .int .i64 0, .bool false, .int .i64 0, .int .i64 0, .int .i64 0, .int .i64 0, .int .i64 0, .slice none 0 0] 37; have hge := geOf hbx; (try replace hyes := fun h0 => And.intro (hyes h0).1 (Exists.intro _ ((hyes h0).2.choose_spec.bel (bel1 _ (.cells #[.int .i64 0, .int .i64 0, .int .i64 0, .int .i64 0, .bool false, .int .i64 0, .int .i64 0, .int .i64 0, .int .i64 0, .int .i64 0, .slice none 0 0] 37))))); replace hbx := hbx.alloc hbx.size (.cells #[.int .i64 0, .int .i64 0, .int .i64 0, .int .i64 0, .bool false, .int .i64 0, .int .i64 0, .int .i64 0, .int .i64 0, .int .i64 0, .slice none 0 0] 37))
    refine wpAnyH_ready (rs := [13]) (by kernel_rfl) (by simp) (AllReadyH.cons (gA rfl) (fun K hK => ?_) AllReadyH.nil)
    (refine wp_store_row 37 (.tmp 7) (.tmp 25) rfl _ (bkgA b5 (.slice A5 n5 c5)) rfl rfl 37 _ (hL _ (by simp)) (by kernel_rfl) rfl (bkgA_one _ _ _ _) ?_)
    refine hK.out _ _ ?_ (fun hHeld => ?_)
    · exact HSS.out _ (below_setRow hbx (hge _ (by simp)) _)
    clear hK K
    try simp only [Act.put, List.setIfInBounds_toArray, List.set_cons_zero, List.set_cons_succ]
    refine wpAnyH_take (i := 14) (v := ?v22) (gA rfl) (by kernel_rfl) (by kernel_rfl) (by kernel_rfl) (fun _ _ _ h => h) (Or.inl ⟨rfl, ?y22⟩) (by assumption) ?_
    case y22 => (intro w hSw; (try dsimp only at hSw); go_simp <;> with_reducible rfl)
    simp only [Act.put, List.setIfInBounds_toArray, List.set_cons_zero, List.set_cons_succ]
    refine wpAnyH_done (by kernel_rfl) ?_ _
    go_wp2_with fail
    go_meet
    exact ⟨_, b5, A5, n5, c5, rfl, rfl, hge _ (by simp), (hL _ (by simp)).row _, fun h0 => ⟨(hyes h0).1, _, (hyes h0).2.choose_spec.rowT (hL _ (by simp)) (by decide) _⟩, below_setRow hbx (hge _ (by simp)) _⟩
  obtain ⟨h, b5, A5, n5, c5, rfl, rfl, hh, hH, hyes, hbw⟩ := hcut
  obtain ⟨W5, hW5⟩ : ∃ V, V = wc := ⟨_, rfl⟩
  subst hW5
  have hsz1 := hb.size
  replace hb := hb.trans (hbw.mono hb.size)
  have HYES := Lib.hid hyes
  clear hyes
  have HH := Lib.hid hH
  clear hH
  clear hbw HGO HGR HSS
  by_cases q7 : E1 = 0
  rotate_left
  · obtain rfl : R = E1 := HR2.out
    have q8 : (R != 0) = true := by simpa using q7
    have Q7 := Lib.hid q7
    clear q7
    have hz6 := HZ.out _ hb
    go_wp2_with (refine wpList_store_row rfl 32 (.tmp 4) (.tmp 29) rfl z (saiA zeroS zeroP) rfl rfl 32 _ hz6 (by kernel_rfl) rfl (by simp [Value.oneCell']) ?_)
    refine bodyPost_ret (v := .tuple #[.agg (saiA zeroS zeroP), .int .i64 R]) ((hz6.row _).ret2 (k := 4) (u := 5) (by kernel_rfl) rfl rfl Tryz.underlying32 (by kernel_rfl) (by kernel_rfl)) rfl ?_
    exact HEND.out _ _ Q7.out hb
  obtain ⟨rfl, xs5, hO5⟩ := HYES.out q7
  obtain rfl : R = 0 := by rw [HR2.out, q7]
  subst q7
  have HO5 := Lib.hid hO5
  clear hO5
  have HC := Lib.hid (HSB0.out (fun V => K V ∧ ∀ j, (Value.slice A5 n5 c5).ownBlock = some j → V.heap[j]? = W5.heap[j]?) k b5 A5 n5 c5 W5 (fun V hV => HKS.out V hV.1) (fun V hV => HKP.out V hV.1)
    (fun V hV => (HO5.out.keepB entryC_flat2 (fun j hj => hV.2 j hj)).slAll entryC_good entryC_good (by omega) (fun h => h) rfl) ⟨HKX.out _ hb, fun _ _ => rfl⟩ (HLS.out.bel (HT.out _ hb)) HGI.out (by rw [HLN.out]; exact hlt))
  clear HSB0 HYES HGI
  go_wp2_with (first | (refine wpList_load_row rfl 32 (.tmp 2) rfl g rfl 32 _ (0, 0) _ (HG.out _ hb) Tryz.underlying32 rfl (by kernel_rfl) ?_) | (refine wpList_load_row rfl 37 (.tmp 7) rfl h rfl 37 _ (0, 0) _ HH.out Tryz.underlying37 rfl (by kernel_rfl) ?_))
  refine HC.out.mono ?_
  rintro e w4 ⟨q, p', rfl, hq0, hq1, hSR, hb4⟩
  have hsz := hb.size
  have HQ5 := Lib.hid (show ∀ j, (Value.slice A5 n5 c5).ownBlock = some j → w1.heap.size ≤ j ∧ j < w4.heap.size ∧ w4.heap[j]? = W5.heap[j]? from fun j hj => by
    have h1 := HO5.out.lt j hj
    exact ⟨h1.1, Nat.lt_of_lt_of_le h1.2 hb4.size, hb4.block j h1.2⟩)
  replace hb := hb.trans (hb4.mono hb.size)
  have HSR := Lib.hid hSR
  clear HC hSR hb4 HH HO5
  have hz6 := HZ.out _ hb
  go_wp2_with (refine wpList_store_row rfl 32 (.tmp 4) (.tmp 34) rfl z (saiA (setS x k b5) p') rfl rfl 32 _ hz6 (by kernel_rfl) rfl (by simp [Value.oneCell']) ?_)
  refine bodyPost_ret (v := .tuple #[.agg (saiA (setS x k b5) p'), .int .i64 0]) ((hz6.row _).ret2 (k := 4) (u := 5) (by kernel_rfl) rfl rfl Tryz.underlying32 (by kernel_rfl) (by kernel_rfl)) rfl ?_
  have hszT := (HT.out _ hb).size
  have hKz : Kept (fun k => k = z) w4 (w4.setRow z (saiA (setS x k b5) p')) := (Kept.refl (fun k => k = z) _).setRow (.inl rfl) _
  have hbz := ((HT.out _ hb).trans (hKz.below (B := w.heap.size) (HT.out _ hb).size (fun k hk e => by omega)))
  refine ⟨⟨_, p', rfl, by rw [okS_zero, HXE.out], fun V hV hN => HSR.out V ⟨hV, fun j hj => ?_⟩ ?_⟩, hbz⟩
  · obtain ⟨h1, h2, h3⟩ := HQ5.out j hj
    exact ((hN j (by omega) (by have := hKz.size; omega)).trans (hKz.block j h2 (by omega))).trans h3
  · exact (hN q (by omega) (Nat.lt_of_lt_of_le hq1 hKz.size)).trans (hKz.block q hq1 (by omega))
set_option maxRecDepth 100000 in
set_option maxHeartbeats 16000000 in
theorem MoveOf_K (K : World → Prop) (x : Sai) (p : SaiV) (t a : Int) (X : Sai) (L : List (List Value)) (w : World) (hKb : ∀ V V', K V → Below V.heap.size V V' → K V') (hKS : ∀ V, K V → SaiR V x p) (hKP : ∀ V, K V → Pts bkgC V L x.bks) (hKw : K w) (hLs : Sl (rawC 11) 11 w All p.C p.nb p.cb L)
    (ho : OkSai x) (ha : InI a) (hX : X = moveX x t a) :
    Calls Tryz.prog 36 #[.agg (saiA x p), .int .i64 t, .int .i64 a] w fun e w' => ResK K w w' (chE1 x t (moveE x (posI x.bks t) (curB x t) a)) X e ∧ Below w.heap.size w w' := by
  have HX := Lib.hid hX
  have HSB0 := Lib.hid (fun K k b A3 n3 c3 V h1 h2 h3 h4 h5 h6 h7 => setBooking_K K x p k b A3 n3 c3 L V h1 h2 h3 h4 h5 h6 h7 ho.bs.len)
  have HCB0 := Lib.hid (fun b A3 n3 c3 V hc hb hf => CheckBooking_any x.ship p.A p.n p.cap p.B p.m p.cap2 b A3 n3 c3 V hc hb ho.bs.ship hf)
  have HRM0 := Lib.hid (fun Y p V (h : SaiR V Y p) (k : Nat) (nbk : Bkg) (hY : Y = setS x k nbk) (hk : OkBk x.ship nbk) => RoomOf_any Y p V h (by rw [hY]; exact ho.bs.ship) (fun d hd => by
    rw [hY] at hd
    rcases List.mem_or_eq_of_mem_set hd with h1 | h1
    · rw [hY]; exact ho.bs.bk d h1
    · subst h1; rw [hY]; exact hk) (by rw [hY]; show (x.bks.set k nbk).length ≤ 16; rw [List.length_set]; exact ho.bs.len))
  have HM := Lib.hid (show x.ship.cabs.length = p.m from (hKS w hKw).cabs.len)
  have hmb := (hKS w hKw).cabs.bd
  have HIA := Lib.hid ha
  clear hX ha
  have HLA := Lib.hid (fun X hl => liveAt_any x p t X hl (rise_of ho.bs.rise))
  have hS := hKS w hKw
  have HKB := Lib.hid hKb
  have HKS := Lib.hid hKS
  have HKP := Lib.hid hKP
  have HKW := Lib.hid hKw
  have HLS := Lib.hid hLs
  have HS := Lib.hid hS
  have HRI := Lib.hid (rise_of ho.bs.rise)
  have HLN := Lib.hid (show x.bks.length = p.nb from hS.bks.len)
  have h16 : p.nb ≤ 16 := by have := ho.bs.len; have := HLN.out; omega
  obtain ⟨R, hR⟩ : ∃ r, r = chE1 x t (moveE x (posI x.bks t) (curB x t) a) := ⟨_, rfl⟩
  obtain ⟨lv, hlv⟩ : ∃ r, r = isLive x t := ⟨_, rfl⟩
  obtain ⟨lp, hlp⟩ : ∃ r, r = liveP x t := ⟨_, rfl⟩
  have HR := Lib.hid (show R = if lv = true then (moveE x (posI x.bks t) (curB x t) a) else 5 by rw [hR, hlv]; rfl)
  have HLP := Lib.hid (show lp = if lv = true then (posI x.bks t : Int) else -1 by rw [hlp, hlv]; rfl)
  have HLV := Lib.hid hlv
  rw [← hlp] at HLA
  rw [← hR]
  clear hR hlv hlp hS hKb hKS hKP hKw hLs
  obtain ⟨A, n, cap, B, m, cap2, D, nd, cd, E, ne, ce, C, nb, cb⟩ := p
  simp only at HLA HLN h16
  go_enter Tryz.func36, Tryz.ntmps36
  go_upto_region 0 with (fail)
  go_cut [3, 6, 7] (fun p p2 p3 wx => ∃ g z, p = .pointer (some ⟨g, 0, none⟩) ∧ p2 = .pointer (some ⟨z, 0, none⟩) ∧ p3 = .int .i64 0 ∧ w.heap.size ≤ g ∧ w.heap.size ≤ z ∧ g ≠ z ∧ Blk wx g (saiA x ⟨A, n, cap, B, m, cap2, D, nd, cd, E, ne, ce, C, nb, cb⟩) 32 ∧ Blk wx z #[.int .i64 0, .int .i64 0, .slice none 0 0, .slice none 0 0, .slice none 0 0, .int .i64 0, .int .i64 0, .slice none 0 0, .int .i64 0, .int .i64 0, .int .i64 0, .slice none 0 0, .bool false] 32 ∧ Below w.heap.size w wx)
  case first => as_aux_lemma =>
    go_wp2_with fail
    go_meet
    exact ⟨_, _, rfl, rfl, rfl, Nat.le_refl _, by omega, by omega, blk2_0 _ _ _, blk2_1 _ _ _, bel2 _ _ _⟩
  obtain ⟨g, z, rfl, rfl, rfl, hg, hz, hgz, hG, hZ, hb0⟩ := hcut
  obtain ⟨W1, hW1⟩ : ∃ V, V = wc := ⟨_, rfl⟩
  subst hW1
  have HT := Lib.hid (fun X (hX : Below W1.heap.size W1 X) => hb0.trans (hX.mono hb0.size))
  have HG := Lib.hid (fun X (hX : Below W1.heap.size W1 X) => hG.bel hX)
  have HZ := Lib.hid (fun X (hX : Below W1.heap.size W1 X) => hZ.bel hX)
  have HSX := Lib.hid (fun X (hX : Below W1.heap.size W1 X) => HS.out.bel (HT.out X hX))
  have HKX := Lib.hid (fun X (hX : Below W1.heap.size W1 X) => HKB.out w X HKW.out (HT.out X hX))
  have HEND := Lib.hid (show ∀ (E' : Int) V, ¬ E' = 0 → Below W1.heap.size W1 V → ResK K w (V.setRow z (saiA zeroS zeroP)) E' X (.returned (.tuple #[.agg (saiA zeroS zeroP), .int .i64 E'])) ∧ Below w.heap.size w (V.setRow z (saiA zeroS zeroP)) from fun E' V h0 hX =>
    ⟨⟨zeroS, zeroP, rfl, (okS_ne h0 _).symm, fun V _ _ => zeroS_rd V⟩, (HT.out V hX).trans (((Kept.refl (fun k => k = z) V).setRow (.inl rfl) _).below (B := w.heap.size) (HT.out V hX).size (fun k hk e => by omega))⟩)
  have hb : Below W1.heap.size W1 W1 := Below.refl _ _
  have hszW := hb0.size
  have hzW := hZ.lt
  clear hG hZ hb0
  have HC := Lib.hid (HLA.out _ (HSX.out _ hb).bks)
  go_wp2_with (refine wpList_load_row rfl 32 (.tmp 3) rfl g rfl 32 _ (0, 0) _ (HG.out _ hb) Tryz.underlying32 rfl (by kernel_rfl) ?_)
  refine HC.out.mono ?_
  rintro e w1 ⟨rfl, hb1⟩
  replace hb := hb.trans (hb1.mono hb.size)
  clear hb1 HC HLA
  cases lv
  · obtain rfl : lp = -1 := by rw [HLP.out]; rfl
    obtain rfl : R = 5 := by rw [HR.out]; rfl
    have hz6 := HZ.out _ hb
    go_wp2_with (refine wpList_store_row rfl 32 (.tmp 6) (.tmp 17) rfl z (saiA zeroS zeroP) rfl rfl 32 _ hz6 (by kernel_rfl) rfl (by simp [Value.oneCell']) ?_)
    refine bodyPost_ret (v := .tuple #[.agg (saiA zeroS zeroP), .int .i64 5]) ((hz6.row _).ret2 (k := 6) (u := 7) (by kernel_rfl) rfl rfl Tryz.underlying32 (by kernel_rfl) (by kernel_rfl)) rfl ?_
    exact HEND.out _ _ (by decide) hb
  have HR1 := Lib.hid (show R = (moveE x (posI x.bks t) (curB x t) a) by rw [HR.out]; rfl)
  obtain ⟨b, h1, h2, h3, h4, h5, h6⟩ := live_at HRI.out HLV.out.symm
  have HCU := Lib.hid h6
  obtain rfl : lp = (posI x.bks t : Int) := by rw [HLP.out]; rfl
  obtain ⟨k, hkk⟩ : ∃ q, q = posI x.bks t := ⟨_, rfl⟩
  rw [← hkk] at h1 h3 ⊢
  have HKK := Lib.hid hkk
  have HBX := Lib.hid h1
  have hlt : k < nb := by rw [← HLN.out]; exact h3
  have hk0 : (0 : Int) ≤ (k : Int) := Int.natCast_nonneg _
  have hk1 : (k : Int) < (nb : Int) := by omega
  clear h2 h4 h5 h6 hkk h1 h3 HR HLP HLV
  obtain ⟨ab, off, cs, hA, hLk, hl11, hcel⟩ := raw_at (HLS.out.bel (HT.out _ hb)) hlt
  try simp only at hA
  subst hA
  obtain ⟨A3, n3, c3, rfl, hI, hfK⟩ := pts_fol HKP.out hLk HBX.out HKW.out
  have HFK := Lib.hid hfK
  have HI := Lib.hid hI
  have HM := Lib.hid hcel
  clear hLk hl11 hcel hI hfK
  go_upto_region 4 with (fail)
  go_cut [9] (fun p wx => ∃ h, p = .pointer (some ⟨h, 0, none⟩) ∧ W1.heap.size ≤ h ∧ Blk wx h (bkgA b (.slice A3 n3 c3)) 37 ∧ Below W1.heap.size W1 wx)
  case first =>
    have g11 : w1.cell? ⟨g, 11, none⟩ = some (.slice (some ⟨ab, off, none⟩) nb cb) := (HG.out _ hb).cell rfl
    go_wp2_with (first | (refine wpList_load_mid rfl 37 (.tmp 21) rfl ab (off + k * 11) rfl _ _ HM.out Tryz.underlying37 rfl (by kernel_rfl) ?_) | (refine wpList_store_row rfl 37 (.tmp 9) (.tmp 22) rfl w1.heap.size (bkgA b (.slice A3 n3 c3)) rfl rfl 37 _ (Blk.new w1 #[.int .i64 0, .int .i64 0, .int .i64 0, .int .i64 0, .bool false, .int .i64 0, .int .i64 0, .int .i64 0, .int .i64 0, .int .i64 0, .slice none 0 0] 37) (by kernel_rfl) rfl (bkgA_one _ _ _ _) ?_))
    go_meet
    exact ⟨_, rfl, hb.size, (Blk.new w1 _ _).row _, hb.trans ((below_setRow (bel1 w1 _) (Nat.le_refl _) _).mono hb.size)⟩
  obtain ⟨h, rfl, hh, hH, hb⟩ := hcut
  obtain ⟨W2, hW2⟩ : ∃ V, V = wc := ⟨_, rfl⟩
  subst hW2
  have hhl := hH.lt
  clear HM
  obtain ⟨nbk, hnbk⟩ : ∃ r, r = moveB b a := ⟨_, rfl⟩
  obtain ⟨Y, hY⟩ : ∃ r, r = setS x k nbk := ⟨_, rfl⟩
  obtain ⟨cb', hcb⟩ : ∃ r, r = b.cab := ⟨_, rfl⟩
  obtain ⟨oe, hoe⟩ : ∃ r, r = ofE x.ship nbk := ⟨_, rfl⟩
  obtain ⟨rm, hrm⟩ : ∃ r, r = roomE Y := ⟨_, rfl⟩
  have HR2 := Lib.hid (show R = if cb' < 0 then 4 else if a < 0 ∨ (m : Int) ≤ a then 3 else if a = cb' then 6 else if oe ≠ 0 then oe else rm by rw [HR1.out, HCU.out, ← HKK.out, hrm, hoe, hcb, hY, hnbk, ← HM.out]; rfl)
  have HXY := Lib.hid (show X = Y by rw [HX.out]; unfold moveX; rw [HCU.out, ← HKK.out, hY, hnbk])
  have HCB := Lib.hid (fun V (hX : Below W1.heap.size W1 V) => HCB0.out nbk A3 n3 c3 V (HSX.out _ hX).cats (HSX.out _ hX).cabs (by rw [hnbk]; exact HFK.out _ (HKX.out _ hX)))
  have HRM := Lib.hid (fun p V h (h0 : oe = 0) => HRM0.out Y p V h k nbk hY (bk_ok (hoe.symm.trans h0)))
  have HNI := Lib.hid (show BkIn nbk by rw [hnbk]; exact ⟨HI.out.id, HI.out.kind, HI.out.state, HI.out.gst, HIA.out, HI.out.cat, HI.out.frm, HI.out.upto, HI.out.til⟩)
  have HNF := Lib.hid (show ∀ V, K V → Sl entryC 3 V All A3 n3 c3 nbk.fol by rw [hnbk]; exact HFK.out)
  have HSB := Lib.hid (fun V h4 h5 => HSB0.out K k nbk A3 n3 c3 V HKS.out HKP.out HNF.out h4 h5 HNI.out (by rw [HLN.out]; exact hlt))
  have c5 : W2.cell? ⟨h, 5, none⟩ = some (.int .i64 cb') := by rw [hcb]; exact hH.cell rfl
  have f5 := hH.free 5
  have HH := Lib.hid (fun V (hX : Below W2.heap.size W2 V) => hH.bel hX)
  have HSET := Lib.hid (show Blk (W2.setCell ⟨h, 5, none⟩ (.int .i64 a)) h (bkgA nbk (.slice A3 n3 c3)) 37 by rw [hnbk]; exact hH.set (j := 5) _)
  rw [← hoe] at HCB
  rw [← hrm] at HRM
  rw [← hY] at HSB
  have HYE := Lib.hid (show saiA Y = saiA (setS x k nbk) by rw [hY])
  try simp only at hmb
  have hm0 : (0 : Int) ≤ (m : Int) := Int.natCast_nonneg _
  have g3 : W2.cell? ⟨g, 3, none⟩ = some (.slice B m cap2) := (HG.out _ hb).cell rfl
  clear hnbk hY hcb hoe hrm ho hH HCB0 HRM0 HSB0
  by_cases q1 : cb' < 0
  · obtain rfl : R = 4 := by rw [HR2.out, if_pos q1]
    have q2 : decide (cb' < 0) = true := decide_eq_true q1
    clear q1
    have hz6 := HZ.out _ hb
    go_wp2_with (refine wpList_store_row rfl 32 (.tmp 6) (.tmp 26) rfl z (saiA zeroS zeroP) rfl rfl 32 _ hz6 (by kernel_rfl) rfl (by simp [Value.oneCell']) ?_)
    refine bodyPost_ret (v := .tuple #[.agg (saiA zeroS zeroP), .int .i64 4]) ((hz6.row _).ret2 (k := 6) (u := 7) (by kernel_rfl) rfl rfl Tryz.underlying32 (by kernel_rfl) (by kernel_rfl)) rfl ?_
    exact HEND.out _ _ (by decide) hb
  have HR3 := Lib.hid (HR2.out.trans (if_neg q1))
  have q2 : decide (cb' < 0) = false := decide_eq_false q1
  clear q1
  by_cases q3 : a < 0
  · obtain rfl : R = 3 := by rw [HR3.out, if_pos (.inl q3)]
    have q4 : decide (a < 0) = true := decide_eq_true q3
    clear q3
    have hz6 := HZ.out _ hb
    go_wp2_with (refine wpList_store_row rfl 32 (.tmp 6) (.tmp 37) rfl z (saiA zeroS zeroP) rfl rfl 32 _ hz6 (by kernel_rfl) rfl (by simp [Value.oneCell']) ?_)
    refine bodyPost_ret (v := .tuple #[.agg (saiA zeroS zeroP), .int .i64 3]) ((hz6.row _).ret2 (k := 6) (u := 7) (by kernel_rfl) rfl rfl Tryz.underlying32 (by kernel_rfl) (by kernel_rfl)) rfl ?_
    exact HEND.out _ _ (by decide) hb
  have q4 : decide (a < 0) = false := decide_eq_false q3
  by_cases q5 : (m : Int) ≤ a
  · obtain rfl : R = 3 := by rw [HR3.out, if_pos (.inr q5)]
    have q6 : decide ((m : Int) ≤ a) = true := decide_eq_true q5
    clear q3 q5
    have hz6 := HZ.out _ hb
    go_wp2_with (refine wpList_store_row rfl 32 (.tmp 6) (.tmp 37) rfl z (saiA zeroS zeroP) rfl rfl 32 _ hz6 (by kernel_rfl) rfl (by simp [Value.oneCell']) ?_)
    refine bodyPost_ret (v := .tuple #[.agg (saiA zeroS zeroP), .int .i64 3]) ((hz6.row _).ret2 (k := 6) (u := 7) (by kernel_rfl) rfl rfl Tryz.underlying32 (by kernel_rfl) (by kernel_rfl)) rfl ?_
    exact HEND.out _ _ (by decide) hb
  have q6 : decide ((m : Int) ≤ a) = false := decide_eq_false q5
  have HR4 := Lib.hid (HR3.out.trans (if_neg (show ¬ (a < 0 ∨ (m : Int) ≤ a) by omega)))
  clear q3 q5
  by_cases q7 : a = cb'
  · obtain rfl : R = 6 := by rw [HR4.out, if_pos q7]
    subst q7
    have hz6 := HZ.out _ hb
    go_wp2_with (refine wpList_store_row rfl 32 (.tmp 6) (.tmp 42) rfl z (saiA zeroS zeroP) rfl rfl 32 _ hz6 (by kernel_rfl) rfl (by simp [Value.oneCell']) ?_)
    refine bodyPost_ret (v := .tuple #[.agg (saiA zeroS zeroP), .int .i64 6]) ((hz6.row _).ret2 (k := 6) (u := 7) (by kernel_rfl) rfl rfl Tryz.underlying32 (by kernel_rfl) (by kernel_rfl)) rfl ?_
    exact HEND.out _ _ (by decide) hb
  have HR5 := Lib.hid (HR4.out.trans (if_neg q7))
  have q8 : (a == cb') = false := by simpa using q7
  clear q7
  go_upto_region 11 with (fail)
  go_cut [] (fun wx => Blk wx h (bkgA nbk (.slice A3 n3 c3)) 37 ∧ Kept (fun k => k = h) W2 wx)
  case first => as_aux_lemma =>
    go_wp2_with fail
    go_meet
    exact ⟨HSET.out, kset W2 h [(5, .int .i64 a)]⟩
  obtain ⟨hH3, hK3⟩ := hcut
  obtain ⟨W3, hW3⟩ : ∃ V, V = wc := ⟨_, rfl⟩
  subst hW3
  have hb3 : Below W1.heap.size W1 W3 := hb.trans (hK3.below (B := W1.heap.size) hb.size (fun k hk e => by omega))
  clear hb c5 f5 g3 HSET HH hK3 q2 q4 q6 q8
  have hb := hb3
  have HC := Lib.hid (HCB.out _ hb)
  have HH := Lib.hid (fun V (hX : Below W3.heap.size W3 V) => hH3.bel hX)
  have g0 : W3.cell? ⟨g, 0, none⟩ = some (.int .i64 x.ship.legs) := (HG.out _ hb).cell rfl
  have g1 : W3.cell? ⟨g, 1, none⟩ = some (.int .i64 x.ship.souls) := (HG.out _ hb).cell rfl
  have g2 : W3.cell? ⟨g, 2, none⟩ = some (.slice A n cap) := (HG.out _ hb).cell rfl
  have g3 : W3.cell? ⟨g, 3, none⟩ = some (.slice B m cap2) := (HG.out _ hb).cell rfl
  clear hb3 HCB hH3
  have hx : Below W3.heap.size W3 W3 := Below.refl _ _
  go_wp2_with (refine wpList_load_row rfl 37 (.tmp 9) rfl h rfl 37 _ (0, 0) _ (HH.out _ hx) Tryz.underlying37 rfl (by kernel_rfl) ?_)
  refine HC.out.mono ?_
  rintro e w4 ⟨rfl, hb4⟩
  have HH4 := Lib.hid (HH.out _ hb4)
  replace hb := hb.trans (hb4.mono hb.size)
  clear hb4 HC g0 g1 g2 g3 hx HH
  have HC := Lib.hid (HSB.out w4 (HKX.out _ hb) (HLS.out.bel (HT.out _ hb)))
  clear HSB
  go_upto_region 13 with (fail)
  go_cut [11] (fun q wx => ∃ (y qb : Nat) (p' : SaiV), q = .pointer (some ⟨y, 0, none⟩) ∧ w4.heap.size ≤ qb ∧ qb < wx.heap.size ∧ w4.heap.size ≤ y ∧ Blk wx y (saiA Y p') 32 ∧ (∀ V, K V → V.heap[qb]? = wx.heap[qb]? → SaiR V Y p') ∧ Below w4.heap.size w4 wx)
  case first =>
    go_wp2_with (first | (refine wpList_load_row rfl 32 (.tmp 3) rfl g rfl 32 _ (0, 0) _ (HG.out _ hb) Tryz.underlying32 rfl (by kernel_rfl) ?_) | (refine wpList_load_row rfl 37 (.tmp 9) rfl h rfl 37 _ (0, 0) _ HH4.out Tryz.underlying37 rfl (by kernel_rfl) ?_))
    refine HC.out.mono ?_
    rintro e w5 ⟨qb, p', rfl, hq0, hq1, hSR, hb5⟩
    have HSR := Lib.hid hSR
    clear hSR
    have HB5 := Lib.hid hb5
    clear hb5
    go_wp2_with (refine wpList_store_row rfl 32 (.tmp 11) (.tmp 52) rfl w5.heap.size (saiA Y p') rfl rfl 32 _ (Blk.new w5 #[.int .i64 0, .int .i64 0, .slice none 0 0, .slice none 0 0, .slice none 0 0, .int .i64 0, .int .i64 0, .slice none 0 0, .int .i64 0, .int .i64 0, .int .i64 0, .slice none 0 0, .bool false] 32) (by kernel_rfl) rfl (by simp [Value.oneCell']) ?_)
    go_meet
    have hbe : Below w5.heap.size w5 ((w5.alloc (.cells #[.int .i64 0, .int .i64 0, .slice none 0 0, .slice none 0 0, .slice none 0 0, .int .i64 0, .int .i64 0, .slice none 0 0, .int .i64 0, .int .i64 0, .int .i64 0, .slice none 0 0, .bool false] 32)).setRow w5.heap.size (saiA Y p')) := below_setRow (bel1 w5 _) (Nat.le_refl _) _
    exact ⟨_, qb, p', rfl, hq0, Nat.lt_of_lt_of_le hq1 hbe.size, HB5.out.size, (Blk.new w5 _ _).row _, fun V hV hq => HSR.out V hV (hq.trans (hbe.block qb hq1)), HB5.out.trans (hbe.mono HB5.out.size)⟩
  obtain ⟨y, qb, p', rfl, hq0, hq1, hy, hY5, hSR, hb5⟩ := hcut
  obtain ⟨W6, hW6⟩ : ∃ V, V = wc := ⟨_, rfl⟩
  subst hW6
  have hsz4 := hb.size
  replace hb := hb.trans (hb5.mono hb.size)
  have HY6 := Lib.hid (fun V (hX : Below W6.heap.size W6 V) => hY5.bel hX)
  have HQB := Lib.hid (fun V (hX : Below W6.heap.size W6 V) => hX.block qb hq1)
  have HSR := Lib.hid (fun V h1 (h2 : V.heap[qb]? = W6.heap[qb]?) => hSR V h1 h2)
  have HCR := Lib.hid (fun (h0 : oe = 0) => HRM.out p' W6 (hSR W6 (HKX.out _ hb) rfl) h0)
  clear hb5 HC HH4 hY5 hSR HRM
  go_upto_if 54 with (fail)
  go_cut [10] (fun q wx => q = .int .i64 R ∧ Below W6.heap.size W6 wx)
  case first =>
    have hx : Below W6.heap.size W6 W6 := Below.refl _ _
    by_cases q5 : oe = 0
    · obtain rfl : R = rm := by rw [HR5.out, if_neg (by rw [q5]; simp)]
      have HC := Lib.hid (HCR.out q5)
      subst q5
      go_wp2_with (refine wpList_load_row rfl 32 (.tmp 11) rfl y rfl 32 _ (0, 0) _ (HY6.out _ hx) Tryz.underlying32 rfl (by kernel_rfl) ?_)
      refine HC.out.mono ?_
      rintro e w7 ⟨rfl, hb7⟩
      go_wp2_with fail
      go_meet
      exact ⟨rfl, hb7⟩
    · obtain rfl : R = oe := by rw [HR5.out, if_pos q5]
      have q6 : (R == 0) = false := by simpa using q5
      clear q5
      go_wp2_with fail
      go_meet
      exact ⟨rfl, hx⟩
  obtain ⟨rfl, hb7⟩ := hcut
  obtain ⟨W7, hW7⟩ : ∃ V, V = wc := ⟨_, rfl⟩
  subst hW7
  have hY7 := HY6.out _ hb7
  have HQ7 := Lib.hid (HQB.out _ hb7)
  have hq7 := Nat.lt_of_lt_of_le hq1 hb7.size
  replace hb := hb.trans (hb7.mono hb.size)
  clear hb7 HCR HY6 HQB
  by_cases q5 : R = 0
  rotate_left
  · have q6 : (R != 0) = true := by simpa using q5
    have Q5 := Lib.hid q5
    clear q5
    have hz6 := HZ.out _ hb
    go_wp2_with (refine wpList_store_row rfl 32 (.tmp 6) (.tmp 59) rfl z (saiA zeroS zeroP) rfl rfl 32 _ hz6 (by kernel_rfl) rfl (by simp [Value.oneCell']) ?_)
    refine bodyPost_ret (v := .tuple #[.agg (saiA zeroS zeroP), .int .i64 R]) ((hz6.row _).ret2 (k := 6) (u := 7) (by kernel_rfl) rfl rfl Tryz.underlying32 (by kernel_rfl) (by kernel_rfl)) rfl ?_
    exact HEND.out _ _ Q5.out hb
  subst q5
  have hz6 := HZ.out _ hb
  have HY7 := Lib.hid hY7
  clear hY7
  go_wp2_with (first | (refine wpList_load_row rfl 32 (.tmp 11) rfl y rfl 32 _ (0, 0) _ HY7.out Tryz.underlying32 rfl (by kernel_rfl) ?_) | (refine wpList_store_row rfl 32 (.tmp 6) (.tmp 61) rfl z (saiA Y p') rfl rfl 32 _ hz6 (by kernel_rfl) rfl (by simp [Value.oneCell']) ?_))
  refine bodyPost_ret (v := .tuple #[.agg (saiA Y p'), .int .i64 0]) ((hz6.row _).ret2 (k := 6) (u := 7) (by kernel_rfl) rfl rfl Tryz.underlying32 (by kernel_rfl) (by kernel_rfl)) rfl ?_
  have hszT := (HT.out _ hb).size
  have hKz : Kept (fun k => k = z) W7 (W7.setRow z (saiA Y p')) := (Kept.refl (fun k => k = z) _).setRow (.inl rfl) _
  have hbz := ((HT.out _ hb).trans (hKz.below (B := w.heap.size) (HT.out _ hb).size (fun k hk e => by omega)))
  refine ⟨⟨_, p', rfl, by rw [okS_zero, HXY.out], fun V hV hN => HSR.out V hV ?_⟩, hbz⟩
  exact ((hN qb (by omega) (Nat.lt_of_lt_of_le hq7 hKz.size)).trans (hKz.block qb hq7 (by omega))).trans HQ7.out
end Go.Proofs.YtoilcdgpeilgaaaGreat
