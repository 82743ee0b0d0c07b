/-
  Words, laws and contracts: ChgG.
-/
import Derived.Test.YtoilcdgpeilgaaaGreatBun29
import Derived.BigQuiet
set_option linter.unusedSimpArgs false
set_option linter.unusedVariables false
namespace Go.Proofs.YtoilcdgpeilgaaaGreat
open Go.RowKit Go.Shelf
theorem raw_at {w : World} {A : Option Addr} {n cap k : Nat} {L : List (List Value)} (h : Sl (rawC 11) 11 w All A n cap L) (hk : k < n) : ∃ ab off cs, A = some ⟨ab, off, none⟩ ∧ L[k]? = some cs ∧ cs.length = 11 ∧ w.rangeAt ab (off + k * 11) cs := by
  have hl := h.len
  obtain ⟨b, off, cs, hA, _, hc, hlen, hcell⟩ := h.rd k (L[k]'(by omega)) (List.getElem?_eq_getElem (by omega))
  obtain ⟨rfl, h1, _⟩ := hc
  exact ⟨b, off, _, hA, List.getElem?_eq_getElem (by omega), h1, hcell⟩
theorem pts_fol {K : World → Prop} {L : List (List Value)} {l : List Bkg} {w : World} {k : Nat} {b : Bkg} {cs : List Value} (hP : ∀ X, K X → Pts bkgC X L l) (hL : L[k]? = some cs) (hb : l[k]? = some b) (hw : K w) :
    ∃ A3 n3 c3, cs = (bkgA b (.slice A3 n3 c3)).toList ∧ BkIn b ∧ ∀ X, K X → Sl entryC 3 X All A3 n3 c3 b.fol := by
  obtain ⟨A3, n3, c3, rfl, hF, hI⟩ := (hP w hw).el k _ _ hL hb
  refine ⟨A3, n3, c3, rfl, hI, fun X hX => ?_⟩
  obtain ⟨A4, n4, c4, he, hF4, _⟩ := (hP X hX).el k _ _ hL hb
  simp at he
  obtain ⟨rfl, rfl, rfl⟩ := he
  exact hF4
set_option maxRecDepth 100000 in
set_option maxHeartbeats 16000000 in
theorem SureOf_K (K : World → Prop) (x : Sai) (p : SaiV) (t : Int) (X : Sai) (L : List (List Value)) (w : World) (hKb : ∀ V V', K V → Below V.heap.size V V' → K V') (hKS : ∀ V, K V → SaiR V x p) (hKP : ∀ V, K V → Pts bkgC V L x.bks) (hKw : K w) (hLs : Sl (rawC 11) 11 w All p.C p.nb p.cb L)
    (ho : OkSai x) (hX : X = sureX x t) :
    Calls Tryz.prog 33 #[.agg (saiA x p), .int .i64 t] w fun e w' => ResK K w w' (chE1 x t (sureE (curB x t))) X e ∧ Below w.heap.size w w' := by
  have HX := Lib.hid hX
  have HSB0 := Lib.hid (fun K k b A3 n3 c3 V h1 h2 h3 h4 h5 h6 h7 => setBooking_K K x p k b A3 n3 c3 L V h1 h2 h3 h4 h5 h6 h7 ho.bs.len)
  clear hX
  have HLA := Lib.hid (fun X hl => liveAt_any x p t X hl (rise_of ho.bs.rise))
  have hS := hKS w hKw
  have HKB := Lib.hid hKb
  have HKS := Lib.hid hKS
  have HKP := Lib.hid hKP
  have HKW := Lib.hid hKw
  have HLS := Lib.hid hLs
  have HS := Lib.hid hS
  have HRI := Lib.hid (rise_of ho.bs.rise)
  have HLN := Lib.hid (show x.bks.length = p.nb from hS.bks.len)
  have h16 : p.nb ≤ 16 := by have := ho.bs.len; have := HLN.out; omega
  obtain ⟨R, hR⟩ : ∃ r, r = chE1 x t (sureE (curB x t)) := ⟨_, rfl⟩
  obtain ⟨lv, hlv⟩ : ∃ r, r = isLive x t := ⟨_, rfl⟩
  obtain ⟨lp, hlp⟩ : ∃ r, r = liveP x t := ⟨_, rfl⟩
  have HR := Lib.hid (show R = if lv = true then (sureE (curB x t)) else 5 by rw [hR, hlv]; rfl)
  have HLP := Lib.hid (show lp = if lv = true then (posI x.bks t : Int) else -1 by rw [hlp, hlv]; rfl)
  have HLV := Lib.hid hlv
  rw [← hlp] at HLA
  rw [← hR]
  clear hR hlv hlp hS hKb hKS hKP hKw hLs
  obtain ⟨A, n, cap, B, m, cap2, D, nd, cd, E, ne, ce, C, nb, cb⟩ := p
  simp only at HLA HLN h16
  go_enter Tryz.func33, Tryz.ntmps33
  go_upto_region 0 with (fail)
  go_cut [2, 4, 5] (fun p p2 p3 wx => ∃ g z, p = .pointer (some ⟨g, 0, none⟩) ∧ p2 = .pointer (some ⟨z, 0, none⟩) ∧ p3 = .int .i64 0 ∧ w.heap.size ≤ g ∧ w.heap.size ≤ z ∧ g ≠ z ∧ Blk wx g (saiA x ⟨A, n, cap, B, m, cap2, D, nd, cd, E, ne, ce, C, nb, cb⟩) 32 ∧ Blk wx z #[.int .i64 0, .int .i64 0, .slice none 0 0, .slice none 0 0, .slice none 0 0, .int .i64 0, .int .i64 0, .slice none 0 0, .int .i64 0, .int .i64 0, .int .i64 0, .slice none 0 0, .bool false] 32 ∧ Below w.heap.size w wx)
  case first => as_aux_lemma =>
    go_wp2_with fail
    go_meet
    exact ⟨_, _, rfl, rfl, rfl, Nat.le_refl _, by omega, by omega, blk2_0 _ _ _, blk2_1 _ _ _, bel2 _ _ _⟩
  obtain ⟨g, z, rfl, rfl, rfl, hg, hz, hgz, hG, hZ, hb0⟩ := hcut
  obtain ⟨W1, hW1⟩ : ∃ V, V = wc := ⟨_, rfl⟩
  subst hW1
  have HT := Lib.hid (fun X (hX : Below W1.heap.size W1 X) => hb0.trans (hX.mono hb0.size))
  have HG := Lib.hid (fun X (hX : Below W1.heap.size W1 X) => hG.bel hX)
  have HZ := Lib.hid (fun X (hX : Below W1.heap.size W1 X) => hZ.bel hX)
  have HSX := Lib.hid (fun X (hX : Below W1.heap.size W1 X) => HS.out.bel (HT.out X hX))
  have HKX := Lib.hid (fun X (hX : Below W1.heap.size W1 X) => HKB.out w X HKW.out (HT.out X hX))
  have HEND := Lib.hid (show ∀ (E' : Int) V, ¬ E' = 0 → Below W1.heap.size W1 V → ResK K w (V.setRow z (saiA zeroS zeroP)) E' X (.returned (.tuple #[.agg (saiA zeroS zeroP), .int .i64 E'])) ∧ Below w.heap.size w (V.setRow z (saiA zeroS zeroP)) from fun E' V h0 hX =>
    ⟨⟨zeroS, zeroP, rfl, (okS_ne h0 _).symm, fun V _ _ => zeroS_rd V⟩, (HT.out V hX).trans (((Kept.refl (fun k => k = z) V).setRow (.inl rfl) _).below (B := w.heap.size) (HT.out V hX).size (fun k hk e => by omega))⟩)
  have hb : Below W1.heap.size W1 W1 := Below.refl _ _
  have hszW := hb0.size
  have hzW := hZ.lt
  clear hG hZ hb0
  have HC := Lib.hid (HLA.out _ (HSX.out _ hb).bks)
  go_wp2_with (refine wpList_load_row rfl 32 (.tmp 2) rfl g rfl 32 _ (0, 0) _ (HG.out _ hb) Tryz.underlying32 rfl (by kernel_rfl) ?_)
  refine HC.out.mono ?_
  rintro e w1 ⟨rfl, hb1⟩
  replace hb := hb.trans (hb1.mono hb.size)
  clear hb1 HC HLA
  cases lv
  · obtain rfl : lp = -1 := by rw [HLP.out]; rfl
    obtain rfl : R = 5 := by rw [HR.out]; rfl
    have hz6 := HZ.out _ hb
    go_wp2_with (refine wpList_store_row rfl 32 (.tmp 4) (.tmp 13) rfl z (saiA zeroS zeroP) rfl rfl 32 _ hz6 (by kernel_rfl) rfl (by simp [Value.oneCell']) ?_)
    refine bodyPost_ret (v := .tuple #[.agg (saiA zeroS zeroP), .int .i64 5]) ((hz6.row _).ret2 (k := 4) (u := 5) (by kernel_rfl) rfl rfl Tryz.underlying32 (by kernel_rfl) (by kernel_rfl)) rfl ?_
    exact HEND.out _ _ (by decide) hb
  have HR1 := Lib.hid (show R = (sureE (curB x t)) by rw [HR.out]; rfl)
  obtain ⟨b, h1, h2, h3, h4, h5, h6⟩ := live_at HRI.out HLV.out.symm
  have HCU := Lib.hid h6
  obtain rfl : lp = (posI x.bks t : Int) := by rw [HLP.out]; rfl
  obtain ⟨k, hkk⟩ : ∃ q, q = posI x.bks t := ⟨_, rfl⟩
  rw [← hkk] at h1 h3 ⊢
  have HKK := Lib.hid hkk
  have HBX := Lib.hid h1
  have hlt : k < nb := by rw [← HLN.out]; exact h3
  have hk0 : (0 : Int) ≤ (k : Int) := Int.natCast_nonneg _
  have hk1 : (k : Int) < (nb : Int) := by omega
  clear h2 h4 h5 h6 hkk h1 h3 HR HLP HLV
  obtain ⟨ab, off, cs, hA, hLk, hl11, hcel⟩ := raw_at (HLS.out.bel (HT.out _ hb)) hlt
  try simp only at hA
  subst hA
  obtain ⟨A3, n3, c3, rfl, hI, hfK⟩ := pts_fol HKP.out hLk HBX.out HKW.out
  have HFK := Lib.hid hfK
  have HI := Lib.hid hI
  have HM := Lib.hid hcel
  clear hLk hl11 hcel hI hfK
  go_upto_region 4 with (fail)
  go_cut [7] (fun p wx => ∃ h, p = .pointer (some ⟨h, 0, none⟩) ∧ W1.heap.size ≤ h ∧ Blk wx h (bkgA b (.slice A3 n3 c3)) 37 ∧ Below W1.heap.size W1 wx)
  case first =>
    have g11 : w1.cell? ⟨g, 11, none⟩ = some (.slice (some ⟨ab, off, none⟩) nb cb) := (HG.out _ hb).cell rfl
    go_wp2_with (first | (refine wpList_load_mid rfl 37 (.tmp 17) rfl ab (off + k * 11) rfl _ _ HM.out Tryz.underlying37 rfl (by kernel_rfl) ?_) | (refine wpList_store_row rfl 37 (.tmp 7) (.tmp 18) rfl w1.heap.size (bkgA b (.slice A3 n3 c3)) rfl rfl 37 _ (Blk.new w1 #[.int .i64 0, .int .i64 0, .int .i64 0, .int .i64 0, .bool false, .int .i64 0, .int .i64 0, .int .i64 0, .int .i64 0, .int .i64 0, .slice none 0 0] 37) (by kernel_rfl) rfl (bkgA_one _ _ _ _) ?_))
    go_meet
    exact ⟨_, rfl, hb.size, (Blk.new w1 _ _).row _, hb.trans ((below_setRow (bel1 w1 _) (Nat.le_refl _) _).mono hb.size)⟩
  obtain ⟨h, rfl, hh, hH, hb⟩ := hcut
  obtain ⟨W2, hW2⟩ : ∃ V, V = wc := ⟨_, rfl⟩
  subst hW2
  have hhl := hH.lt
  clear HM
  obtain ⟨st, hst⟩ : ∃ q, q = b.state := ⟨_, rfl⟩
  have c2 : W2.cell? ⟨h, 2, none⟩ = some (.int .i64 st) := by rw [hst]; exact hH.cell rfl
  have HR2 := Lib.hid (show R = if st = 1 then 0 else 4 by rw [HR1.out, HCU.out, hst]; rfl)
  clear hst
  by_cases q1 : st = 1
  rotate_left
  · obtain rfl : R = 4 := by rw [HR2.out, if_neg q1]
    have q2 : (st != 1) = true := by simpa using q1
    clear q1
    have hz6 := HZ.out _ hb
    go_wp2_with (refine wpList_store_row rfl 32 (.tmp 4) (.tmp 22) rfl z (saiA zeroS zeroP) rfl rfl 32 _ hz6 (by kernel_rfl) rfl (by simp [Value.oneCell']) ?_)
    refine bodyPost_ret (v := .tuple #[.agg (saiA zeroS zeroP), .int .i64 4]) ((hz6.row _).ret2 (k := 4) (u := 5) (by kernel_rfl) rfl rfl Tryz.underlying32 (by kernel_rfl) (by kernel_rfl)) rfl ?_
    exact HEND.out _ _ (by decide) hb
  obtain rfl : R = 0 := by rw [HR2.out, if_pos q1]
  subst q1
  have f2 := hH.free 2
  have f9 := hH.free 9
  have c9 : W2.cell? ⟨h, 9, none⟩ = some (.int .i64 b.til) := hH.cell rfl
  have HH := Lib.hid hH
  clear hH
  go_upto_region 7 with (fail)
  go_cut [] (fun wx => Blk wx h (bkgA (sureB b) (.slice A3 n3 c3)) 37 ∧ Kept (fun k => k = h) W2 wx)
  case first => as_aux_lemma =>
    go_wp2_with fail
    go_meet
    exact ⟨(HH.out.set (j := 2) _).set (j := 9) _, kset W2 h [(2, .int .i64 2), (9, .int .i64 0)]⟩
  obtain ⟨hH3, hK3⟩ := hcut
  obtain ⟨W3, hW3⟩ : ∃ V, V = wc := ⟨_, rfl⟩
  subst hW3
  have hb3 : Below W1.heap.size W1 W3 := hb.trans (hK3.below (B := W1.heap.size) hb.size (fun k hk e => by omega))
  clear hb c2 f2 f9 c9 HH hK3
  have hb := hb3
  have HC := Lib.hid (HSB0.out K k (sureB b) A3 n3 c3 W3 HKS.out HKP.out HFK.out (HKX.out _ hb) (HLS.out.bel (HT.out _ hb)) ⟨HI.out.id, HI.out.kind, show InI 2 from .of (by decide) (by decide), HI.out.gst, HI.out.cab, HI.out.cat, HI.out.frm, HI.out.upto, zero_in⟩ (by rw [HLN.out]; exact hlt))
  have HH3 := Lib.hid hH3
  clear hH3 hb3 HSB0
  have hXE : X = setS x k (sureB b) := by rw [HX.out]; unfold sureX; rw [HCU.out, ← HKK.out]
  have HXE := Lib.hid hXE
  clear hXE
  go_wp2_with (first | (refine wpList_load_row rfl 32 (.tmp 2) rfl g rfl 32 _ (0, 0) _ (HG.out _ hb) Tryz.underlying32 rfl (by kernel_rfl) ?_) | (refine wpList_load_row rfl 37 (.tmp 7) rfl h rfl 37 _ (0, 0) _ HH3.out Tryz.underlying37 rfl (by kernel_rfl) ?_))
  refine HC.out.mono ?_
  rintro e w4 ⟨q, p', rfl, hq0, hq1, hSR, hb4⟩
  have hsz := hb.size
  replace hb := hb.trans (hb4.mono hb.size)
  have HSR := Lib.hid hSR
  clear HC hSR hb4 HH3
  have hz6 := HZ.out _ hb
  go_wp2_with (refine wpList_store_row rfl 32 (.tmp 4) (.tmp 28) rfl z (saiA (setS x k (sureB b)) p') rfl rfl 32 _ hz6 (by kernel_rfl) rfl (by simp [Value.oneCell']) ?_)
  refine bodyPost_ret (v := .tuple #[.agg (saiA (setS x k (sureB b)) p'), .int .i64 0]) ((hz6.row _).ret2 (k := 4) (u := 5) (by kernel_rfl) rfl rfl Tryz.underlying32 (by kernel_rfl) (by kernel_rfl)) rfl ?_
  have hszT := (HT.out _ hb).size
  have hKz : Kept (fun k => k = z) w4 (w4.setRow z (saiA (setS x k (sureB b)) p')) := (Kept.refl (fun k => k = z) _).setRow (.inl rfl) _
  have hbz := ((HT.out _ hb).trans (hKz.below (B := w.heap.size) (HT.out _ hb).size (fun k hk e => by omega)))
  refine ⟨⟨_, p', rfl, by rw [okS_zero, HXE.out], fun V hV hN => HSR.out V hV ?_⟩, hbz⟩
  exact (hN q (by omega) (Nat.lt_of_lt_of_le hq1 hKz.size)).trans (hKz.block q hq1 (by omega))
set_option maxRecDepth 100000 in
set_option maxHeartbeats 16000000 in
theorem PayOf_K (K : World → Prop) (x : Sai) (p : SaiV) (t a : Int) (X : Sai) (L : List (List Value)) (w : World) (hKb : ∀ V V', K V → Below V.heap.size V V' → K V') (hKS : ∀ V, K V → SaiR V x p) (hKP : ∀ V, K V → Pts bkgC V L x.bks) (hKw : K w) (hLs : Sl (rawC 11) 11 w All p.C p.nb p.cb L)
    (ho : OkSai x) (hX : X = paidX x t a) :
    Calls Tryz.prog 34 #[.agg (saiA x p), .int .i64 t, .int .i64 a] w fun e w' => ResK K w w' (chE1 x t (paidE x (curB x t) a)) X e ∧ Below w.heap.size w w' := by
  have HX := Lib.hid hX
  have HSB0 := Lib.hid (fun K k b A3 n3 c3 V h1 h2 h3 h4 h5 h6 h7 => setBooking_K K x p k b A3 n3 c3 L V h1 h2 h3 h4 h5 h6 h7 ho.bs.len)
  have HDAY := betB_iff.1 ho.day
  have hd1 : -1000 ≤ x.day := by omega
  have hd2 : x.day ≤ 10000 := by omega
  clear hX HDAY
  have HLA := Lib.hid (fun X hl => liveAt_any x p t X hl (rise_of ho.bs.rise))
  have hS := hKS w hKw
  have HKB := Lib.hid hKb
  have HKS := Lib.hid hKS
  have HKP := Lib.hid hKP
  have HKW := Lib.hid hKw
  have HLS := Lib.hid hLs
  have HS := Lib.hid hS
  have HRI := Lib.hid (rise_of ho.bs.rise)
  have HLN := Lib.hid (show x.bks.length = p.nb from hS.bks.len)
  have h16 : p.nb ≤ 16 := by have := ho.bs.len; have := HLN.out; omega
  obtain ⟨R, hR⟩ : ∃ r, r = chE1 x t (paidE x (curB x t) a) := ⟨_, rfl⟩
  obtain ⟨lv, hlv⟩ : ∃ r, r = isLive x t := ⟨_, rfl⟩
  obtain ⟨lp, hlp⟩ : ∃ r, r = liveP x t := ⟨_, rfl⟩
  have HR := Lib.hid (show R = if lv = true then (paidE x (curB x t) a) else 5 by rw [hR, hlv]; rfl)
  have HLP := Lib.hid (show lp = if lv = true then (posI x.bks t : Int) else -1 by rw [hlp, hlv]; rfl)
  have HLV := Lib.hid hlv
  rw [← hlp] at HLA
  rw [← hR]
  clear hR hlv hlp hS hKb hKS hKP hKw hLs
  obtain ⟨A, n, cap, B, m, cap2, D, nd, cd, E, ne, ce, C, nb, cb⟩ := p
  simp only at HLA HLN h16
  go_enter Tryz.func34, Tryz.ntmps34
  go_upto_region 0 with (fail)
  go_cut [3, 6, 7] (fun p p2 p3 wx => ∃ g z, p = .pointer (some ⟨g, 0, none⟩) ∧ p2 = .pointer (some ⟨z, 0, none⟩) ∧ p3 = .int .i64 0 ∧ w.heap.size ≤ g ∧ w.heap.size ≤ z ∧ g ≠ z ∧ Blk wx g (saiA x ⟨A, n, cap, B, m, cap2, D, nd, cd, E, ne, ce, C, nb, cb⟩) 32 ∧ Blk wx z #[.int .i64 0, .int .i64 0, .slice none 0 0, .slice none 0 0, .slice none 0 0, .int .i64 0, .int .i64 0, .slice none 0 0, .int .i64 0, .int .i64 0, .int .i64 0, .slice none 0 0, .bool false] 32 ∧ Below w.heap.size w wx)
  case first => as_aux_lemma =>
    go_wp2_with fail
    go_meet
    exact ⟨_, _, rfl, rfl, rfl, Nat.le_refl _, by omega, by omega, blk2_0 _ _ _, blk2_1 _ _ _, bel2 _ _ _⟩
  obtain ⟨g, z, rfl, rfl, rfl, hg, hz, hgz, hG, hZ, hb0⟩ := hcut
  obtain ⟨W1, hW1⟩ : ∃ V, V = wc := ⟨_, rfl⟩
  subst hW1
  have HT := Lib.hid (fun X (hX : Below W1.heap.size W1 X) => hb0.trans (hX.mono hb0.size))
  have HG := Lib.hid (fun X (hX : Below W1.heap.size W1 X) => hG.bel hX)
  have HZ := Lib.hid (fun X (hX : Below W1.heap.size W1 X) => hZ.bel hX)
  have HSX := Lib.hid (fun X (hX : Below W1.heap.size W1 X) => HS.out.bel (HT.out X hX))
  have HKX := Lib.hid (fun X (hX : Below W1.heap.size W1 X) => HKB.out w X HKW.out (HT.out X hX))
  have HEND := Lib.hid (show ∀ (E' : Int) V, ¬ E' = 0 → Below W1.heap.size W1 V → ResK K w (V.setRow z (saiA zeroS zeroP)) E' X (.returned (.tuple #[.agg (saiA zeroS zeroP), .int .i64 E'])) ∧ Below w.heap.size w (V.setRow z (saiA zeroS zeroP)) from fun E' V h0 hX =>
    ⟨⟨zeroS, zeroP, rfl, (okS_ne h0 _).symm, fun V _ _ => zeroS_rd V⟩, (HT.out V hX).trans (((Kept.refl (fun k => k = z) V).setRow (.inl rfl) _).below (B := w.heap.size) (HT.out V hX).size (fun k hk e => by omega))⟩)
  have hb : Below W1.heap.size W1 W1 := Below.refl _ _
  have hszW := hb0.size
  have hzW := hZ.lt
  clear hG hZ hb0
  have HC := Lib.hid (HLA.out _ (HSX.out _ hb).bks)
  go_wp2_with (refine wpList_load_row rfl 32 (.tmp 3) rfl g rfl 32 _ (0, 0) _ (HG.out _ hb) Tryz.underlying32 rfl (by kernel_rfl) ?_)
  refine HC.out.mono ?_
  rintro e w1 ⟨rfl, hb1⟩
  replace hb := hb.trans (hb1.mono hb.size)
  clear hb1 HC HLA
  cases lv
  · obtain rfl : lp = -1 := by rw [HLP.out]; rfl
    obtain rfl : R = 5 := by rw [HR.out]; rfl
    have hz6 := HZ.out _ hb
    go_wp2_with (refine wpList_store_row rfl 32 (.tmp 6) (.tmp 16) rfl z (saiA zeroS zeroP) rfl rfl 32 _ hz6 (by kernel_rfl) rfl (by simp [Value.oneCell']) ?_)
    refine bodyPost_ret (v := .tuple #[.agg (saiA zeroS zeroP), .int .i64 5]) ((hz6.row _).ret2 (k := 6) (u := 7) (by kernel_rfl) rfl rfl Tryz.underlying32 (by kernel_rfl) (by kernel_rfl)) rfl ?_
    exact HEND.out _ _ (by decide) hb
  have HR1 := Lib.hid (show R = (paidE x (curB x t) a) by rw [HR.out]; rfl)
  obtain ⟨b, h1, h2, h3, h4, h5, h6⟩ := live_at HRI.out HLV.out.symm
  have HCU := Lib.hid h6
  obtain rfl : lp = (posI x.bks t : Int) := by rw [HLP.out]; rfl
  obtain ⟨k, hkk⟩ : ∃ q, q = posI x.bks t := ⟨_, rfl⟩
  rw [← hkk] at h1 h3 ⊢
  have HKK := Lib.hid hkk
  have HBX := Lib.hid h1
  have hlt : k < nb := by rw [← HLN.out]; exact h3
  have hk0 : (0 : Int) ≤ (k : Int) := Int.natCast_nonneg _
  have hk1 : (k : Int) < (nb : Int) := by omega
  clear h2 h4 h5 h6 hkk h1 h3 HR HLP HLV
  obtain ⟨ab, off, cs, hA, hLk, hl11, hcel⟩ := raw_at (HLS.out.bel (HT.out _ hb)) hlt
  try simp only at hA
  subst hA
  obtain ⟨A3, n3, c3, rfl, hI, hfK⟩ := pts_fol HKP.out hLk HBX.out HKW.out
  have HFK := Lib.hid hfK
  have HI := Lib.hid hI
  have HM := Lib.hid hcel
  clear hLk hl11 hcel hI hfK
  go_upto_region 4 with (fail)
  go_cut [9] (fun p wx => ∃ h, p = .pointer (some ⟨h, 0, none⟩) ∧ W1.heap.size ≤ h ∧ Blk wx h (bkgA b (.slice A3 n3 c3)) 37 ∧ Below W1.heap.size W1 wx)
  case first =>
    have g11 : w1.cell? ⟨g, 11, none⟩ = some (.slice (some ⟨ab, off, none⟩) nb cb) := (HG.out _ hb).cell rfl
    go_wp2_with (first | (refine wpList_load_mid rfl 37 (.tmp 20) rfl ab (off + k * 11) rfl _ _ HM.out Tryz.underlying37 rfl (by kernel_rfl) ?_) | (refine wpList_store_row rfl 37 (.tmp 9) (.tmp 21) rfl w1.heap.size (bkgA b (.slice A3 n3 c3)) rfl rfl 37 _ (Blk.new w1 #[.int .i64 0, .int .i64 0, .int .i64 0, .int .i64 0, .bool false, .int .i64 0, .int .i64 0, .int .i64 0, .int .i64 0, .int .i64 0, .slice none 0 0] 37) (by kernel_rfl) rfl (bkgA_one _ _ _ _) ?_))
    go_meet
    exact ⟨_, rfl, hb.size, (Blk.new w1 _ _).row _, hb.trans ((below_setRow (bel1 w1 _) (Nat.le_refl _) _).mono hb.size)⟩
  obtain ⟨h, rfl, hh, hH, hb⟩ := hcut
  obtain ⟨W2, hW2⟩ : ∃ V, V = wc := ⟨_, rfl⟩
  subst hW2
  have hhl := hH.lt
  clear HM
  have hfo := (ho.bs.bk b (List.mem_of_getElem? HBX.out)).fol
  obtain ⟨bt, hbt⟩ : ∃ q, q = betB a 1 100000000 := ⟨_, rfl⟩
  obtain ⟨du, hdu⟩ : ∃ q, q = dueOf b.fol := ⟨_, rfl⟩
  obtain ⟨L2, hL2⟩ : ∃ q, q = b.fol ++ [⟨x.day, 2, -a⟩] := ⟨_, rfl⟩
  obtain ⟨ce, hce⟩ : ∃ q, q = checkFolio L2 := ⟨_, rfl⟩
  have HBT0 := Lib.hid (fun V => between_any a 1 100000000 V)
  rw [← hbt] at HBT0
  have HSO := Lib.hid (fun V h => SumOf_any A3 n3 c3 b.fol 0 V h (check_small hfo))
  rw [sumOfK_zero, ← hdu] at HSO
  have HCF := Lib.hid (fun A n c V h => CheckFolio_any A n c L2 V h)
  rw [← hce] at HCF
  have HR2 := Lib.hid (show R = if bt = false then 3 else if du < a then 4 else ce by rw [HR1.out, HCU.out, hbt, hdu, hce, hL2]; rfl)
  have HBT := Lib.hid hbt
  have HL2 := Lib.hid hL2
  have hF12 : n3 ≤ 12 := by have := check_len hfo; rw [(HFK.out _ HKW.out).len] at this; exact this
  clear hfo hbt hdu hce hL2 ho
  go_wp2_with fail
  refine (HBT0.out _).mono ?_
  rintro e w9 ⟨rfl, rfl⟩
  clear HBT0
  cases bt
  · obtain rfl : R = 3 := by rw [HR2.out]; rfl
    have hz6 := HZ.out _ hb
    go_wp2_with (refine wpList_store_row rfl 32 (.tmp 6) (.tmp 25) rfl z (saiA zeroS zeroP) rfl rfl 32 _ hz6 (by kernel_rfl) rfl (by simp [Value.oneCell']) ?_)
    refine bodyPost_ret (v := .tuple #[.agg (saiA zeroS zeroP), .int .i64 3]) ((hz6.row _).ret2 (k := 6) (u := 7) (by kernel_rfl) rfl rfl Tryz.underlying32 (by kernel_rfl) (by kernel_rfl)) rfl ?_
    exact HEND.out _ _ (by decide) hb
  have HR3 := Lib.hid (show R = if du < a then 4 else ce by rw [HR2.out]; rfl)
  obtain ⟨a1, a2⟩ := betB_iff.1 HBT.out.symm
  have c10 : W2.cell? ⟨h, 10, none⟩ = some (.slice A3 n3 c3) := hH.cell rfl
  have HFX := Lib.hid (fun V (hX : Below W1.heap.size W1 V) => HFK.out _ (HKX.out _ hX))
  have HH := Lib.hid hH
  clear hH
  go_wp2_with fail
  refine (HSO.out _ (HFX.out _ hb)).mono ?_
  rintro e w9 ⟨rfl, rfl⟩
  clear HSO c10
  by_cases q3 : du < a
  · obtain rfl : R = 4 := by rw [HR3.out, if_pos q3]
    have q4 : decide (du < a) = true := decide_eq_true q3
    clear q3
    have hz6 := HZ.out _ hb
    go_wp2_with (refine wpList_store_row rfl 32 (.tmp 6) (.tmp 31) rfl z (saiA zeroS zeroP) rfl rfl 32 _ hz6 (by kernel_rfl) rfl (by simp [Value.oneCell']) ?_)
    refine bodyPost_ret (v := .tuple #[.agg (saiA zeroS zeroP), .int .i64 4]) ((hz6.row _).ret2 (k := 6) (u := 7) (by kernel_rfl) rfl rfl Tryz.underlying32 (by kernel_rfl) (by kernel_rfl)) rfl ?_
    exact HEND.out _ _ (by decide) hb
  obtain rfl : R = ce := by rw [HR3.out, if_neg q3]
  have q4 : decide (du < a) = false := decide_eq_false q3
  clear q3
  have HSX2 := Lib.hid (show ∀ V, Below W2.heap.size W2 V → (fun w' => w'.cell? ⟨g, 9, none⟩ = some (.int .i64 x.day)) V from fun V hX => (HG.out _ (hb.trans (hX.mono hb.size))).cell rfl)
  have HSX9 := Lib.hid (show ∀ V V', V.cell? ⟨g, 9, none⟩ = some (.int .i64 x.day) → Kept (fun k => k = h) V V' → V'.cell? ⟨g, 9, none⟩ = some (.int .i64 x.day) from fun V V' h1 h2 => cellK h2 (by have := (HG.out _ (Below.refl _ _)).lt; show ¬ g = h; omega) h1)
  have hby1 : (([] : List Entry).length + n3) * 24 ≤ 140737488355328 := by simp; omega
  have hfl : b.fol.length = n3 := (HFX.out _ hb).len
  have hby2 : (b.fol.length + 1) * 24 ≤ 140737488355328 := by omega
  have HFW := Lib.hid (fun V (hX : Below W2.heap.size W2 V) => HFX.out V (hb.trans (hX.mono hb.size)))
  have HFL := Lib.hid hfl
  clear hfl
  go_upto_region 9 with (fail)
  clear q4
  go_cut [] (fun wx => ∃ q5 n5 c5 xs, W2.heap.size ≤ q5 ∧ Own entryC 3 57 wx W2.heap.size (.slice (some ⟨q5, 0, none⟩) n5 c5) L2 xs ∧ Blk wx h (bkgA { b with fol := L2 } (.slice (some ⟨q5, 0, none⟩) n5 c5)) 37 ∧ Kept (fun k => k = h) W2 wx)
  case first =>
    have hbx : Below W2.heap.size W2 W2.drew := (Below.refl _ W2).drew
    have hneg : IntKind.i64.wrap (-a) = -a := IntWalk.i64_in _ (by omega)
    refine wp_region_held_drew (S := (fun w' => w'.cell? ⟨g, 9, none⟩ = some (.int .i64 x.day))) (by kernel_rfl) (HSX2.out _ hbx) (fun hHeld => ?_)
    refine wpAnyH_take (i := 1) (v := ?v8) (gA rfl) (by kernel_rfl) (by kernel_rfl) (by kernel_rfl) (fun _ _ _ h => h) (Or.inl ⟨rfl, ?y8⟩) (by assumption) ?_
    case y8 => (intro w hSw; (try dsimp only at hSw); go_simp <;> with_reducible rfl)
    simp only [Act.put, List.setIfInBounds_toArray, List.set_cons_zero, List.set_cons_succ]
    refine wpAnyH_take (i := 4) (v := ?v9) (gA rfl) (by kernel_rfl) (by kernel_rfl) (by kernel_rfl) (fun _ _ _ h => h) (Or.inl ⟨rfl, ?y9⟩) (by assumption) ?_
    case y9 => (intro w hSw; (try dsimp only at hSw); go_simp <;> with_reducible rfl)
    simp only [Act.put, List.setIfInBounds_toArray, List.set_cons_zero, List.set_cons_succ]
    refine wpAnyH_take (i := 5) (v := ?v10) (gA rfl) (by kernel_rfl) (by kernel_rfl) (by kernel_rfl) (fun _ _ _ h => h) (Or.inl ⟨rfl, ?y10⟩) (by assumption) ?_
    case y10 => (intro w hSw; (try dsimp only at hSw); go_simp <;> with_reducible rfl)
    simp only [Act.put, List.setIfInBounds_toArray, List.set_cons_zero, List.set_cons_succ]
    refine wpAnyH_take (i := 6) (v := ?v11) (gA rfl) (by kernel_rfl) (by kernel_rfl) (by kernel_rfl) (fun _ _ _ h => h) (Or.inl ⟨rfl, ?y11⟩) (by assumption) ?_
    case y11 => (intro w hSw; (try dsimp only at hSw); go_simp <;> with_reducible rfl)
    simp only [Act.put, List.setIfInBounds_toArray, List.set_cons_zero, List.set_cons_succ]
    refine wpAnyH_take (i := 7) (v := ?v12) (gA rfl) (by kernel_rfl) (by kernel_rfl) (by kernel_rfl) (fun _ _ _ h => h) (Or.inl ⟨rfl, ?y12⟩) (by assumption) ?_
    case y12 => (intro w hSw; (try dsimp only at hSw); go_simp <;> with_reducible rfl)
    simp only [Act.put, List.setIfInBounds_toArray, List.set_cons_zero, List.set_cons_succ]
    refine wpAnyH_take (i := 8) (v := ?v13) (gA rfl) (by kernel_rfl) (by kernel_rfl) (by kernel_rfl) (fun _ _ _ h => h) (Or.inl ⟨rfl, ?y13⟩) (by assumption) ?_
    case y13 => (intro w hSw; (try dsimp only at hSw); go_simp <;> with_reducible rfl)
    simp only [Act.put, List.setIfInBounds_toArray, List.set_cons_zero, List.set_cons_succ]
    have c10 : W2.cell? ⟨h, 10, none⟩ = some (.slice A3 n3 c3) := HH.out.cell rfl
    refine wpAnyH_ready (rs := [0, 2, 9]) (by kernel_rfl) (by simp) ?_
    refine AllReadyH.cons (gA rfl) (fun K hK => ?_) ?m_1
    case m_1 =>
      refine AllReadyH.cons (gA rfl) (fun K hK => ?_) ?m_2
      case m_2 =>
        refine AllReadyH.cons (gA rfl) (fun K hK => ?_) AllReadyH.nil
        go_simp
        refine hK.out _ _ ?_ (fun hHeld => ?_)
        · exact HSX2.out _ (hbx.alloc hbx.size (.cells #[.int .i64 x.day, .int .i64 2, .int .i64 (-a)] 57))
        clear hK K
        try simp only [Act.put, List.setIfInBounds_toArray, List.set_cons_zero, List.set_cons_succ]
        (have hL := freshG hbx #[.int .i64 x.day, .int .i64 2, .int .i64 (-a)] 57; (try replace hO0 := fun g hg => (hO0 g hg).bel (bel1 _ (.cells #[.int .i64 x.day, .int .i64 2, .int .i64 (-a)] 57))); (try replace hO1 := hO1.bel (bel1 _ (.cells #[.int .i64 x.day, .int .i64 2, .int .i64 (-a)] 57))); replace hbx := hbx.alloc hbx.size (.cells #[.int .i64 x.day, .int .i64 2, .int .i64 (-a)] 57))
        refine wpAnyH_ready (rs := [0, 2]) (by kernel_rfl) (by simp) ?_
        refine AllReadyH.cons (gA rfl) (fun K hK => ?_) ?m_3
        case m_3 =>
          refine AllReadyH.cons (gA rfl) (fun K hK => ?_) AllReadyH.nil
          go_simp
          refine hK.out _ _ ?_ (fun hHeld => ?_)
          · exact HSX2.out _ hbx
          clear hK K
          try simp only [Act.put, List.setIfInBounds_toArray, List.set_cons_zero, List.set_cons_succ]
          refine wpAnyH_ready (rs := [0]) (by kernel_rfl) (by simp) ?_
          refine AllReadyH.cons (gA rfl) (fun K hK => ?_) AllReadyH.nil
          go_simp
          refine hK.out _ _ ?_ (fun hHeld => ?_)
          · exact HSX2.out _ (hbx.alloc hbx.size (.cells #[] 57))
          clear hK K
          try simp only [Act.put, List.setIfInBounds_toArray, List.set_cons_zero, List.set_cons_succ]
          (have hO0 := emptyO entryC 3 57 hbx; (try replace hL := fun g hg => (hL g hg).bel (bel1 _ (.cells #[] 57))); replace hbx := hbx.alloc hbx.size (.cells #[] 57))
          refine wpAnyH_ready (rs := [3]) (by kernel_rfl) (by simp) ?_
          refine AllReadyH.cons (gA rfl) (fun K hK => ?_) AllReadyH.nil
          (refine step_app (v := .slice (some ⟨_, 0, none⟩) 0 0) (t := 35) (e := 57) (bytes := 24) (base := W2.heap.size) (c := entryC) (l := []) (xs := []) (l2 := b.fol) (S := All) rfl (.tmp 32) (.tmp 34) rfl entry_elem entryC_good rfl rfl (hO0 _ (by simp)) (HFW.out _ hbx) (fun _ _ hc => hc) hby1 (by omega) hbx.size ?_; intro v' w' xs' hO1 hg1 hat1; (try replace hL := fun g hg => (hL g hg).grown hg1 (by subst hg; simp [Value.ownBlock])); replace hbx := below_app hbx (hO0 _ (by simp)) hg1 hbx.size; clear hO0 hg1 hat1)
          refine hK.out _ _ ?_ (fun hHeld => ?_)
          · exact HSX2.out _ hbx
          clear hK K
          try simp only [Act.put, List.setIfInBounds_toArray, List.set_cons_zero, List.set_cons_succ]
          refine wpAnyH_ready (rs := [10]) (by kernel_rfl) (by simp) (AllReadyH.cons (gA rfl) (fun K hK => ?_) AllReadyH.nil)
          (refine step_app (t := 35) (e := 57) (bytes := 24) (base := W2.heap.size) (c := entryC) (l := b.fol) (xs := xs') (l2 := [⟨x.day, 2, -a⟩]) (S := All) rfl (.tmp 35) (.tmp 41) rfl entry_elem entryC_good rfl rfl hO1 (sl_entryS (hL _ (by simp)) (.of (by omega) (by omega)) (.of (by decide) (by decide)) (.of (by omega) (by omega))) (fun _ _ hc => hc) hby2 (by omega) hbx.size ?_; intro v2 w2 xs2 hO2 hg2 hat2; replace hbx := below_app hbx hO1 hg2 hbx.size; clear hO1 hg2 hat2 hL; rw [← HL2.out] at hO2; obtain ⟨q5, c5, hv2, hq5, hq5l⟩ := hO2.form (by rw [HL2.out]; simp); subst hv2; have hH9 := HH.out.bel hbx; have mf := hH9.free 10; have m10 : w2.cell? ⟨h, 10, none⟩ = some (.slice A3 n3 c3) := hH9.cell rfl)
          refine hK.out _ _ ?_ (fun hHeld => ?_)
          · exact HSX2.out _ hbx
          clear hK K
          try simp only [Act.put, List.setIfInBounds_toArray, List.set_cons_zero, List.set_cons_succ]
          refine wpAnyH_take (i := 11) (v := ?v15) (gA rfl) (by kernel_rfl) (by kernel_rfl) (by kernel_rfl) (fun _ _ _ h => h) (Or.inl ⟨rfl, ?y15⟩) (by assumption) ?_
          case y15 => (intro w hSw; (try dsimp only at hSw); go_simp <;> with_reducible rfl)
          simp only [Act.put, List.setIfInBounds_toArray, List.set_cons_zero, List.set_cons_succ]
          refine wpAnyH_ready (rs := [12]) (by kernel_rfl) (by simp) (AllReadyH.cons (gA rfl) (fun K hK => ?_) AllReadyH.nil)
          go_simp
          refine hK.out _ _ ?_ (fun hHeld => ?_)
          · exact HSX9.out _ _ (HSX2.out _ hbx) (kset w2 h [(10, _)])
          clear hK K
          try simp only [Act.put, List.setIfInBounds_toArray, List.set_cons_zero, List.set_cons_succ]
          refine wpAnyH_done (by kernel_rfl) ?_ _
          go_wp2_with fail
          go_meet
          exact ⟨q5, _, c5, xs2, hq5, own_setCell_flat entryC_flat2 hO2 (by simp [Value.ownBlock]; omega) _, hH9.set (j := 10) _, (Kept.of_below hbx (fun k hk hx => by omega)).trans (kset w2 h [(10, _)])⟩
        go_simp
        refine hK.out _ _ ?_ (fun hHeld => ?_)
        · exact HSX2.out _ (hbx.alloc hbx.size (.cells #[] 57))
        clear hK K
        try simp only [Act.put, List.setIfInBounds_toArray, List.set_cons_zero, List.set_cons_succ]
        (have hO0 := emptyO entryC 3 57 hbx; (try replace hL := fun g hg => (hL g hg).bel (bel1 _ (.cells #[] 57))); replace hbx := hbx.alloc hbx.size (.cells #[] 57))
        refine wpAnyH_ready (rs := [2]) (by kernel_rfl) (by simp) ?_
        refine AllReadyH.cons (gA rfl) (fun K hK => ?_) AllReadyH.nil
        go_simp
        refine hK.out _ _ ?_ (fun hHeld => ?_)
        · exact HSX2.out _ hbx
        clear hK K
        try simp only [Act.put, List.setIfInBounds_toArray, List.set_cons_zero, List.set_cons_succ]
        refine wpAnyH_ready (rs := [3]) (by kernel_rfl) (by simp) ?_
        refine AllReadyH.cons (gA rfl) (fun K hK => ?_) AllReadyH.nil
        (refine step_app (v := .slice (some ⟨_, 0, none⟩) 0 0) (t := 35) (e := 57) (bytes := 24) (base := W2.heap.size) (c := entryC) (l := []) (xs := []) (l2 := b.fol) (S := All) rfl (.tmp 32) (.tmp 34) rfl entry_elem entryC_good rfl rfl (hO0 _ (by simp)) (HFW.out _ hbx) (fun _ _ hc => hc) hby1 (by omega) hbx.size ?_; intro v' w' xs' hO1 hg1 hat1; (try replace hL := fun g hg => (hL g hg).grown hg1 (by subst hg; simp [Value.ownBlock])); replace hbx := below_app hbx (hO0 _ (by simp)) hg1 hbx.size; clear hO0 hg1 hat1)
        refine hK.out _ _ ?_ (fun hHeld => ?_)
        · exact HSX2.out _ hbx
        clear hK K
        try simp only [Act.put, List.setIfInBounds_toArray, List.set_cons_zero, List.set_cons_succ]
        refine wpAnyH_ready (rs := [10]) (by kernel_rfl) (by simp) (AllReadyH.cons (gA rfl) (fun K hK => ?_) AllReadyH.nil)
        (refine step_app (t := 35) (e := 57) (bytes := 24) (base := W2.heap.size) (c := entryC) (l := b.fol) (xs := xs') (l2 := [⟨x.day, 2, -a⟩]) (S := All) rfl (.tmp 35) (.tmp 41) rfl entry_elem entryC_good rfl rfl hO1 (sl_entryS (hL _ (by simp)) (.of (by omega) (by omega)) (.of (by decide) (by decide)) (.of (by omega) (by omega))) (fun _ _ hc => hc) hby2 (by omega) hbx.size ?_; intro v2 w2 xs2 hO2 hg2 hat2; replace hbx := below_app hbx hO1 hg2 hbx.size; clear hO1 hg2 hat2 hL; rw [← HL2.out] at hO2; obtain ⟨q5, c5, hv2, hq5, hq5l⟩ := hO2.form (by rw [HL2.out]; simp); subst hv2; have hH9 := HH.out.bel hbx; have mf := hH9.free 10; have m10 : w2.cell? ⟨h, 10, none⟩ = some (.slice A3 n3 c3) := hH9.cell rfl)
        refine hK.out _ _ ?_ (fun hHeld => ?_)
        · exact HSX2.out _ hbx
        clear hK K
        try simp only [Act.put, List.setIfInBounds_toArray, List.set_cons_zero, List.set_cons_succ]
        refine wpAnyH_take (i := 11) (v := ?v18) (gA rfl) (by kernel_rfl) (by kernel_rfl) (by kernel_rfl) (fun _ _ _ h => h) (Or.inl ⟨rfl, ?y18⟩) (by assumption) ?_
        case y18 => (intro w hSw; (try dsimp only at hSw); go_simp <;> with_reducible rfl)
        simp only [Act.put, List.setIfInBounds_toArray, List.set_cons_zero, List.set_cons_succ]
        refine wpAnyH_ready (rs := [12]) (by kernel_rfl) (by simp) (AllReadyH.cons (gA rfl) (fun K hK => ?_) AllReadyH.nil)
        go_simp
        refine hK.out _ _ ?_ (fun hHeld => ?_)
        · exact HSX9.out _ _ (HSX2.out _ hbx) (kset w2 h [(10, _)])
        clear hK K
        try simp only [Act.put, List.setIfInBounds_toArray, List.set_cons_zero, List.set_cons_succ]
        refine wpAnyH_done (by kernel_rfl) ?_ _
        go_wp2_with fail
        go_meet
        exact ⟨q5, _, c5, xs2, hq5, own_setCell_flat entryC_flat2 hO2 (by simp [Value.ownBlock]; omega) _, hH9.set (j := 10) _, (Kept.of_below hbx (fun k hk hx => by omega)).trans (kset w2 h [(10, _)])⟩
      go_simp
      refine hK.out _ _ ?_ (fun hHeld => ?_)
      · exact HSX2.out _ hbx
      clear hK K
      try simp only [Act.put, List.setIfInBounds_toArray, List.set_cons_zero, List.set_cons_succ]
      refine wpAnyH_ready (rs := [0, 9]) (by kernel_rfl) (by simp) ?_
      refine AllReadyH.cons (gA rfl) (fun K hK => ?_) ?m_4
      case m_4 =>
        refine AllReadyH.cons (gA rfl) (fun K hK => ?_) AllReadyH.nil
        go_simp
        refine hK.out _ _ ?_ (fun hHeld => ?_)
        · exact HSX2.out _ (hbx.alloc hbx.size (.cells #[.int .i64 x.day, .int .i64 2, .int .i64 (-a)] 57))
        clear hK K
        try simp only [Act.put, List.setIfInBounds_toArray, List.set_cons_zero, List.set_cons_succ]
        (have hL := freshG hbx #[.int .i64 x.day, .int .i64 2, .int .i64 (-a)] 57; (try replace hO0 := fun g hg => (hO0 g hg).bel (bel1 _ (.cells #[.int .i64 x.day, .int .i64 2, .int .i64 (-a)] 57))); (try replace hO1 := hO1.bel (bel1 _ (.cells #[.int .i64 x.day, .int .i64 2, .int .i64 (-a)] 57))); replace hbx := hbx.alloc hbx.size (.cells #[.int .i64 x.day, .int .i64 2, .int .i64 (-a)] 57))
        refine wpAnyH_ready (rs := [0]) (by kernel_rfl) (by simp) ?_
        refine AllReadyH.cons (gA rfl) (fun K hK => ?_) AllReadyH.nil
        go_simp
        refine hK.out _ _ ?_ (fun hHeld => ?_)
        · exact HSX2.out _ (hbx.alloc hbx.size (.cells #[] 57))
        clear hK K
        try simp only [Act.put, List.setIfInBounds_toArray, List.set_cons_zero, List.set_cons_succ]
        (have hO0 := emptyO entryC 3 57 hbx; (try replace hL := fun g hg => (hL g hg).bel (bel1 _ (.cells #[] 57))); replace hbx := hbx.alloc hbx.size (.cells #[] 57))
        refine wpAnyH_ready (rs := [3]) (by kernel_rfl) (by simp) ?_
        refine AllReadyH.cons (gA rfl) (fun K hK => ?_) AllReadyH.nil
        (refine step_app (v := .slice (some ⟨_, 0, none⟩) 0 0) (t := 35) (e := 57) (bytes := 24) (base := W2.heap.size) (c := entryC) (l := []) (xs := []) (l2 := b.fol) (S := All) rfl (.tmp 32) (.tmp 34) rfl entry_elem entryC_good rfl rfl (hO0 _ (by simp)) (HFW.out _ hbx) (fun _ _ hc => hc) hby1 (by omega) hbx.size ?_; intro v' w' xs' hO1 hg1 hat1; (try replace hL := fun g hg => (hL g hg).grown hg1 (by subst hg; simp [Value.ownBlock])); replace hbx := below_app hbx (hO0 _ (by simp)) hg1 hbx.size; clear hO0 hg1 hat1)
        refine hK.out _ _ ?_ (fun hHeld => ?_)
        · exact HSX2.out _ hbx
        clear hK K
        try simp only [Act.put, List.setIfInBounds_toArray, List.set_cons_zero, List.set_cons_succ]
        refine wpAnyH_ready (rs := [10]) (by kernel_rfl) (by simp) (AllReadyH.cons (gA rfl) (fun K hK => ?_) AllReadyH.nil)
        (refine step_app (t := 35) (e := 57) (bytes := 24) (base := W2.heap.size) (c := entryC) (l := b.fol) (xs := xs') (l2 := [⟨x.day, 2, -a⟩]) (S := All) rfl (.tmp 35) (.tmp 41) rfl entry_elem entryC_good rfl rfl hO1 (sl_entryS (hL _ (by simp)) (.of (by omega) (by omega)) (.of (by decide) (by decide)) (.of (by omega) (by omega))) (fun _ _ hc => hc) hby2 (by omega) hbx.size ?_; intro v2 w2 xs2 hO2 hg2 hat2; replace hbx := below_app hbx hO1 hg2 hbx.size; clear hO1 hg2 hat2 hL; rw [← HL2.out] at hO2; obtain ⟨q5, c5, hv2, hq5, hq5l⟩ := hO2.form (by rw [HL2.out]; simp); subst hv2; have hH9 := HH.out.bel hbx; have mf := hH9.free 10; have m10 : w2.cell? ⟨h, 10, none⟩ = some (.slice A3 n3 c3) := hH9.cell rfl)
        refine hK.out _ _ ?_ (fun hHeld => ?_)
        · exact HSX2.out _ hbx
        clear hK K
        try simp only [Act.put, List.setIfInBounds_toArray, List.set_cons_zero, List.set_cons_succ]
        refine wpAnyH_take (i := 11) (v := ?v21) (gA rfl) (by kernel_rfl) (by kernel_rfl) (by kernel_rfl) (fun _ _ _ h => h) (Or.inl ⟨rfl, ?y21⟩) (by assumption) ?_
        case y21 => (intro w hSw; (try dsimp only at hSw); go_simp <;> with_reducible rfl)
        simp only [Act.put, List.setIfInBounds_toArray, List.set_cons_zero, List.set_cons_succ]
        refine wpAnyH_ready (rs := [12]) (by kernel_rfl) (by simp) (AllReadyH.cons (gA rfl) (fun K hK => ?_) AllReadyH.nil)
        go_simp
        refine hK.out _ _ ?_ (fun hHeld => ?_)
        · exact HSX9.out _ _ (HSX2.out _ hbx) (kset w2 h [(10, _)])
        clear hK K
        try simp only [Act.put, List.setIfInBounds_toArray, List.set_cons_zero, List.set_cons_succ]
        refine wpAnyH_done (by kernel_rfl) ?_ _
        go_wp2_with fail
        go_meet
        exact ⟨q5, _, c5, xs2, hq5, own_setCell_flat entryC_flat2 hO2 (by simp [Value.ownBlock]; omega) _, hH9.set (j := 10) _, (Kept.of_below hbx (fun k hk hx => by omega)).trans (kset w2 h [(10, _)])⟩
      go_simp
      refine hK.out _ _ ?_ (fun hHeld => ?_)
      · exact HSX2.out _ (hbx.alloc hbx.size (.cells #[] 57))
      clear hK K
      try simp only [Act.put, List.setIfInBounds_toArray, List.set_cons_zero, List.set_cons_succ]
      (have hO0 := emptyO entryC 3 57 hbx; (try replace hL := fun g hg => (hL g hg).bel (bel1 _ (.cells #[] 57))); replace hbx := hbx.alloc hbx.size (.cells #[] 57))
      refine wpAnyH_ready (rs := [3, 9]) (by kernel_rfl) (by simp) ?_
      refine AllReadyH.cons (gA rfl) (fun K hK => ?_) ?m_5
      case m_5 =>
        refine AllReadyH.cons (gA rfl) (fun K hK => ?_) AllReadyH.nil
        go_simp
        refine hK.out _ _ ?_ (fun hHeld => ?_)
        · exact HSX2.out _ (hbx.alloc hbx.size (.cells #[.int .i64 x.day, .int .i64 2, .int .i64 (-a)] 57))
        clear hK K
        try simp only [Act.put, List.setIfInBounds_toArray, List.set_cons_zero, List.set_cons_succ]
        (have hL := freshG hbx #[.int .i64 x.day, .int .i64 2, .int .i64 (-a)] 57; (try replace hO0 := fun g hg => (hO0 g hg).bel (bel1 _ (.cells #[.int .i64 x.day, .int .i64 2, .int .i64 (-a)] 57))); (try replace hO1 := hO1.bel (bel1 _ (.cells #[.int .i64 x.day, .int .i64 2, .int .i64 (-a)] 57))); replace hbx := hbx.alloc hbx.size (.cells #[.int .i64 x.day, .int .i64 2, .int .i64 (-a)] 57))
        refine wpAnyH_ready (rs := [3]) (by kernel_rfl) (by simp) ?_
        refine AllReadyH.cons (gA rfl) (fun K hK => ?_) AllReadyH.nil
        (refine step_app (v := .slice (some ⟨_, 0, none⟩) 0 0) (t := 35) (e := 57) (bytes := 24) (base := W2.heap.size) (c := entryC) (l := []) (xs := []) (l2 := b.fol) (S := All) rfl (.tmp 32) (.tmp 34) rfl entry_elem entryC_good rfl rfl (hO0 _ (by simp)) (HFW.out _ hbx) (fun _ _ hc => hc) hby1 (by omega) hbx.size ?_; intro v' w' xs' hO1 hg1 hat1; (try replace hL := fun g hg => (hL g hg).grown hg1 (by subst hg; simp [Value.ownBlock])); replace hbx := below_app hbx (hO0 _ (by simp)) hg1 hbx.size; clear hO0 hg1 hat1)
        refine hK.out _ _ ?_ (fun hHeld => ?_)
        · exact HSX2.out _ hbx
        clear hK K
        try simp only [Act.put, List.setIfInBounds_toArray, List.set_cons_zero, List.set_cons_succ]
        refine wpAnyH_ready (rs := [10]) (by kernel_rfl) (by simp) (AllReadyH.cons (gA rfl) (fun K hK => ?_) AllReadyH.nil)
        (refine step_app (t := 35) (e := 57) (bytes := 24) (base := W2.heap.size) (c := entryC) (l := b.fol) (xs := xs') (l2 := [⟨x.day, 2, -a⟩]) (S := All) rfl (.tmp 35) (.tmp 41) rfl entry_elem entryC_good rfl rfl hO1 (sl_entryS (hL _ (by simp)) (.of (by omega) (by omega)) (.of (by decide) (by decide)) (.of (by omega) (by omega))) (fun _ _ hc => hc) hby2 (by omega) hbx.size ?_; intro v2 w2 xs2 hO2 hg2 hat2; replace hbx := below_app hbx hO1 hg2 hbx.size; clear hO1 hg2 hat2 hL; rw [← HL2.out] at hO2; obtain ⟨q5, c5, hv2, hq5, hq5l⟩ := hO2.form (by rw [HL2.out]; simp); subst hv2; have hH9 := HH.out.bel hbx; have mf := hH9.free 10; have m10 : w2.cell? ⟨h, 10, none⟩ = some (.slice A3 n3 c3) := hH9.cell rfl)
        refine hK.out _ _ ?_ (fun hHeld => ?_)
        · exact HSX2.out _ hbx
        clear hK K
        try simp only [Act.put, List.setIfInBounds_toArray, List.set_cons_zero, List.set_cons_succ]
        refine wpAnyH_take (i := 11) (v := ?v24) (gA rfl) (by kernel_rfl) (by kernel_rfl) (by kernel_rfl) (fun _ _ _ h => h) (Or.inl ⟨rfl, ?y24⟩) (by assumption) ?_
        case y24 => (intro w hSw; (try dsimp only at hSw); go_simp <;> with_reducible rfl)
        simp only [Act.put, List.setIfInBounds_toArray, List.set_cons_zero, List.set_cons_succ]
        refine wpAnyH_ready (rs := [12]) (by kernel_rfl) (by simp) (AllReadyH.cons (gA rfl) (fun K hK => ?_) AllReadyH.nil)
        go_simp
        refine hK.out _ _ ?_ (fun hHeld => ?_)
        · exact HSX9.out _ _ (HSX2.out _ hbx) (kset w2 h [(10, _)])
        clear hK K
        try simp only [Act.put, List.setIfInBounds_toArray, List.set_cons_zero, List.set_cons_succ]
        refine wpAnyH_done (by kernel_rfl) ?_ _
        go_wp2_with fail
        go_meet
        exact ⟨q5, _, c5, xs2, hq5, own_setCell_flat entryC_flat2 hO2 (by simp [Value.ownBlock]; omega) _, hH9.set (j := 10) _, (Kept.of_below hbx (fun k hk hx => by omega)).trans (kset w2 h [(10, _)])⟩
      (refine step_app (v := .slice (some ⟨_, 0, none⟩) 0 0) (t := 35) (e := 57) (bytes := 24) (base := W2.heap.size) (c := entryC) (l := []) (xs := []) (l2 := b.fol) (S := All) rfl (.tmp 32) (.tmp 34) rfl entry_elem entryC_good rfl rfl (hO0 _ (by simp)) (HFW.out _ hbx) (fun _ _ hc => hc) hby1 (by omega) hbx.size ?_; intro v' w' xs' hO1 hg1 hat1; (try replace hL := fun g hg => (hL g hg).grown hg1 (by subst hg; simp [Value.ownBlock])); replace hbx := below_app hbx (hO0 _ (by simp)) hg1 hbx.size; clear hO0 hg1 hat1)
      refine hK.out _ _ ?_ (fun hHeld => ?_)
      · exact HSX2.out _ hbx
      clear hK K
      try simp only [Act.put, List.setIfInBounds_toArray, List.set_cons_zero, List.set_cons_succ]
      refine wpAnyH_ready (rs := [9]) (by kernel_rfl) (by simp) ?_
      refine AllReadyH.cons (gA rfl) (fun K hK => ?_) AllReadyH.nil
      go_simp
      refine hK.out _ _ ?_ (fun hHeld => ?_)
      · exact HSX2.out _ (hbx.alloc hbx.size (.cells #[.int .i64 x.day, .int .i64 2, .int .i64 (-a)] 57))
      clear hK K
      try simp only [Act.put, List.setIfInBounds_toArray, List.set_cons_zero, List.set_cons_succ]
      (have hL := freshG hbx #[.int .i64 x.day, .int .i64 2, .int .i64 (-a)] 57; (try replace hO0 := fun g hg => (hO0 g hg).bel (bel1 _ (.cells #[.int .i64 x.day, .int .i64 2, .int .i64 (-a)] 57))); (try replace hO1 := hO1.bel (bel1 _ (.cells #[.int .i64 x.day, .int .i64 2, .int .i64 (-a)] 57))); replace hbx := hbx.alloc hbx.size (.cells #[.int .i64 x.day, .int .i64 2, .int .i64 (-a)] 57))
      refine wpAnyH_ready (rs := [10]) (by kernel_rfl) (by simp) (AllReadyH.cons (gA rfl) (fun K hK => ?_) AllReadyH.nil)
      (refine step_app (t := 35) (e := 57) (bytes := 24) (base := W2.heap.size) (c := entryC) (l := b.fol) (xs := xs') (l2 := [⟨x.day, 2, -a⟩]) (S := All) rfl (.tmp 35) (.tmp 41) rfl entry_elem entryC_good rfl rfl hO1 (sl_entryS (hL _ (by simp)) (.of (by omega) (by omega)) (.of (by decide) (by decide)) (.of (by omega) (by omega))) (fun _ _ hc => hc) hby2 (by omega) hbx.size ?_; intro v2 w2 xs2 hO2 hg2 hat2; replace hbx := below_app hbx hO1 hg2 hbx.size; clear hO1 hg2 hat2 hL; rw [← HL2.out] at hO2; obtain ⟨q5, c5, hv2, hq5, hq5l⟩ := hO2.form (by rw [HL2.out]; simp); subst hv2; have hH9 := HH.out.bel hbx; have mf := hH9.free 10; have m10 : w2.cell? ⟨h, 10, none⟩ = some (.slice A3 n3 c3) := hH9.cell rfl)
      refine hK.out _ _ ?_ (fun hHeld => ?_)
      · exact HSX2.out _ hbx
      clear hK K
      try simp only [Act.put, List.setIfInBounds_toArray, List.set_cons_zero, List.set_cons_succ]
      refine wpAnyH_take (i := 11) (v := ?v27) (gA rfl) (by kernel_rfl) (by kernel_rfl) (by kernel_rfl) (fun _ _ _ h => h) (Or.inl ⟨rfl, ?y27⟩) (by assumption) ?_
      case y27 => (intro w hSw; (try dsimp only at hSw); go_simp <;> with_reducible rfl)
      simp only [Act.put, List.setIfInBounds_toArray, List.set_cons_zero, List.set_cons_succ]
      refine wpAnyH_ready (rs := [12]) (by kernel_rfl) (by simp) (AllReadyH.cons (gA rfl) (fun K hK => ?_) AllReadyH.nil)
      go_simp
      refine hK.out _ _ ?_ (fun hHeld => ?_)
      · exact HSX9.out _ _ (HSX2.out _ hbx) (kset w2 h [(10, _)])
      clear hK K
      try simp only [Act.put, List.setIfInBounds_toArray, List.set_cons_zero, List.set_cons_succ]
      refine wpAnyH_done (by kernel_rfl) ?_ _
      go_wp2_with fail
      go_meet
      exact ⟨q5, _, c5, xs2, hq5, own_setCell_flat entryC_flat2 hO2 (by simp [Value.ownBlock]; omega) _, hH9.set (j := 10) _, (Kept.of_below hbx (fun k hk hx => by omega)).trans (kset w2 h [(10, _)])⟩
    go_simp
    refine hK.out _ _ ?_ (fun hHeld => ?_)
    · exact HSX2.out _ (hbx.alloc hbx.size (.cells #[] 57))
    clear hK K
    try simp only [Act.put, List.setIfInBounds_toArray, List.set_cons_zero, List.set_cons_succ]
    (have hO0 := emptyO entryC 3 57 hbx; (try replace hL := fun g hg => (hL g hg).bel (bel1 _ (.cells #[] 57))); replace hbx := hbx.alloc hbx.size (.cells #[] 57))
    refine wpAnyH_ready (rs := [2, 9]) (by kernel_rfl) (by simp) ?_
    refine AllReadyH.cons (gA rfl) (fun K hK => ?_) ?m_6
    case m_6 =>
      refine AllReadyH.cons (gA rfl) (fun K hK => ?_) AllReadyH.nil
      go_simp
      refine hK.out _ _ ?_ (fun hHeld => ?_)
      · exact HSX2.out _ (hbx.alloc hbx.size (.cells #[.int .i64 x.day, .int .i64 2, .int .i64 (-a)] 57))
      clear hK K
      try simp only [Act.put, List.setIfInBounds_toArray, List.set_cons_zero, List.set_cons_succ]
      (have hL := freshG hbx #[.int .i64 x.day, .int .i64 2, .int .i64 (-a)] 57; (try replace hO0 := fun g hg => (hO0 g hg).bel (bel1 _ (.cells #[.int .i64 x.day, .int .i64 2, .int .i64 (-a)] 57))); (try replace hO1 := hO1.bel (bel1 _ (.cells #[.int .i64 x.day, .int .i64 2, .int .i64 (-a)] 57))); replace hbx := hbx.alloc hbx.size (.cells #[.int .i64 x.day, .int .i64 2, .int .i64 (-a)] 57))
      refine wpAnyH_ready (rs := [2]) (by kernel_rfl) (by simp) ?_
      refine AllReadyH.cons (gA rfl) (fun K hK => ?_) AllReadyH.nil
      go_simp
      refine hK.out _ _ ?_ (fun hHeld => ?_)
      · exact HSX2.out _ hbx
      clear hK K
      try simp only [Act.put, List.setIfInBounds_toArray, List.set_cons_zero, List.set_cons_succ]
      refine wpAnyH_ready (rs := [3]) (by kernel_rfl) (by simp) ?_
      refine AllReadyH.cons (gA rfl) (fun K hK => ?_) AllReadyH.nil
      (refine step_app (v := .slice (some ⟨_, 0, none⟩) 0 0) (t := 35) (e := 57) (bytes := 24) (base := W2.heap.size) (c := entryC) (l := []) (xs := []) (l2 := b.fol) (S := All) rfl (.tmp 32) (.tmp 34) rfl entry_elem entryC_good rfl rfl (hO0 _ (by simp)) (HFW.out _ hbx) (fun _ _ hc => hc) hby1 (by omega) hbx.size ?_; intro v' w' xs' hO1 hg1 hat1; (try replace hL := fun g hg => (hL g hg).grown hg1 (by subst hg; simp [Value.ownBlock])); replace hbx := below_app hbx (hO0 _ (by simp)) hg1 hbx.size; clear hO0 hg1 hat1)
      refine hK.out _ _ ?_ (fun hHeld => ?_)
      · exact HSX2.out _ hbx
      clear hK K
      try simp only [Act.put, List.setIfInBounds_toArray, List.set_cons_zero, List.set_cons_succ]
      refine wpAnyH_ready (rs := [10]) (by kernel_rfl) (by simp) (AllReadyH.cons (gA rfl) (fun K hK => ?_) AllReadyH.nil)
      (refine step_app (t := 35) (e := 57) (bytes := 24) (base := W2.heap.size) (c := entryC) (l := b.fol) (xs := xs') (l2 := [⟨x.day, 2, -a⟩]) (S := All) rfl (.tmp 35) (.tmp 41) rfl entry_elem entryC_good rfl rfl hO1 (sl_entryS (hL _ (by simp)) (.of (by omega) (by omega)) (.of (by decide) (by decide)) (.of (by omega) (by omega))) (fun _ _ hc => hc) hby2 (by omega) hbx.size ?_; intro v2 w2 xs2 hO2 hg2 hat2; replace hbx := below_app hbx hO1 hg2 hbx.size; clear hO1 hg2 hat2 hL; rw [← HL2.out] at hO2; obtain ⟨q5, c5, hv2, hq5, hq5l⟩ := hO2.form (by rw [HL2.out]; simp); subst hv2; have hH9 := HH.out.bel hbx; have mf := hH9.free 10; have m10 : w2.cell? ⟨h, 10, none⟩ = some (.slice A3 n3 c3) := hH9.cell rfl)
      refine hK.out _ _ ?_ (fun hHeld => ?_)
      · exact HSX2.out _ hbx
      clear hK K
      try simp only [Act.put, List.setIfInBounds_toArray, List.set_cons_zero, List.set_cons_succ]
      refine wpAnyH_take (i := 11) (v := ?v30) (gA rfl) (by kernel_rfl) (by kernel_rfl) (by kernel_rfl) (fun _ _ _ h => h) (Or.inl ⟨rfl, ?y30⟩) (by assumption) ?_
      case y30 => (intro w hSw; (try dsimp only at hSw); go_simp <;> with_reducible rfl)
      simp only [Act.put, List.setIfInBounds_toArray, List.set_cons_zero, List.set_cons_succ]
      refine wpAnyH_ready (rs := [12]) (by kernel_rfl) (by simp) (AllReadyH.cons (gA rfl) (fun K hK => ?_) AllReadyH.nil)
      go_simp
      refine hK.out _ _ ?_ (fun hHeld => ?_)
      · exact HSX9.out _ _ (HSX2.out _ hbx) (kset w2 h [(10, _)])
      clear hK K
      try simp only [Act.put, List.setIfInBounds_toArray, List.set_cons_zero, List.set_cons_succ]
      refine wpAnyH_done (by kernel_rfl) ?_ _
      go_wp2_with fail
      go_meet
      exact ⟨q5, _, c5, xs2, hq5, own_setCell_flat entryC_flat2 hO2 (by simp [Value.ownBlock]; omega) _, hH9.set (j := 10) _, (Kept.of_below hbx (fun k hk hx => by omega)).trans (kset w2 h [(10, _)])⟩
    go_simp
    refine hK.out _ _ ?_ (fun hHeld => ?_)
    · exact HSX2.out _ hbx
    clear hK K
    try simp only [Act.put, List.setIfInBounds_toArray, List.set_cons_zero, List.set_cons_succ]
    refine wpAnyH_ready (rs := [3, 9]) (by kernel_rfl) (by simp) ?_
    refine AllReadyH.cons (gA rfl) (fun K hK => ?_) ?m_7
    case m_7 =>
      refine AllReadyH.cons (gA rfl) (fun K hK => ?_) AllReadyH.nil
      go_simp
      refine hK.out _ _ ?_ (fun hHeld => ?_)
      · exact HSX2.out _ (hbx.alloc hbx.size (.cells #[.int .i64 x.day, .int .i64 2, .int .i64 (-a)] 57))
      clear hK K
      try simp only [Act.put, List.setIfInBounds_toArray, List.set_cons_zero, List.set_cons_succ]
      (have hL := freshG hbx #[.int .i64 x.day, .int .i64 2, .int .i64 (-a)] 57; (try replace hO0 := fun g hg => (hO0 g hg).bel (bel1 _ (.cells #[.int .i64 x.day, .int .i64 2, .int .i64 (-a)] 57))); (try replace hO1 := hO1.bel (bel1 _ (.cells #[.int .i64 x.day, .int .i64 2, .int .i64 (-a)] 57))); replace hbx := hbx.alloc hbx.size (.cells #[.int .i64 x.day, .int .i64 2, .int .i64 (-a)] 57))
      refine wpAnyH_ready (rs := [3]) (by kernel_rfl) (by simp) ?_
      refine AllReadyH.cons (gA rfl) (fun K hK => ?_) AllReadyH.nil
      (refine step_app (v := .slice (some ⟨_, 0, none⟩) 0 0) (t := 35) (e := 57) (bytes := 24) (base := W2.heap.size) (c := entryC) (l := []) (xs := []) (l2 := b.fol) (S := All) rfl (.tmp 32) (.tmp 34) rfl entry_elem entryC_good rfl rfl (hO0 _ (by simp)) (HFW.out _ hbx) (fun _ _ hc => hc) hby1 (by omega) hbx.size ?_; intro v' w' xs' hO1 hg1 hat1; (try replace hL := fun g hg => (hL g hg).grown hg1 (by subst hg; simp [Value.ownBlock])); replace hbx := below_app hbx (hO0 _ (by simp)) hg1 hbx.size; clear hO0 hg1 hat1)
      refine hK.out _ _ ?_ (fun hHeld => ?_)
      · exact HSX2.out _ hbx
      clear hK K
      try simp only [Act.put, List.setIfInBounds_toArray, List.set_cons_zero, List.set_cons_succ]
      refine wpAnyH_ready (rs := [10]) (by kernel_rfl) (by simp) (AllReadyH.cons (gA rfl) (fun K hK => ?_) AllReadyH.nil)
      (refine step_app (t := 35) (e := 57) (bytes := 24) (base := W2.heap.size) (c := entryC) (l := b.fol) (xs := xs') (l2 := [⟨x.day, 2, -a⟩]) (S := All) rfl (.tmp 35) (.tmp 41) rfl entry_elem entryC_good rfl rfl hO1 (sl_entryS (hL _ (by simp)) (.of (by omega) (by omega)) (.of (by decide) (by decide)) (.of (by omega) (by omega))) (fun _ _ hc => hc) hby2 (by omega) hbx.size ?_; intro v2 w2 xs2 hO2 hg2 hat2; replace hbx := below_app hbx hO1 hg2 hbx.size; clear hO1 hg2 hat2 hL; rw [← HL2.out] at hO2; obtain ⟨q5, c5, hv2, hq5, hq5l⟩ := hO2.form (by rw [HL2.out]; simp); subst hv2; have hH9 := HH.out.bel hbx; have mf := hH9.free 10; have m10 : w2.cell? ⟨h, 10, none⟩ = some (.slice A3 n3 c3) := hH9.cell rfl)
      refine hK.out _ _ ?_ (fun hHeld => ?_)
      · exact HSX2.out _ hbx
      clear hK K
      try simp only [Act.put, List.setIfInBounds_toArray, List.set_cons_zero, List.set_cons_succ]
      refine wpAnyH_take (i := 11) (v := ?v33) (gA rfl) (by kernel_rfl) (by kernel_rfl) (by kernel_rfl) (fun _ _ _ h => h) (Or.inl ⟨rfl, ?y33⟩) (by assumption) ?_
      case y33 => (intro w hSw; (try dsimp only at hSw); go_simp <;> with_reducible rfl)
      simp only [Act.put, List.setIfInBounds_toArray, List.set_cons_zero, List.set_cons_succ]
      refine wpAnyH_ready (rs := [12]) (by kernel_rfl) (by simp) (AllReadyH.cons (gA rfl) (fun K hK => ?_) AllReadyH.nil)
      go_simp
      refine hK.out _ _ ?_ (fun hHeld => ?_)
      · exact HSX9.out _ _ (HSX2.out _ hbx) (kset w2 h [(10, _)])
      clear hK K
      try simp only [Act.put, List.setIfInBounds_toArray, List.set_cons_zero, List.set_cons_succ]
      refine wpAnyH_done (by kernel_rfl) ?_ _
      go_wp2_with fail
      go_meet
      exact ⟨q5, _, c5, xs2, hq5, own_setCell_flat entryC_flat2 hO2 (by simp [Value.ownBlock]; omega) _, hH9.set (j := 10) _, (Kept.of_below hbx (fun k hk hx => by omega)).trans (kset w2 h [(10, _)])⟩
    (refine step_app (v := .slice (some ⟨_, 0, none⟩) 0 0) (t := 35) (e := 57) (bytes := 24) (base := W2.heap.size) (c := entryC) (l := []) (xs := []) (l2 := b.fol) (S := All) rfl (.tmp 32) (.tmp 34) rfl entry_elem entryC_good rfl rfl (hO0 _ (by simp)) (HFW.out _ hbx) (fun _ _ hc => hc) hby1 (by omega) hbx.size ?_; intro v' w' xs' hO1 hg1 hat1; (try replace hL := fun g hg => (hL g hg).grown hg1 (by subst hg; simp [Value.ownBlock])); replace hbx := below_app hbx (hO0 _ (by simp)) hg1 hbx.size; clear hO0 hg1 hat1)
    refine hK.out _ _ ?_ (fun hHeld => ?_)
    · exact HSX2.out _ hbx
    clear hK K
    try simp only [Act.put, List.setIfInBounds_toArray, List.set_cons_zero, List.set_cons_succ]
    refine wpAnyH_ready (rs := [9]) (by kernel_rfl) (by simp) ?_
    refine AllReadyH.cons (gA rfl) (fun K hK => ?_) AllReadyH.nil
    go_simp
    refine hK.out _ _ ?_ (fun hHeld => ?_)
    · exact HSX2.out _ (hbx.alloc hbx.size (.cells #[.int .i64 x.day, .int .i64 2, .int .i64 (-a)] 57))
    clear hK K
    try simp only [Act.put, List.setIfInBounds_toArray, List.set_cons_zero, List.set_cons_succ]
    (have hL := freshG hbx #[.int .i64 x.day, .int .i64 2, .int .i64 (-a)] 57; (try replace hO0 := fun g hg => (hO0 g hg).bel (bel1 _ (.cells #[.int .i64 x.day, .int .i64 2, .int .i64 (-a)] 57))); (try replace hO1 := hO1.bel (bel1 _ (.cells #[.int .i64 x.day, .int .i64 2, .int .i64 (-a)] 57))); replace hbx := hbx.alloc hbx.size (.cells #[.int .i64 x.day, .int .i64 2, .int .i64 (-a)] 57))
    refine wpAnyH_ready (rs := [10]) (by kernel_rfl) (by simp) (AllReadyH.cons (gA rfl) (fun K hK => ?_) AllReadyH.nil)
    (refine step_app (t := 35) (e := 57) (bytes := 24) (base := W2.heap.size) (c := entryC) (l := b.fol) (xs := xs') (l2 := [⟨x.day, 2, -a⟩]) (S := All) rfl (.tmp 35) (.tmp 41) rfl entry_elem entryC_good rfl rfl hO1 (sl_entryS (hL _ (by simp)) (.of (by omega) (by omega)) (.of (by decide) (by decide)) (.of (by omega) (by omega))) (fun _ _ hc => hc) hby2 (by omega) hbx.size ?_; intro v2 w2 xs2 hO2 hg2 hat2; replace hbx := below_app hbx hO1 hg2 hbx.size; clear hO1 hg2 hat2 hL; rw [← HL2.out] at hO2; obtain ⟨q5, c5, hv2, hq5, hq5l⟩ := hO2.form (by rw [HL2.out]; simp); subst hv2; have hH9 := HH.out.bel hbx; have mf := hH9.free 10; have m10 : w2.cell? ⟨h, 10, none⟩ = some (.slice A3 n3 c3) := hH9.cell rfl)
    refine hK.out _ _ ?_ (fun hHeld => ?_)
    · exact HSX2.out _ hbx
    clear hK K
    try simp only [Act.put, List.setIfInBounds_toArray, List.set_cons_zero, List.set_cons_succ]
    refine wpAnyH_take (i := 11) (v := ?v36) (gA rfl) (by kernel_rfl) (by kernel_rfl) (by kernel_rfl) (fun _ _ _ h => h) (Or.inl ⟨rfl, ?y36⟩) (by assumption) ?_
    case y36 => (intro w hSw; (try dsimp only at hSw); go_simp <;> with_reducible rfl)
    simp only [Act.put, List.setIfInBounds_toArray, List.set_cons_zero, List.set_cons_succ]
    refine wpAnyH_ready (rs := [12]) (by kernel_rfl) (by simp) (AllReadyH.cons (gA rfl) (fun K hK => ?_) AllReadyH.nil)
    go_simp
    refine hK.out _ _ ?_ (fun hHeld => ?_)
    · exact HSX9.out _ _ (HSX2.out _ hbx) (kset w2 h [(10, _)])
    clear hK K
    try simp only [Act.put, List.setIfInBounds_toArray, List.set_cons_zero, List.set_cons_succ]
    refine wpAnyH_done (by kernel_rfl) ?_ _
    go_wp2_with fail
    go_meet
    exact ⟨q5, _, c5, xs2, hq5, own_setCell_flat entryC_flat2 hO2 (by simp [Value.ownBlock]; omega) _, hH9.set (j := 10) _, (Kept.of_below hbx (fun k hk hx => by omega)).trans (kset w2 h [(10, _)])⟩
  obtain ⟨q5, n5, c5, xs5, hq5, hO5, hH5, hK5⟩ := hcut
  obtain ⟨W3, hW3⟩ : ∃ V, V = wc := ⟨_, rfl⟩
  subst hW3
  have hb3 : Below W1.heap.size W1 W3 := hb.trans (hK5.below (B := W1.heap.size) hb.size (fun k hk e => by omega))
  have hq5l := (hO5.lt q5 rfl).2
  have h10 : W3.cell? ⟨h, 10, none⟩ = some (.slice (some ⟨q5, 0, none⟩) n5 c5) := hH5.cell rfl
  have hs5 : Sl entryC 3 W3 All (some ⟨q5, 0, none⟩) n5 c5 L2 := hO5.slAll entryC_good entryC_good (by omega) (fun h => h) rfl
  have hszb := hb.size
  clear hb HSX2 HSX9 HFW hby1 hby2 HH hK5
  have hb := hb3
  have HC := Lib.hid (HCF.out _ _ _ _ hs5)
  have HO5 := Lib.hid hO5
  clear hO5
  have HH5 := Lib.hid hH5
  clear hH5
  clear hs5 HCF hb3
  go_wp2_with fail
  refine HC.out.mono ?_
  rintro e w5 ⟨rfl, hb5⟩
  have HH6 := Lib.hid (HH5.out.bel hb5)
  have HO6 := Lib.hid (HO5.out.bel hb5)
  have hq6 := Nat.lt_of_lt_of_le hq5l hb5.size
  replace hb := hb.trans (hb5.mono hb.size)
  clear hb5 HC h10 HO5 HH5
  by_cases q7 : R = 0
  rotate_left
  · have q8 : (R != 0) = true := by simpa using q7
    have Q7 := Lib.hid q7
    clear q7
    have hz6 := HZ.out _ hb
    go_wp2_with (refine wpList_store_row rfl 32 (.tmp 6) (.tmp 49) rfl z (saiA zeroS zeroP) rfl rfl 32 _ hz6 (by kernel_rfl) rfl (by simp [Value.oneCell']) ?_)
    refine bodyPost_ret (v := .tuple #[.agg (saiA zeroS zeroP), .int .i64 R]) ((hz6.row _).ret2 (k := 6) (u := 7) (by kernel_rfl) rfl rfl Tryz.underlying32 (by kernel_rfl) (by kernel_rfl)) rfl ?_
    exact HEND.out _ _ Q7.out hb
  subst q7
  have HC := Lib.hid (HSB0.out (fun V => K V ∧ V.heap[q5]? = w5.heap[q5]?) k { b with fol := L2 } (some ⟨q5, 0, none⟩) n5 c5 w5 (fun V hV => HKS.out V hV.1) (fun V hV => HKP.out V hV.1)
    (fun V hV => (HO6.out.keepB entryC_flat2 (fun j hj => by injection hj with hj; subst hj; exact hV.2)).slAll entryC_good entryC_good (by omega) (fun h => h) rfl) ⟨HKX.out _ hb, rfl⟩ (HLS.out.bel (HT.out _ hb)) ⟨HI.out.id, HI.out.kind, HI.out.state, HI.out.gst, HI.out.cab, HI.out.cat, HI.out.frm, HI.out.upto, HI.out.til⟩ (by rw [HLN.out]; exact hlt))
  have hXE : X = setS x k { b with fol := L2 } := by rw [HX.out]; unfold paidX paidB; rw [HCU.out, ← HKK.out, HL2.out]
  have HXE := Lib.hid hXE
  clear hXE HSB0
  go_wp2_with (first | (refine wpList_load_row rfl 32 (.tmp 3) rfl g rfl 32 _ (0, 0) _ (HG.out _ hb) Tryz.underlying32 rfl (by kernel_rfl) ?_) | (refine wpList_load_row rfl 37 (.tmp 9) rfl h rfl 37 _ (0, 0) _ HH6.out Tryz.underlying37 rfl (by kernel_rfl) ?_))
  refine HC.out.mono ?_
  rintro e w4 ⟨q, p', rfl, hq0, hq1, hSR, hb4⟩
  have hsz := hb.size
  replace hb := hb.trans (hb4.mono hb.size)
  have HSR := Lib.hid hSR
  have HQ5 := Lib.hid (show w4.heap[q5]? = w5.heap[q5]? from hb4.block q5 hq6)
  have hs4 := hb4.size
  clear HC hSR hb4 HH6 HO6
  have hz6 := HZ.out _ hb
  go_wp2_with (refine wpList_store_row rfl 32 (.tmp 6) (.tmp 54) rfl z (saiA (setS x k { b with fol := L2 }) p') rfl rfl 32 _ hz6 (by kernel_rfl) rfl (by simp [Value.oneCell']) ?_)
  refine bodyPost_ret (v := .tuple #[.agg (saiA (setS x k { b with fol := L2 }) p'), .int .i64 0]) ((hz6.row _).ret2 (k := 6) (u := 7) (by kernel_rfl) rfl rfl Tryz.underlying32 (by kernel_rfl) (by kernel_rfl)) rfl ?_
  have hszT := (HT.out _ hb).size
  have hKz : Kept (fun k => k = z) w4 (w4.setRow z (saiA (setS x k { b with fol := L2 }) p')) := (Kept.refl (fun k => k = z) _).setRow (.inl rfl) _
  have hbz := ((HT.out _ hb).trans (hKz.below (B := w.heap.size) (HT.out _ hb).size (fun k hk e => by omega)))
  refine ⟨⟨_, p', rfl, by rw [okS_zero, HXE.out], fun V hV hN => HSR.out V ⟨hV, ?_⟩ ?_⟩, hbz⟩
  · exact ((hN q5 (by omega) (by have := hKz.size; omega)).trans (hKz.block q5 (by omega) (by omega))).trans HQ5.out
  · exact (hN q (by omega) (Nat.lt_of_lt_of_le hq1 hKz.size)).trans (hKz.block q hq1 (by omega))
end Go.Proofs.YtoilcdgpeilgaaaGreat
