/-
  Words, laws and contracts: SellD, SellE.
-/
import Derived.Test.YtlablioefblmkaaGreatBun29
import Derived.BigQuiet
set_option linter.unusedSimpArgs false
set_option linter.unusedVariables false
namespace Go.Proofs.YtlablioefblmkaaGreat
open Go.RowKit Go.Shelf
def ResR (w' : World) (E : Int) (X : Sai) (e : Ending) : Prop := ∃ y p', e = .returned (.tuple #[.agg (saiA y p'), .int .i64 E]) ∧ y = okS E X ∧ SaiR w' y p'
def NewSame (w w' V : World) : Prop := ∀ b, w.heap.size ≤ b → b < w'.heap.size → V.heap[b]? = w'.heap[b]?
def ResK (K : World → Prop) (w w' : World) (E : Int) (X : Sai) (e : Ending) : Prop := ∃ y p', e = .returned (.tuple #[.agg (saiA y p'), .int .i64 E]) ∧ y = okS E X ∧ ∀ V, K V → NewSame w w' V → SaiR V y p'
set_option maxRecDepth 100000 in
set_option maxHeartbeats 16000000 in
theorem SellOf_K (K : World → Prop) (x : Sai) (p : SaiV) (b : Bkg) (A3 : Option Addr) (n3 c3 : Nat) (knd : Int) (L : List (List Value)) (w : World) (hKb : ∀ V V', K V → Below V.heap.size V V' → K V') (hKS : ∀ V, K V → SaiR V x p) (hKP : ∀ V, K V → Pts bkgC V L x.bks) (hKw : K w) (hLs : Sl (rawC 11) 11 w All p.C p.nb p.cb L)
    (hf : Sl entryC 3 w All A3 n3 c3 b.fol) (hI : BkIn b) (ho : OkSai x) :
    Calls Tryz.prog 49 #[.agg (saiA x p), .agg (bkgA b (.slice A3 n3 c3)), .int .i64 knd] w fun e w' => ResK K w w' (sellE1 x b knd) (sellX x b) e ∧ Below w.heap.size w w' := by
  have hS := hKS w hKw
  have HKB := Lib.hid hKb
  have HKS := Lib.hid hKS
  have HKP := Lib.hid hKP
  have HKW := Lib.hid hKw
  have HCB0 := Lib.hid (fun X hc hb hf => CheckBooking_any x.ship p.A p.n p.cap p.B p.m p.cap2 b A3 n3 c3 X hc hb ho.bs.ship hf)
  have HBA0 := Lib.hid (fun X hl => BookingAt_any x p b.id X hl)
  have HSOLD := Lib.hid (fun (hk : OkBk x.ship b) => price_sold (fare_ok ho.fares) ho.bs.ship hk)
  have HPBD := Lib.hid (fun (hk : OkBk x.ship b) => price_bd (fare_ok ho.fares) ho.bs.ship hk)
  have hfok := fare_ok ho.fares
  have HPR0 := Lib.hid (fun (k f t gn : Nat) L e4 e5 e6 e7 e8 g1 g4 X hF => PriceOf_any p.D p.nd p.cd x.fares p.E p.ne p.ce k f t gn L X hF e4 e5 e6 e7 e8 hfok.a hfok.t g1 g4)
  have HLS := Lib.hid hLs
  have HWB0 := Lib.hid (fun K q X h1 h2 h3 h4 h5 hn => WithBooking_K K x p (soldB x b) (some ⟨q, 0, none⟩) 1 1 L X h1 h2 h3 h4 h5 ⟨hI.id, hI.kind, hI.state, hI.gst, hI.cab, hI.cat, hI.frm, hI.upto, hI.til⟩ (rise_of ho.bs.rise) hn ho.bs.len)
  have HRM0 := Lib.hid (fun p X (h : SaiR X (sellX x b) p) (h16 : x.bks.length ≠ 16) (hk : OkBk x.ship b) => RoomOf_any (sellX x b) p X h ho.bs.ship (fun c hc => by
    rcases mem_ins hc with rfl | hc
    · show OkBk x.ship _
      exact sold_ok ho hk
    · exact ho.bs.bk c hc) (by rw [show (sellX x b).bks = insS x.bks (soldB x b) from rfl, len_ins]; have := ho.bs.len; omega))
  have HKIND := Lib.hid (fun (hk : OkBk x.ship b) (h1 : b.kind = 1) => (show 0 ≤ b.cab ∧ b.cab.toNat < p.m from by
    have h := hk.kindE
    unfold kindE at h
    rw [if_neg (by omega)] at h
    unfold namedE at h
    by_cases h4 : betB b.cab 0 ((x.ship.cabs.length : Int) - 1) = false
    · rw [if_pos h4] at h; omega
    have h5 := betB_iff.1 (not_false_of h4)
    have := hS.cabs.len
    omega))
  have HDAY := Lib.hid (betB_iff.1 ho.day)
  obtain ⟨R, hR⟩ : ∃ r, r = sellE1 x b knd := ⟨_, rfl⟩
  obtain ⟨oe, hoe⟩ : ∃ r, r = ofE x.ship b := ⟨_, rfl⟩
  obtain ⟨pe, hpe⟩ : ∃ r, r = putE x b := ⟨_, rfl⟩
  obtain ⟨tl, htl⟩ : ∃ r, r = put0 x b := ⟨_, rfl⟩
  obtain ⟨hi, hhi⟩ : ∃ r, r = hasId x.bks b.id := ⟨_, rfl⟩
  obtain ⟨ai, hai⟩ : ∃ r, r = atI x.bks b.id := ⟨_, rfl⟩
  obtain ⟨rm, hrm⟩ : ∃ r, r = roomE (sellX x b) := ⟨_, rfl⟩
  obtain ⟨pr, hpr⟩ : ∃ r, r = priceS x b := ⟨_, rfl⟩
  obtain ⟨Y, hY⟩ : ∃ r, r = sellX x b := ⟨_, rfl⟩
  obtain ⟨fb, hfb⟩ : ∃ r, r = soldB x b := ⟨_, rfl⟩
  have hn3 := hf.len
  have hnb : x.bks.length = p.nb := hS.bks.len
  have HR := Lib.hid (show R = if b.kind ≠ knd ∨ b.state = 3 then 7 else if 0 < n3 ∨ knd = 2 ∧ b.cab ≠ -1 then 1 else if oe ≠ 0 then oe else pe by rw [hR, hoe, hpe, ← hn3]; rfl)
  have HPE := Lib.hid (show pe = if tl = true then 4 else if hi = true then 6 else if p.nb = 16 then 2 else rm by rw [hpe, htl, hhi, hrm, ← hnb]; rfl)
  have HTL := Lib.hid (show tl = (lateB x b || (decide (b.kind = 2) && x.closed)) from htl)
  have HLB := Lib.hid (show lateB x b = (decide (x.leaves ≤ x.day) || (decide (b.state = 1) && (decide (b.til < x.day) || decide (x.leaves ≤ b.til)))) from rfl)
  have HAI := Lib.hid (show decide (0 ≤ ai) = hi by rw [hai, hhi]; exact idxF_any)
  have HHI := Lib.hid (show hasId x.bks (soldB x b).id = hi from hhi.symm)
  have HFB := Lib.hid (show ∀ v, bkgA fb v = #[.int .i64 b.id, .int .i64 b.kind, .int .i64 b.state, .int .i64 b.gst, .bool b.lev, .int .i64 b.cab, .int .i64 b.cat, .int .i64 b.frm, .int .i64 b.upto, .int .i64 b.til, v] by intro v; rw [hfb]; rfl)
  have HFF := Lib.hid (show fb.fol = [⟨x.day, 1, pr⟩] by rw [hfb, hpr]; rfl)
  have HYE := Lib.hid (show withS x fb = Y by rw [hY, hfb]; rfl)
  rw [← hoe] at HCB0
  rw [← hai] at HBA0
  rw [← hfb] at HWB0
  rw [← hrm, ← hY] at HRM0
  rw [← hpr] at HPBD HSOLD
  rw [← hR, ← hY]
  rw [← hfb] at HHI
  have HOE := Lib.hid hoe
  have HS := Lib.hid hS
  have HF := Lib.hid hf
  have HNB := Lib.hid hnb
  have hmb := hS.cabs.bd
  have hcm := hS.cabs.le
  clear hR hoe hpe htl hhi hai hrm hpr hY hfb hn3 hS hf hI ho hfok hnb hLs hKb hKS hKP hKw
  obtain ⟨A, n, cap, B, m, cap2, D, nd, cd, E, ne, ce, C, nb, cb⟩ := p
  obtain ⟨id, kind, state, gst, lev, cab, cat, frm, upto, til, fol⟩ := b
  simp only at HCB0 HR HPE HTL HLB HFB HKIND hmb hcm HSOLD HPR0 HNB
  go_enter Tryz.func49, Tryz.ntmps49
  go_upto_region 0 with (fail)
  go_cut [3, 4, 6, 7] (fun p p2 p3 p4 wx => ∃ g h z, p = .pointer (some ⟨g, 0, none⟩) ∧ p2 = .pointer (some ⟨h, 0, none⟩) ∧ p3 = .pointer (some ⟨z, 0, none⟩) ∧ p4 = .int .i64 0 ∧ w.heap.size ≤ g ∧ w.heap.size ≤ h ∧ w.heap.size ≤ z ∧ g ≠ h ∧ h ≠ z ∧ Blk wx g (saiA x ⟨A, n, cap, B, m, cap2, D, nd, cd, E, ne, ce, C, nb, cb⟩) 32 ∧ Blk wx h (bkgA ⟨id, kind, state, gst, lev, cab, cat, frm, upto, til, fol⟩ (.slice A3 n3 c3)) 42 ∧ Blk wx z #[.int .i64 0, .int .i64 0, .slice none 0 0, .slice none 0 0, .slice none 0 0, .int .i64 0, .int .i64 0, .slice none 0 0, .int .i64 0, .int .i64 0, .int .i64 0, .slice none 0 0, .bool false] 32 ∧ Below w.heap.size w wx)
  case first => as_aux_lemma =>
    go_wp2_with fail
    go_meet
    exact ⟨_, _, _, rfl, rfl, rfl, rfl, Nat.le_refl _, by omega, by omega, by omega, by omega, blk3_0 _ _ _ _, blk3_1 _ _ _ _, blk3_2 _ _ _ _, bel3 _ _ _ _⟩
  obtain ⟨g, h, z, rfl, rfl, rfl, rfl, hg, hh, hz, hgh, hhz, hG, hH, hZ, hb0⟩ := hcut
  obtain ⟨W1, hW1⟩ : ∃ V, V = wc := ⟨_, rfl⟩
  subst hW1
  have HT := Lib.hid (fun X (hX : Below W1.heap.size W1 X) => hb0.trans (hX.mono hb0.size))
  have HG := Lib.hid (fun X (hX : Below W1.heap.size W1 X) => hG.bel hX)
  have HH := Lib.hid (fun X (hX : Below W1.heap.size W1 X) => hH.bel hX)
  have HZ := Lib.hid (fun X (hX : Below W1.heap.size W1 X) => hZ.bel hX)
  have HSX := Lib.hid (fun X (hX : Below W1.heap.size W1 X) => HS.out.bel (HT.out X hX))
  have HFX := Lib.hid (fun X (hX : Below W1.heap.size W1 X) => HF.out.bel (HT.out X hX))
  have HEND := Lib.hid (show ∀ (E' : Int) X, ¬ E' = 0 → Below W1.heap.size W1 X → ResK K w (X.setRow z (saiA zeroS zeroP)) E' Y (.returned (.tuple #[.agg (saiA zeroS zeroP), .int .i64 E'])) ∧ Below w.heap.size w (X.setRow z (saiA zeroS zeroP)) from fun E' X h0 hX =>
    ⟨⟨zeroS, zeroP, rfl, (okS_ne h0 _).symm, fun V _ _ => zeroS_rd V⟩, (HT.out X hX).trans (((Kept.refl (fun k => k = z) X).setRow (.inl rfl) _).below (B := w.heap.size) (HT.out X hX).size (fun k hk e => by omega))⟩)
  have hb : Below W1.heap.size W1 W1 := Below.refl _ _
  clear hG hH hZ hb0
  have h1 : W1.cell? ⟨h, 1, none⟩ = some (.int .i64 kind) := (HH.out _ hb).cell rfl
  have h2 : W1.cell? ⟨h, 2, none⟩ = some (.int .i64 state) := (HH.out _ hb).cell rfl
  have h5 : W1.cell? ⟨h, 5, none⟩ = some (.int .i64 cab) := (HH.out _ hb).cell rfl
  have h10 : W1.cell? ⟨h, 10, none⟩ = some (.slice A3 n3 c3) := (HH.out _ hb).cell rfl
  by_cases q1 : kind = knd
  rotate_left
  · obtain rfl : R = 7 := by rw [HR.out, if_pos (.inl q1)]
    have q1' : (kind != knd) = true := by simpa using q1
    clear q1
    go_wp2_with (first | (refine wpList_load_row rfl 32 (.tmp 3) rfl g rfl 32 _ (0, 0) _ (HG.out _ hb) Tryz.underlying32 rfl (by kernel_rfl) ?_) | (refine wpList_load_row rfl 42 (.tmp 4) rfl h rfl 42 _ (0, 0) _ (HH.out _ hb) Tryz.underlying42 rfl (by kernel_rfl) ?_) | (refine wpList_store_row rfl 32 (.tmp 6) (.tmp 20) rfl z (saiA zeroS zeroP) rfl rfl 32 _ (HZ.out _ hb) (by kernel_rfl) rfl (by simp [Value.oneCell']) ?_))
    refine bodyPost_ret (v := .tuple #[.agg (saiA zeroS zeroP), .int .i64 7]) (((HZ.out _ hb).row _).ret2 (k := 6) (u := 7) (by kernel_rfl) rfl rfl Tryz.underlying32 (by kernel_rfl) (by kernel_rfl)) rfl ?_
    exact HEND.out _ _ (by decide) hb
  by_cases q2 : state = 3
  · obtain rfl : R = 7 := by rw [HR.out, if_pos (.inr q2)]
    subst q1 q2
    go_wp2_with (first | (refine wpList_load_row rfl 32 (.tmp 3) rfl g rfl 32 _ (0, 0) _ (HG.out _ hb) Tryz.underlying32 rfl (by kernel_rfl) ?_) | (refine wpList_load_row rfl 42 (.tmp 4) rfl h rfl 42 _ (0, 0) _ (HH.out _ hb) Tryz.underlying42 rfl (by kernel_rfl) ?_) | (refine wpList_store_row rfl 32 (.tmp 6) (.tmp 20) rfl z (saiA zeroS zeroP) rfl rfl 32 _ (HZ.out _ hb) (by kernel_rfl) rfl (by simp [Value.oneCell']) ?_))
    refine bodyPost_ret (v := .tuple #[.agg (saiA zeroS zeroP), .int .i64 7]) (((HZ.out _ hb).row _).ret2 (k := 6) (u := 7) (by kernel_rfl) rfl rfl Tryz.underlying32 (by kernel_rfl) (by kernel_rfl)) rfl ?_
    exact HEND.out _ _ (by decide) hb
  have HR2 := Lib.hid (HR.out.trans (if_neg (by simp [q1, q2])))
  have q2' : (state == 3) = false := by simpa using q2
  subst q1
  clear q2
  obtain ⟨tv, htv⟩ : ∃ tv, tv = (decide (0 < n3) || (decide (kind = 2) && decide (cab ≠ -1))) := ⟨_, rfl⟩
  have HTV := Lib.hid htv
  clear htv
  go_upto_region 3 with (fail)
  go_cut [33] (fun p wx => p = .bool tv ∧ W1 = wx)
  case first => as_aux_lemma =>
    by_cases q3 : 0 < n3
    · obtain rfl : tv = true := by rw [HTV.out, decide_eq_true q3]; rfl
      have q3' : decide (0 < n3) = true := decide_eq_true q3
      clear q3
      go_wp2_with fail
      go_meet
      exact ⟨rfl, rfl⟩
    have q3' : decide (0 < n3) = false := decide_eq_false q3
    by_cases q4 : kind = 2
    · obtain rfl : tv = decide (cab ≠ -1) := by rw [HTV.out, decide_eq_false q3, decide_eq_true q4]; simp
      clear q3
      subst q4
      by_cases q5 : cab = -1
      · subst q5
        go_wp2_with fail
        go_meet
        exact ⟨by simp, rfl⟩
      · have q5' : (cab != -1) = true := by simpa using q5
        have q6 : decide (cab ≠ -1) = true := decide_eq_true q5
        have Q6 := Lib.hid q6
        clear q5 q6
        go_wp2_with fail
        go_meet
        exact ⟨by rw [Q6.out], rfl⟩
    · obtain rfl : tv = false := by rw [HTV.out, decide_eq_false q3, decide_eq_false q4]; rfl
      have q4' : (kind == 2) = false := by simpa using q4
      clear q3 q4
      go_wp2_with fail
      go_meet
      exact ⟨rfl, rfl⟩
  obtain ⟨rfl, rfl⟩ := hcut
  cases tv
  rotate_left
  · obtain rfl : R = 1 := by
      rw [HR2.out]
      have h := HTV.out
      refine if_pos ?_
      by_cases q3 : 0 < n3
      · exact .inl q3
      · rw [decide_eq_false q3] at h
        simp only [Bool.false_or] at h
        have h4 := Bool.and_eq_true_iff.1 h.symm
        exact .inr ⟨of_decide_eq_true h4.1, of_decide_eq_true h4.2⟩
    go_wp2_with (first | (refine wpList_load_row rfl 32 (.tmp 3) rfl g rfl 32 _ (0, 0) _ (HG.out _ hb) Tryz.underlying32 rfl (by kernel_rfl) ?_) | (refine wpList_load_row rfl 42 (.tmp 4) rfl h rfl 42 _ (0, 0) _ (HH.out _ hb) Tryz.underlying42 rfl (by kernel_rfl) ?_) | (refine wpList_store_row rfl 32 (.tmp 6) (.tmp 34) rfl z (saiA zeroS zeroP) rfl rfl 32 _ (HZ.out _ hb) (by kernel_rfl) rfl (by simp [Value.oneCell']) ?_))
    refine bodyPost_ret (v := .tuple #[.agg (saiA zeroS zeroP), .int .i64 1]) (((HZ.out _ hb).row _).ret2 (k := 6) (u := 7) (by kernel_rfl) rfl rfl Tryz.underlying32 (by kernel_rfl) (by kernel_rfl)) rfl ?_
    exact HEND.out _ _ (by decide) hb
  have HR3 := Lib.hid (show R = if oe ≠ 0 then oe else pe from HR2.out.trans (if_neg (by
    have h := HTV.out
    intro h2
    rcases h2 with h2 | ⟨h2, h3⟩
    · rw [decide_eq_true h2] at h; cases h
    · rw [decide_eq_true h2, decide_eq_true h3] at h; simp at h)))
  have g0 : W1.cell? ⟨g, 0, none⟩ = some (.int .i64 x.ship.legs) := (HG.out _ hb).cell rfl
  have g1 : W1.cell? ⟨g, 1, none⟩ = some (.int .i64 x.ship.souls) := (HG.out _ hb).cell rfl
  have g2 : W1.cell? ⟨g, 2, none⟩ = some (.slice A n cap) := (HG.out _ hb).cell rfl
  have g3 : W1.cell? ⟨g, 3, none⟩ = some (.slice B m cap2) := (HG.out _ hb).cell rfl
  have HC := Lib.hid (HCB0.out _ (HSX.out _ hb).cats (HSX.out _ hb).cabs (HFX.out _ hb))
  clear h1 h2 h5 h10
  go_wp2_with (first | (refine wpList_load_row rfl 32 (.tmp 3) rfl g rfl 32 _ (0, 0) _ (HG.out _ hb) Tryz.underlying32 rfl (by kernel_rfl) ?_) | (refine wpList_load_row rfl 42 (.tmp 4) rfl h rfl 42 _ (0, 0) _ (HH.out _ hb) Tryz.underlying42 rfl (by kernel_rfl) ?_))
  refine HC.out.mono ?_
  rintro e w2 ⟨rfl, hb1⟩
  replace hb := hb.trans (hb1.mono hb.size)
  clear hb1 HC HCB0 g0 g1 g2 g3
  by_cases q6 : oe = 0
  rotate_left
  · obtain rfl : R = oe := by rw [HR3.out, if_pos q6]
    have q6' : (R != 0) = true := by simpa using q6
    have Q6 := Lib.hid q6
    clear q6
    go_wp2_with (first | (refine wpList_load_row rfl 32 (.tmp 3) rfl g rfl 32 _ (0, 0) _ (HG.out _ hb) Tryz.underlying32 rfl (by kernel_rfl) ?_) | (refine wpList_load_row rfl 42 (.tmp 4) rfl h rfl 42 _ (0, 0) _ (HH.out _ hb) Tryz.underlying42 rfl (by kernel_rfl) ?_) | (refine wpList_store_row rfl 32 (.tmp 6) (.tmp 41) rfl z (saiA zeroS zeroP) rfl rfl 32 _ (HZ.out _ hb) (by kernel_rfl) rfl (by simp [Value.oneCell']) ?_))
    refine bodyPost_ret (v := .tuple #[.agg (saiA zeroS zeroP), .int .i64 R]) (((HZ.out _ hb).row _).ret2 (k := 6) (u := 7) (by kernel_rfl) rfl rfl Tryz.underlying32 (by kernel_rfl) (by kernel_rfl)) rfl ?_
    exact HEND.out _ _ Q6.out hb
  have hbk := bk_ok (HOE.out.symm.trans q6)
  have HBK := Lib.hid hbk
  obtain rfl : R = pe := by rw [HR3.out, if_neg (by rw [q6]; simp)]
  subst q6
  clear hbk
  have g9 : w2.cell? ⟨g, 9, none⟩ = some (.int .i64 x.day) := (HG.out _ hb).cell rfl
  have g10 : w2.cell? ⟨g, 10, none⟩ = some (.int .i64 x.leaves) := (HG.out _ hb).cell rfl
  have g12 : w2.cell? ⟨g, 12, none⟩ = some (.bool x.closed) := (HG.out _ hb).cell rfl
  have h2 : w2.cell? ⟨h, 2, none⟩ = some (.int .i64 state) := (HH.out _ hb).cell rfl
  have h9 : w2.cell? ⟨h, 9, none⟩ = some (.int .i64 til) := (HH.out _ hb).cell rfl
  go_upto_region 8 with (fail)
  go_cut [74] (fun p wx => p = .bool tl ∧ w2 = wx)
  case first => as_aux_lemma =>
    have hk2 : kind = 2 ∨ (kind == 2) = false := by by_cases q : kind = 2; exact .inl q; exact .inr (by simpa using q)
    by_cases q1 : x.leaves ≤ x.day
    · obtain rfl : tl = true := by rw [HTL.out, HLB.out, decide_eq_true q1]; rfl
      have d1 : decide (x.leaves ≤ x.day) = true := decide_eq_true q1
      clear q1 hk2
      go_wp2_with fail
      go_meet
      exact ⟨rfl, rfl⟩
    have d1 : decide (x.leaves ≤ x.day) = false := decide_eq_false q1
    by_cases q2 : state = 1
    · by_cases q3 : til < x.day
      · obtain rfl : tl = true := by rw [HTL.out, HLB.out, d1, decide_eq_true q2, decide_eq_true q3]; rfl
        have d3 : decide (til < x.day) = true := decide_eq_true q3
        subst q2
        clear q1 q3 hk2
        go_wp2_with fail
        go_meet
        exact ⟨rfl, rfl⟩
      have d3 : decide (til < x.day) = false := decide_eq_false q3
      by_cases q4 : x.leaves ≤ til
      · obtain rfl : tl = true := by rw [HTL.out, HLB.out, d1, decide_eq_true q2, d3, decide_eq_true q4]; rfl
        have d4 : decide (x.leaves ≤ til) = true := decide_eq_true q4
        subst q2
        clear q1 q3 q4 hk2
        go_wp2_with fail
        go_meet
        exact ⟨rfl, rfl⟩
      have d4 : decide (x.leaves ≤ til) = false := decide_eq_false q4
      have HT2 := Lib.hid (show tl = (decide (kind = 2) && x.closed) by rw [HTL.out, HLB.out, d1, d3, d4]; simp)
      subst q2
      clear q1 q3 q4
      rcases hk2 with rfl | d5
      · obtain rfl : tl = x.closed := by rw [HT2.out]; simp
        go_wp2_with fail
        go_meet
        exact ⟨rfl, rfl⟩
      · obtain rfl : tl = false := by rw [HT2.out, decide_eq_false (by simpa using d5)]; rfl
        go_wp2_with fail
        go_meet
        exact ⟨rfl, rfl⟩
    · have d2 : (state == 1) = false := by simpa using q2
      have HT2 := Lib.hid (show tl = (decide (kind = 2) && x.closed) by rw [HTL.out, HLB.out, d1, decide_eq_false q2]; simp)
      clear q1 q2
      rcases hk2 with rfl | d5
      · obtain rfl : tl = x.closed := by rw [HT2.out]; simp
        go_wp2_with fail
        go_meet
        exact ⟨rfl, rfl⟩
      · obtain rfl : tl = false := by rw [HT2.out, decide_eq_false (by simpa using d5)]; rfl
        go_wp2_with fail
        go_meet
        exact ⟨rfl, rfl⟩
  obtain ⟨rfl, rfl⟩ := hcut
  clear g9 g10 g12 h2 h9
  cases tl
  rotate_left
  · obtain rfl : R = 4 := by rw [HPE.out]; rfl
    go_wp2_with (first | (refine wpList_load_row rfl 32 (.tmp 3) rfl g rfl 32 _ (0, 0) _ (HG.out _ hb) Tryz.underlying32 rfl (by kernel_rfl) ?_) | (refine wpList_load_row rfl 42 (.tmp 4) rfl h rfl 42 _ (0, 0) _ (HH.out _ hb) Tryz.underlying42 rfl (by kernel_rfl) ?_) | (refine wpList_store_row rfl 32 (.tmp 6) (.tmp 75) rfl z (saiA zeroS zeroP) rfl rfl 32 _ (HZ.out _ hb) (by kernel_rfl) rfl (by simp [Value.oneCell']) ?_))
    refine bodyPost_ret (v := .tuple #[.agg (saiA zeroS zeroP), .int .i64 4]) (((HZ.out _ hb).row _).ret2 (k := 6) (u := 7) (by kernel_rfl) rfl rfl Tryz.underlying32 (by kernel_rfl) (by kernel_rfl)) rfl ?_
    exact HEND.out _ _ (by decide) hb
  have h0 : w2.cell? ⟨h, 0, none⟩ = some (.int .i64 id) := (HH.out _ hb).cell rfl
  have HC := Lib.hid (HBA0.out _ (HSX.out _ hb).bks)
  go_wp2_with (first | (refine wpList_load_row rfl 32 (.tmp 3) rfl g rfl 32 _ (0, 0) _ (HG.out _ hb) Tryz.underlying32 rfl (by kernel_rfl) ?_) | (refine wpList_load_row rfl 42 (.tmp 4) rfl h rfl 42 _ (0, 0) _ (HH.out _ hb) Tryz.underlying42 rfl (by kernel_rfl) ?_))
  refine HC.out.mono ?_
  rintro e w3 ⟨rfl, hb1⟩
  replace hb := hb.trans (hb1.mono hb.size)
  have hai := HAI.out
  clear hb1 HC HBA0 h0
  cases hi
  rotate_left
  · obtain rfl : R = 6 := by rw [HPE.out]; rfl
    go_wp2_with (first | (refine wpList_load_row rfl 32 (.tmp 3) rfl g rfl 32 _ (0, 0) _ (HG.out _ hb) Tryz.underlying32 rfl (by kernel_rfl) ?_) | (refine wpList_load_row rfl 42 (.tmp 4) rfl h rfl 42 _ (0, 0) _ (HH.out _ hb) Tryz.underlying42 rfl (by kernel_rfl) ?_) | (refine wpList_store_row rfl 32 (.tmp 6) (.tmp 81) rfl z (saiA zeroS zeroP) rfl rfl 32 _ (HZ.out _ hb) (by kernel_rfl) rfl (by simp [Value.oneCell']) ?_))
    refine bodyPost_ret (v := .tuple #[.agg (saiA zeroS zeroP), .int .i64 6]) (((HZ.out _ hb).row _).ret2 (k := 6) (u := 7) (by kernel_rfl) rfl rfl Tryz.underlying32 (by kernel_rfl) (by kernel_rfl)) rfl ?_
    exact HEND.out _ _ (by decide) hb
  have g11 : w3.cell? ⟨g, 11, none⟩ = some (.slice C nb cb) := (HG.out _ hb).cell rfl
  by_cases hn16 : nb = 16
  · obtain rfl : R = 2 := by rw [HPE.out]; simp [hn16]
    subst hn16
    go_wp2_with (first | (refine wpList_load_row rfl 32 (.tmp 3) rfl g rfl 32 _ (0, 0) _ (HG.out _ hb) Tryz.underlying32 rfl (by kernel_rfl) ?_) | (refine wpList_load_row rfl 42 (.tmp 4) rfl h rfl 42 _ (0, 0) _ (HH.out _ hb) Tryz.underlying42 rfl (by kernel_rfl) ?_) | (refine wpList_store_row rfl 32 (.tmp 6) (.tmp 86) rfl z (saiA zeroS zeroP) rfl rfl 32 _ (HZ.out _ hb) (by kernel_rfl) rfl (by simp [Value.oneCell']) ?_))
    refine bodyPost_ret (v := .tuple #[.agg (saiA zeroS zeroP), .int .i64 2]) (((HZ.out _ hb).row _).ret2 (k := 6) (u := 7) (by kernel_rfl) rfl rfl Tryz.underlying32 (by kernel_rfl) (by kernel_rfl)) rfl ?_
    exact HEND.out _ _ (by decide) hb
  have HRR := Lib.hid (show R = rm by rw [HPE.out]; simp [hn16])
  have hn16' : ((nb : Int) == 16) = false := by simp; omega
  have HN16 := Lib.hid hn16
  clear hn16
  obtain ⟨k, f, t, L, e1, e2, e3, e4, e5, e6, e7, e8, e9⟩ := HSOLD.out HBK.out
  have hgst := HBK.out.gst
  simp only at e2 e3 e9 hgst
  obtain ⟨gn, rfl⟩ : ∃ j : Nat, gst = j := ⟨gst.toNat, by omega⟩
  subst e2 e3
  have HP := Lib.hid (fun X hF => HPR0.out k f t gn L e4 e5 e6 e7 e8 (by omega) (by omega) X hF)
  rw [← e9] at HP
  have HCT := Lib.hid e1
  clear e1 e4 e5 e6 e7 e8 e9 hgst HPR0
  have h6 : w3.cell? ⟨h, 6, none⟩ = some (.int .i64 cat) := (HH.out _ hb).cell rfl
  go_upto_if 90 with (fail)
  obtain ⟨W3, hW3⟩ : ∃ V, V = w3 := ⟨_, rfl⟩
  subst hW3
  go_cut [9] (fun p wx => p = .int .i64 (k : Int) ∧ W3 = wx)
  case first => as_aux_lemma =>
    by_cases q1 : kind = 1
    · obtain ⟨c0, cl⟩ := HKIND.out HBK.out q1
      obtain ⟨cn, rfl⟩ : ∃ j : Nat, cab = j := ⟨cab.toNat, by omega⟩
      have hlt : cn < m := by omega
      obtain ⟨ab, off, nm, ctt, ber, lv, rfl, hget, y0, y1, y2, y3⟩ := (HSX.out _ hb).cabs.cab hlt
      have HCE := Lib.hid (show (k : Int) = ctt by
        rw [← HCT.out]
        unfold catS
        rw [if_pos q1]
        simp only [Int.toNat_natCast, hget])
      have z3 : W3.cell? ⟨g, 3, none⟩ = some (.slice (some ⟨ab, off, none⟩) m cap2) := (HG.out _ hb).cell rfl
      have h5 : W3.cell? ⟨h, 5, none⟩ = some (.int .i64 (cn : Int)) := (HH.out _ hb).cell rfl
      have q2 : (0 : Int) ≤ (cn : Int) := by omega
      have q3 : (cn : Int) < (m : Int) := by omega
      subst q1
      clear hget cl c0
      go_wp2_with fail
      go_meet
      exact ⟨by rw [HCE.out], rfl⟩
    · have HCE := Lib.hid (show (k : Int) = cat by
        rw [← HCT.out]
        unfold catS
        rw [if_neg q1])
      have q2 : (kind == 1) = false := by simpa using q1
      clear q1
      go_wp2_with fail
      go_meet
      exact ⟨by rw [HCE.out], rfl⟩
  obtain ⟨rfl, rfl⟩ := hcut
  clear g11 h6 hai
  obtain ⟨W4, hW4⟩ : ∃ V, V = W3 := ⟨_, rfl⟩
  subst hW4
  have HSB := Lib.hid (show ∀ w', Below W1.heap.size W1 w' → ((w'.cell? ⟨g, 4, none⟩ = some (.slice D nd cd) ∧ w'.cell? ⟨g, 5, none⟩ = some (.int .i64 x.fares.alone) ∧ w'.cell? ⟨g, 6, none⟩ = some (.int .i64 x.fares.third) ∧ w'.cell? ⟨g, 7, none⟩ = some (.slice E ne ce) ∧ w'.cell? ⟨g, 8, none⟩ = some (.int .i64 x.fares.down) ∧ w'.cell? ⟨g, 9, none⟩ = some (.int .i64 x.day)) ∧ (w'.cell? ⟨h, 0, none⟩ = some (.int .i64 id) ∧ w'.cell? ⟨h, 1, none⟩ = some (.int .i64 kind) ∧ w'.cell? ⟨h, 2, none⟩ = some (.int .i64 state) ∧ w'.cell? ⟨h, 3, none⟩ = some (.int .i64 (gn : Int)) ∧ w'.cell? ⟨h, 4, none⟩ = some (.bool lev) ∧ w'.cell? ⟨h, 5, none⟩ = some (.int .i64 cab) ∧ w'.cell? ⟨h, 6, none⟩ = some (.int .i64 cat) ∧ w'.cell? ⟨h, 7, none⟩ = some (.int .i64 (f : Int)) ∧ w'.cell? ⟨h, 8, none⟩ = some (.int .i64 (t : Int)) ∧ w'.cell? ⟨h, 9, none⟩ = some (.int .i64 til))) from fun w' hX => ⟨⟨(HG.out _ hX).cell rfl, (HG.out _ hX).cell rfl, (HG.out _ hX).cell rfl, (HG.out _ hX).cell rfl, (HG.out _ hX).cell rfl, (HG.out _ hX).cell rfl⟩, (HH.out _ hX).cell rfl, (HH.out _ hX).cell rfl, (HH.out _ hX).cell rfl, (HH.out _ hX).cell rfl, (HH.out _ hX).cell rfl, (HH.out _ hX).cell rfl, (HH.out _ hX).cell rfl, (HH.out _ hX).cell rfl, (HH.out _ hX).cell rfl, (HH.out _ hX).cell rfl⟩)
  go_upto_region 17 with (fail)
  go_cut [4] (fun p wx => p = .pointer (some ⟨h, 0, none⟩) ∧ ∃ q, Blk wx h (bkgA fb (.slice (some ⟨q, 0, none⟩) 1 1)) 42 ∧ Blk wx q #[.int .i64 x.day, .int .i64 1, .int .i64 pr] 77 ∧ q ≠ h ∧ ¬ q < W4.heap.size ∧ Kept (fun k => k = h) W4 wx)
  case first =>
    have hbx : Below W1.heap.size W1 W4.drew := hb.drew
    have hKx : Kept (fun k => k = h) W4 W4.drew := (Kept.refl _ _).drew
    refine wp_region_held_drew (S := (fun w' => (w'.cell? ⟨g, 4, none⟩ = some (.slice D nd cd) ∧ w'.cell? ⟨g, 5, none⟩ = some (.int .i64 x.fares.alone) ∧ w'.cell? ⟨g, 6, none⟩ = some (.int .i64 x.fares.third) ∧ w'.cell? ⟨g, 7, none⟩ = some (.slice E ne ce) ∧ w'.cell? ⟨g, 8, none⟩ = some (.int .i64 x.fares.down) ∧ w'.cell? ⟨g, 9, none⟩ = some (.int .i64 x.day)) ∧ (w'.cell? ⟨h, 0, none⟩ = some (.int .i64 id) ∧ w'.cell? ⟨h, 1, none⟩ = some (.int .i64 kind) ∧ w'.cell? ⟨h, 2, none⟩ = some (.int .i64 state) ∧ w'.cell? ⟨h, 3, none⟩ = some (.int .i64 (gn : Int)) ∧ w'.cell? ⟨h, 4, none⟩ = some (.bool lev) ∧ w'.cell? ⟨h, 5, none⟩ = some (.int .i64 cab) ∧ w'.cell? ⟨h, 6, none⟩ = some (.int .i64 cat) ∧ w'.cell? ⟨h, 7, none⟩ = some (.int .i64 (f : Int)) ∧ w'.cell? ⟨h, 8, none⟩ = some (.int .i64 (t : Int)) ∧ w'.cell? ⟨h, 9, none⟩ = some (.int .i64 til)))) (by kernel_rfl) (HSB.out _ hbx) (fun hHeld => ?_)
    refine wpAnyH_take (i := 0) (v := ?v1) (gA rfl) (by kernel_rfl) (by kernel_rfl) (by kernel_rfl) (fun _ _ _ h => h) (Or.inl ⟨rfl, ?y1⟩) (by assumption) ?_
    case y1 => (intro w hSw; (try dsimp only at hSw); go_simp <;> with_reducible rfl)
    simp only [Act.put, List.setIfInBounds_toArray, List.set_cons_zero, List.set_cons_succ]
    refine wpAnyH_take (i := 1) (v := ?v2) (gA rfl) (by kernel_rfl) (by kernel_rfl) (by kernel_rfl) (fun _ _ _ h => h) (Or.inl ⟨rfl, ?y2⟩) (by assumption) ?_
    case y2 => (intro w hSw; (try dsimp only at hSw); go_simp <;> with_reducible rfl)
    simp only [Act.put, List.setIfInBounds_toArray, List.set_cons_zero, List.set_cons_succ]
    refine wpAnyH_take (i := 2) (v := ?v3) (gA rfl) (by kernel_rfl) (by kernel_rfl) (by kernel_rfl) (fun _ _ _ h => h) (Or.inl ⟨rfl, ?y3⟩) (by assumption) ?_
    case y3 => (intro w hSw; (try dsimp only at hSw); go_simp <;> with_reducible rfl)
    simp only [Act.put, List.setIfInBounds_toArray, List.set_cons_zero, List.set_cons_succ]
    refine wpAnyH_take (i := 3) (v := ?v4) (gA rfl) (by kernel_rfl) (by kernel_rfl) (by kernel_rfl) (fun _ _ _ h => h) (Or.inl ⟨rfl, ?y4⟩) (by assumption) ?_
    case y4 => (intro w hSw; (try dsimp only at hSw); go_simp <;> with_reducible rfl)
    simp only [Act.put, List.setIfInBounds_toArray, List.set_cons_zero, List.set_cons_succ]
    refine wpAnyH_take (i := 4) (v := ?v5) (gA rfl) (by kernel_rfl) (by kernel_rfl) (by kernel_rfl) (fun _ _ _ h => h) (Or.inl ⟨rfl, ?y5⟩) (by assumption) ?_
    case y5 => (intro w hSw; (try dsimp only at hSw); go_simp <;> with_reducible rfl)
    simp only [Act.put, List.setIfInBounds_toArray, List.set_cons_zero, List.set_cons_succ]
    refine wpAnyH_take (i := 5) (v := ?v6) (gA rfl) (by kernel_rfl) (by kernel_rfl) (by kernel_rfl) (fun _ _ _ h => h) (Or.inl ⟨rfl, ?y6⟩) (by assumption) ?_
    case y6 => (intro w hSw; (try dsimp only at hSw); go_simp <;> with_reducible rfl)
    simp only [Act.put, List.setIfInBounds_toArray, List.set_cons_zero, List.set_cons_succ]
    refine wpAnyH_take (i := 6) (v := ?v7) (gA rfl) (by kernel_rfl) (by kernel_rfl) (by kernel_rfl) (fun _ _ _ h => h) (Or.inl ⟨rfl, ?y7⟩) (by assumption) ?_
    case y7 => (intro w hSw; (try dsimp only at hSw); go_simp <;> with_reducible rfl)
    simp only [Act.put, List.setIfInBounds_toArray, List.set_cons_zero, List.set_cons_succ]
    refine wpAnyH_take (i := 7) (v := ?v8) (gA rfl) (by kernel_rfl) (by kernel_rfl) (by kernel_rfl) (fun _ _ _ h => h) (Or.inl ⟨rfl, ?y8⟩) (by assumption) ?_
    case y8 => (intro w hSw; (try dsimp only at hSw); go_simp <;> with_reducible rfl)
    simp only [Act.put, List.setIfInBounds_toArray, List.set_cons_zero, List.set_cons_succ]
    refine wpAnyH_take (i := 8) (v := ?v9) (gA rfl) (by kernel_rfl) (by kernel_rfl) (by kernel_rfl) (fun _ _ _ h => h) (Or.inl ⟨rfl, ?y9⟩) (by assumption) ?_
    case y9 => (intro w hSw; (try dsimp only at hSw); go_simp <;> with_reducible rfl)
    simp only [Act.put, List.setIfInBounds_toArray, List.set_cons_zero, List.set_cons_succ]
    refine wpAnyH_ready (rs := [9]) (by kernel_rfl) (by simp) (AllReadyH.cons (gA rfl) (fun K hK => ?_) AllReadyH.nil)
    go_simp
    (go_at_call 112; refine (HP.out _ (HSX.out _ hbx).fares).mono ?_; rintro e w5 ⟨rfl, hb5⟩; have hs5 := hbx.size; have hKx := hKx.trans (Kept.of_below hb5 (fun k hk hk2 => absurd hk2 (by omega))); replace hbx := hbx.trans (hb5.mono hbx.size); clear hb5)
    go_wp2_with fail
    refine hK.out _ _ ?_ (fun hHeld => ?_)
    · exact HSB.out _ hbx
    clear hK K
    try simp only [Act.put, List.setIfInBounds_toArray, List.set_cons_zero, List.set_cons_succ]
    refine wpAnyH_take (i := 10) (v := ?v11) (gA rfl) (by kernel_rfl) (by kernel_rfl) (by kernel_rfl) (fun _ _ _ h => h) (Or.inl ⟨rfl, ?y11⟩) (by assumption) ?_
    case y11 => (intro w hSw; (try dsimp only at hSw); go_simp <;> with_reducible rfl)
    simp only [Act.put, List.setIfInBounds_toArray, List.set_cons_zero, List.set_cons_succ]
    refine wpAnyH_ready (rs := [11]) (by kernel_rfl) (by simp) (AllReadyH.cons (gA rfl) (fun K hK => ?_) AllReadyH.nil)
    go_simp
    refine hK.out _ _ ?_ (fun hHeld => ?_)
    · exact HSB.out _ (hbx.alloc hbx.size _)
    clear hK K
    try simp only [Act.put, List.setIfInBounds_toArray, List.set_cons_zero, List.set_cons_succ]
    have hq1 := freshB hbx #[.int .i64 x.day, .int .i64 1, .int .i64 pr] 77
    have hH5 := HH.out _ (hbx.alloc hbx.size (.cells #[.int .i64 x.day, .int .i64 1, .int .i64 pr] 77))
    have hG5 := HG.out _ (hbx.alloc hbx.size (.cells #[.int .i64 x.day, .int .i64 1, .int .i64 pr] 77))
    have hhl := (HH.out _ hbx).lt
    have hqh : w5.heap.size ≠ h := by omega
    have hfr := hH5.free 10
    have m10 := hH5.cell (j := 10) rfl
    have hKy := hKx.alloc (.cells #[.int .i64 x.day, .int .i64 1, .int .i64 pr] 77)
    obtain ⟨qn, hqn⟩ : ∃ q, q = w5.heap.size := ⟨_, rfl⟩
    rw [← hqn] at hq1 hqh ⊢
    obtain ⟨w6, hw6⟩ : ∃ V, V = w5.alloc (.cells #[.int .i64 x.day, .int .i64 1, .int .i64 pr] 77) := ⟨_, rfl⟩
    rw [← hw6] at hq1 hH5 hG5 m10 hfr hKy hHeld ⊢
    have HQN := Lib.hid hqn
    have HW6 := Lib.hid hw6
    clear hqn hw6
    refine wpAnyH_take (i := 12) (v := ?v13) (gA rfl) (by kernel_rfl) (by kernel_rfl) (by kernel_rfl) (fun _ _ _ h => h) (Or.inl ⟨rfl, ?y13⟩) (by assumption) ?_
    case y13 => (intro w hSw; (try dsimp only at hSw); go_simp <;> with_reducible rfl)
    simp only [Act.put, List.setIfInBounds_toArray, List.set_cons_zero, List.set_cons_succ]
    refine wpAnyH_ready (rs := [13]) (by kernel_rfl) (by simp) (AllReadyH.cons (gA rfl) (fun K hK => ?_) AllReadyH.nil)
    go_simp
    refine hK.out _ _ ?_ (fun hHeld => ?_)
    · exact ⟨⟨(hG5.other (p := ⟨h, 10, none⟩) (fun e => hgh e.symm) _).cell rfl, (hG5.other (p := ⟨h, 10, none⟩) (fun e => hgh e.symm) _).cell rfl, (hG5.other (p := ⟨h, 10, none⟩) (fun e => hgh e.symm) _).cell rfl, (hG5.other (p := ⟨h, 10, none⟩) (fun e => hgh e.symm) _).cell rfl, (hG5.other (p := ⟨h, 10, none⟩) (fun e => hgh e.symm) _).cell rfl, (hG5.other (p := ⟨h, 10, none⟩) (fun e => hgh e.symm) _).cell rfl⟩, (hH5.set _).cell rfl, (hH5.set _).cell rfl, (hH5.set _).cell rfl, (hH5.set _).cell rfl, (hH5.set _).cell rfl, (hH5.set _).cell rfl, (hH5.set _).cell rfl, (hH5.set _).cell rfl, (hH5.set _).cell rfl, (hH5.set _).cell rfl⟩
    clear hK K
    try simp only [Act.put, List.setIfInBounds_toArray, List.set_cons_zero, List.set_cons_succ]
    have p1 := hH5.set (j := 10) (.slice (some ⟨qn, 0, none⟩) 1 1)
    have p2 := hq1.other (p := ⟨h, 10, none⟩) (fun e => hqh e.symm) (.slice (some ⟨qn, 0, none⟩) 1 1)
    have p3 := hKy.setCell (p := ⟨h, 10, none⟩) (.inl rfl) (.slice (some ⟨qn, 0, none⟩) 1 1)
    refine wpAnyH_done (by kernel_rfl) ?_ _
    clear hfr m10
    go_wp2_with fail
    go_meet
    exact ⟨rfl, _, by rw [HFB.out]; exact p1, p2, hqh, by rw [HQN.out]; have := hKx.size; omega, p3⟩
  obtain ⟨rfl, q, hHf, hQ, hqh, hqh2, hK⟩ := hcut
  obtain ⟨W5, hW5⟩ : ∃ V, V = wc := ⟨_, rfl⟩
  subst hW5
  have hbw4 := HT.out _ hb
  have hbw5 : Below w.heap.size w W5 := hbw4.trans (hK.below (B := w.heap.size) hbw4.size (fun k hk e => by omega))
  have hG5 := (HG.out _ hb).kept hK hgh
  have hZ5 := (HZ.out _ hb).kept hK (fun e => hhz e.symm)
  have HSX5 := Lib.hid (HS.out.bel hbw5)
  have hf5 : ∀ X, Blk X q #[.int .i64 x.day, .int .i64 1, .int .i64 pr] 77 → Sl entryC 3 X All (some ⟨q, 0, none⟩) 1 1 fb.fol := fun X hX => by
    rw [HFF.out]
    have hd := HDAY.out
    have hp := HPBD.out HBK.out
    exact sl_entryS hX (.of (by omega) (by omega)) (.of (by decide) (by decide)) (.of (by omega) (by omega))
  have HC := Lib.hid (HWB0.out (fun X => K X ∧ Blk X q #[.int .i64 x.day, .int .i64 1, .int .i64 pr] 77) q W5 (fun X hX => HKS.out X hX.1) (fun X hX => HKP.out X hX.1) (fun X hX => hf5 X hX.2) ⟨HKB.out w W5 HKW.out hbw5, hQ⟩ (HLS.out.bel hbw5) HHI.out)
  have HQL := Lib.hid (show w.heap.size ≤ q by have := hbw4.size; omega)
  have hqz : q ≠ z := fun e => hqh2 (e ▸ (HZ.out _ hb).lt)
  have HQ5 := Lib.hid hQ
  rw [HYE.out] at HC
  have HG5 := Lib.hid hG5
  have HH5 := Lib.hid hHf
  have HZ5 := Lib.hid hZ5
  have HBW5 := Lib.hid hbw5
  clear hbw5
  clear hHf hQ hqh hK hbw4 hG5 hZ5 hf5 hb
  go_upto_region 18 with (fail)
  go_cut [10] (fun p wx => ∃ y p2 q2, p = .pointer (some ⟨y, 0, none⟩) ∧ W5.heap.size ≤ y ∧ Blk wx y (saiA Y p2) 32 ∧ W5.heap.size ≤ q2 ∧ q2 < wx.heap.size ∧ (∀ X, K X → Blk X q #[.int .i64 x.day, .int .i64 1, .int .i64 pr] 77 → X.heap[q2]? = wx.heap[q2]? → SaiR X Y p2) ∧ Below W5.heap.size W5 wx)
  case first =>
    go_wp2_with (first | (refine wpList_load_row rfl 32 (.tmp 3) rfl g rfl 32 _ (0, 0) _ HG5.out Tryz.underlying32 rfl (by kernel_rfl) ?_) | (refine wpList_load_row rfl 42 (.tmp 4) rfl h rfl 42 _ (0, 0) _ HH5.out Tryz.underlying42 rfl (by kernel_rfl) ?_))
    refine HC.out.mono ?_
    rintro e w6 ⟨q6, p6, rfl, hq6, hq6l, hS6, hb6⟩
    have HS6 := Lib.hid hS6
    have HQ6 := Lib.hid hq6
    have HQ6L := Lib.hid hq6l
    have HB6 := Lib.hid hb6
    clear hb6
    clear hS6 hq6 hq6l
    go_wp2_with (refine wpList_store_row rfl 32 (.tmp 10) (.tmp 114) rfl w6.heap.size (saiA Y p6) rfl rfl 32 _ (Blk.new w6 #[.int .i64 0, .int .i64 0, .slice none 0 0, .slice none 0 0, .slice none 0 0, .int .i64 0, .int .i64 0, .slice none 0 0, .int .i64 0, .int .i64 0, .int .i64 0, .slice none 0 0, .bool false] 32) (by kernel_rfl) rfl (by simp [Value.oneCell']) ?_)
    go_meet
    have hk6 : Kept (fun k => k = w6.heap.size) (w6.alloc (.cells #[.int .i64 0, .int .i64 0, .slice none 0 0, .slice none 0 0, .slice none 0 0, .int .i64 0, .int .i64 0, .slice none 0 0, .int .i64 0, .int .i64 0, .int .i64 0, .slice none 0 0, .bool false] 32)) ((w6.alloc (.cells #[.int .i64 0, .int .i64 0, .slice none 0 0, .slice none 0 0, .slice none 0 0, .int .i64 0, .int .i64 0, .slice none 0 0, .int .i64 0, .int .i64 0, .int .i64 0, .slice none 0 0, .bool false] 32)).setRow w6.heap.size (saiA Y p6)) := (Kept.refl (fun k => k = w6.heap.size) _).setRow (.inl rfl) _
    have hb7 : Below w6.heap.size w6 ((w6.alloc (.cells #[.int .i64 0, .int .i64 0, .slice none 0 0, .slice none 0 0, .slice none 0 0, .int .i64 0, .int .i64 0, .slice none 0 0, .int .i64 0, .int .i64 0, .int .i64 0, .slice none 0 0, .bool false] 32)).setRow w6.heap.size (saiA Y p6)) := (bel1 w6 _).trans (hk6.below (B := w6.heap.size) (by simp) (fun k hk e => by omega))
    have hlt6 : q6 < w6.heap.size := HQ6L.out
    exact ⟨_, p6, q6, rfl, HB6.out.size, (Blk.new w6 _ _).row _, HQ6.out, Nat.lt_of_lt_of_le hlt6 hb7.size, fun X h1 h2 h3 => HS6.out X ⟨h1, h2⟩ (h3.trans (hb7.block q6 hlt6)), HB6.out.trans (hb7.mono HB6.out.size)⟩
  obtain ⟨y, p2, q2, rfl, hy, hYb, hq2, hq2l, hSY, hb6⟩ := hcut
  obtain ⟨W6, hW6⟩ : ∃ V, V = wc := ⟨_, rfl⟩
  subst hW6
  have hZ6 := HZ5.out.bel hb6
  have hbw6 := HBW5.out.trans (hb6.mono HBW5.out.size)
  have HQ6 := Lib.hid (HQ5.out.bel hb6)
  have HC := Lib.hid (HRM0.out p2 W6 (hSY W6 (HKB.out w W6 HKW.out hbw6) HQ6.out rfl) (by rw [HNB.out]; exact HN16.out) HBK.out)
  have hq2z : q2 ≠ z := fun e => by have := HZ5.out.lt; omega
  have hyz : y ≠ z := fun e => by have := HZ5.out.lt; omega
  have HYB := Lib.hid hYb
  have HSY := Lib.hid hSY
  have HZ6 := Lib.hid hZ6
  have HBW6 := Lib.hid hbw6
  clear hbw6
  clear hYb hSY hZ6 hb6
  go_wp2_with (refine wpList_load_row rfl 32 (.tmp 10) rfl y rfl 32 _ (0, 0) _ HYB.out Tryz.underlying32 rfl (by kernel_rfl) ?_)
  refine HC.out.mono ?_
  rintro e w8 ⟨rfl, hb8⟩
  have HY8 := Lib.hid (HYB.out.bel hb8)
  have HZ8 := Lib.hid (HZ6.out.bel hb8)
  have HQ8 := Lib.hid (HQ6.out.bel hb8)
  have HB8S := Lib.hid hb8.size
  have HH8 := Lib.hid (hb8.block q2 hq2l)
  have hbw8 := HBW6.out.trans (hb8.mono HBW6.out.size)
  have HBW8 := Lib.hid hbw8
  clear hbw8
  clear hb8 HC
  obtain rfl : R = rm := HRR.out
  have hKz := fun (us : Array Value) => (Kept.refl (fun k => k = z) w8).setRow (.inl rfl) us
  have HKZ := Lib.hid (fun (us : Array Value) => HBW8.out.trans ((hKz us).below (B := w.heap.size) HBW8.out.size (fun k hk e => by omega)))
  clear hKz
  by_cases q9 : R = 0
  rotate_left
  · have q9' : (R != 0) = true := by simpa using q9
    have Q9 := Lib.hid q9
    clear q9
    go_wp2_with (refine wpList_store_row rfl 32 (.tmp 6) (.tmp 119) rfl z (saiA zeroS zeroP) rfl rfl 32 _ HZ8.out (by kernel_rfl) rfl (by simp [Value.oneCell']) ?_)
    refine bodyPost_ret (v := .tuple #[.agg (saiA zeroS zeroP), .int .i64 R]) ((HZ8.out.row _).ret2 (k := 6) (u := 7) (by kernel_rfl) rfl rfl Tryz.underlying32 (by kernel_rfl) (by kernel_rfl)) rfl ?_
    exact ⟨⟨zeroS, zeroP, rfl, (okS_ne Q9.out _).symm, fun V _ _ => zeroS_rd V⟩, HKZ.out _⟩
  subst q9
  go_wp2_with (first | (refine wpList_load_row rfl 32 (.tmp 10) rfl y rfl 32 _ (0, 0) _ HY8.out Tryz.underlying32 rfl (by kernel_rfl) ?_) | (refine wpList_store_row rfl 32 (.tmp 6) (.tmp 121) rfl z (saiA Y p2) rfl rfl 32 _ HZ8.out (by kernel_rfl) rfl (by simp [Value.oneCell']) ?_))
  refine bodyPost_ret (v := .tuple #[.agg (saiA Y p2), .int .i64 0]) ((HZ8.out.row _).ret2 (k := 6) (u := 7) (by kernel_rfl) rfl rfl Tryz.underlying32 (by kernel_rfl) (by kernel_rfl)) rfl ?_
  have hqe := (HQ8.out.rowOther hqz (saiA Y p2)).lt
  have hqw : w.heap.size ≤ q := HQL.out
  have hq2e : q2 < (w8.setRow z (saiA Y p2)).heap.size := Nat.lt_of_lt_of_le hq2l (Nat.le_trans HB8S.out (Kept.setRow (Kept.refl (fun k => k = z) w8) (.inl rfl) (saiA Y p2)).size)
  have HQE := Lib.hid (show Blk (w8.setRow z (saiA Y p2)) q #[.int .i64 x.day, .int .i64 1, .int .i64 pr] 77 from HQ8.out.rowOther hqz (saiA Y p2))
  have HHE := Lib.hid (show (w8.setRow z (saiA Y p2)).heap[q2]? = W6.heap[q2]? from (setRow_other _ _ _ _ hq2z).trans HH8.out)
  exact ⟨⟨Y, p2, rfl, (okS_zero _).symm, fun V hV hsame => HSY.out V hV ((hsame q hqw hqe).trans HQE.out) ((hsame q2 (Nat.le_trans HBW5.out.size hq2) hq2e).trans HHE.out)⟩, HKZ.out _⟩
theorem SellOf_any (x : Sai) (p : SaiV) (b : Bkg) (A3 : Option Addr) (n3 c3 : Nat) (knd : Int) (w : World) (hS : SaiR w x p) (hf : Sl entryC 3 w All A3 n3 c3 b.fol) (hI : BkIn b) (ho : OkSai x) :
    Calls Tryz.prog 49 #[.agg (saiA x p), .agg (bkgA b (.slice A3 n3 c3)), .int .i64 knd] w fun e w' => ResR w' (sellE1 x b knd) (sellX x b) e ∧ Below w.heap.size w w' := by
  obtain ⟨L, hLs, hLp⟩ := hS.bks.raw bkgC_good
  refine (SellOf_K (fun V => Below w.heap.size w V) x p b A3 n3 c3 knd L w (fun V V' h1 h2 => h1.trans (h2.mono h1.size)) (fun V hV => hS.bel hV) (fun V hV => Pts.bel (size := 11) hLp hV) (Below.refl _ _) hLs hf hI ho).mono fun e w' ⟨⟨y, p', h1, h2, h3⟩, h4⟩ => ⟨⟨y, p', h1, h2, h3 w' h4 (fun b _ _ => rfl)⟩, h4⟩
end Go.Proofs.YtlablioefblmkaaGreat
namespace Go.Proofs.YtlablioefblmkaaGreat
open Go.RowKit Go.Shelf
def freeI (l : List Bkg) : Int := l.foldl (fun n b => if b.id = n then n + 1 else n) 1
theorem freeI_succ {l : List Bkg} {k : Nat} {b : Bkg} (h : l[k]? = some b) : freeI (l.take (k + 1)) = if b.id = freeI (l.take k) then freeI (l.take k) + 1 else freeI (l.take k) := by
  unfold freeI
  rw [take_snoc h, List.foldl_append]; rfl
theorem freeI_bd (l : List Bkg) : 1 ≤ freeI l ∧ freeI l ≤ 1 + l.length := by
  unfold freeI
  have key : ∀ (l : List Bkg) (n : Int), n ≤ l.foldl (fun n b => if b.id = n then n + 1 else n) n ∧ l.foldl (fun n b => if b.id = n then n + 1 else n) n ≤ n + l.length := by
    intro l
    induction l with
    | nil => intro n; simp
    | cons b l ih =>
      intro n
      rw [List.foldl_cons, List.length_cons]
      by_cases h : b.id = n
      · rw [if_pos h]; have := ih (n + 1); omega
      · rw [if_neg h]; have := ih n; omega
  have := key l 1
  omega
theorem freeI_law : ∀ (l : List Bkg) (n : Int), l.Pairwise (fun a b => a.id < b.id) → (∀ b ∈ l, n ≤ b.id) → (∀ t, n ≤ t → t < l.foldl (fun n b => if b.id = n then n + 1 else n) n → hasId l t = true) ∧ hasId l (l.foldl (fun n b => if b.id = n then n + 1 else n) n) = false
  | [], n, _, _ => ⟨fun t h1 h2 => by simp at h2; omega, rfl⟩
  | b :: l, n, hp, hn => by
    rw [List.pairwise_cons] at hp
    rw [List.foldl_cons]
    have hb := hn b (List.mem_cons_self ..)
    by_cases h : b.id = n
    · rw [if_pos h]
      obtain ⟨h1, h2⟩ := freeI_law l (n + 1) hp.2 (fun c hc => by have := hp.1 c hc; omega)
      have h3 : n + 1 ≤ l.foldl (fun n b => if b.id = n then n + 1 else n) (n + 1) := by
        clear h1 h2
        have key : ∀ (l : List Bkg) (n : Int), n ≤ l.foldl (fun n b => if b.id = n then n + 1 else n) n := by
          intro l
          induction l with
          | nil => intro n; simp
          | cons b l ih =>
            intro n
            rw [List.foldl_cons]
            by_cases h : b.id = n
            · rw [if_pos h]; have := ih (n + 1); omega
            · rw [if_neg h]; exact ih n
        exact key l _
      refine ⟨fun t t1 t2 => ?_, ?_⟩
      · unfold hasId
        rw [List.any_cons]
        by_cases ht : t = n
        · rw [decide_eq_true (by omega)]; rfl
        · have := h1 t (by omega) t2
          unfold hasId at this
          rw [this]; simp
      · unfold hasId at h2 ⊢
        rw [List.any_cons, h2, decide_eq_false (by omega)]; rfl
    · rw [if_neg h]
      have hn2 : ∀ c ∈ l, n + 1 ≤ c.id := fun c hc => by have := hp.1 c hc; omega
      have h0 : l.foldl (fun n b => if b.id = n then n + 1 else n) n = n := by
        clear hp hn hb h
        induction l with
        | nil => rfl
        | cons c l ih =>
          rw [List.foldl_cons, if_neg (by have := hn2 c (List.mem_cons_self ..); omega)]
          exact ih fun d hd => hn2 d (List.mem_cons_of_mem _ hd)
      rw [h0]
      refine ⟨fun t t1 t2 => absurd t2 (by omega), ?_⟩
      unfold hasId
      rw [List.any_cons, decide_eq_false h]
      simp only [Bool.false_or]
      refine List.any_eq_false.2 fun c hc => ?_
      have := hn2 c hc
      simp; omega
set_option maxRecDepth 100000 in
set_option maxHeartbeats 8000000 in
theorem free_any (x : Sai) (p : SaiV) (w : World) (hl : Sl bkgC 11 w All p.C p.nb p.cb x.bks) (h16 : x.bks.length ≤ 16) :
    Calls Tryz.prog 111 #[.agg (saiA x p)] w fun e w' => e = .returned (.int .i64 (freeI x.bks)) ∧ Below w.heap.size w w' := by
  obtain ⟨A, n, cap, B, m, cap2, D, nd, cd, E, ne, ce, C, nb, cb⟩ := p
  simp only at hl
  have hln : x.bks.length = nb := hl.len
  have HL := Lib.hid hl
  have HLN := Lib.hid hln
  have HL16 := Lib.hid (show nb ≤ 16 by omega)
  clear hl hln h16
  go_enter Tryz.func111, Tryz.ntmps111
  go_upto_region 0 with (fail)
  go_cut [1, 2] (fun p _ wx => ∃ g, p = .pointer (some ⟨g, 0, none⟩) ∧ Blk wx g (saiA x ⟨A, n, cap, B, m, cap2, D, nd, cd, E, ne, ce, C, nb, cb⟩) 32 ∧ Below w.heap.size w wx)
  case first => as_aux_lemma =>
    go_wp2_with fail
    go_meet
    exact ⟨_, rfl, blk1 _ _, bel1 _ _⟩
  obtain ⟨g, rfl, hG, hb⟩ := hcut
  have g11 : wc.cell? ⟨g, 11, none⟩ = some (.slice C nb cb) := hG.cell rfl
  clear hG
  go_wp2_with fail
  clear g11
  go_loopg [9, 3] nb (fun gk i c wr => ∃ k : Nat, k ≤ nb ∧ nb - k ≤ gk ∧ i = .int .i64 k ∧ c = .int .i64 (freeI (x.bks.take k)) ∧ Below w.heap.size w wr)
  case atStart => exact ⟨0, Nat.zero_le _, by omega, rfl, rfl, hb⟩
  case round =>
    clear hb
    obtain ⟨k, hk, hgk, rfl, rfl, hb⟩ := hrel
    obtain ⟨fr, hfr⟩ : ∃ f, f = freeI (x.bks.take k) := ⟨_, rfl⟩
    have hfb := freeI_bd (x.bks.take k)
    rw [← hfr] at hfb ⊢
    have hfb2 : fr ≤ 17 := by have h1 := List.length_take_le k x.bks; have := HL16.out; omega
    have hk16 : k ≤ 16 := by have := HL16.out; omega
    by_cases hlt : k < nb
    · skip
      obtain ⟨ab, off, ⟨id, kind, state, gst, lev, cab, cat, frm, upto, til, fol⟩, A3, n3, c3, hA, hx, hF, hI, hcel⟩ := (HL.out.bel hb).bkg hlt
      subst hA
      simp only at hF
      have y0 : wr.cell? ⟨ab, off + k * 11, none⟩ = some (.int .i64 id) := hcel 0 _ rfl
      have y1 : wr.cell? ⟨ab, off + k * 11 + 1, none⟩ = some (.int .i64 kind) := hcel 1 _ rfl
      have y2 : wr.cell? ⟨ab, off + k * 11 + 2, none⟩ = some (.int .i64 state) := hcel 2 _ rfl
      have y3 : wr.cell? ⟨ab, off + k * 11 + 3, none⟩ = some (.int .i64 gst) := hcel 3 _ rfl
      have y4 : wr.cell? ⟨ab, off + k * 11 + 4, none⟩ = some (.bool lev) := hcel 4 _ rfl
      have y5 : wr.cell? ⟨ab, off + k * 11 + 5, none⟩ = some (.int .i64 cab) := hcel 5 _ rfl
      have y6 : wr.cell? ⟨ab, off + k * 11 + 6, none⟩ = some (.int .i64 cat) := hcel 6 _ rfl
      have y7 : wr.cell? ⟨ab, off + k * 11 + 7, none⟩ = some (.int .i64 frm) := hcel 7 _ rfl
      have y8 : wr.cell? ⟨ab, off + k * 11 + 8, none⟩ = some (.int .i64 upto) := hcel 8 _ rfl
      have y9 : wr.cell? ⟨ab, off + k * 11 + 9, none⟩ = some (.int .i64 til) := hcel 9 _ rfl
      have y10 : wr.cell? ⟨ab, off + k * 11 + 10, none⟩ = some (.slice A3 n3 c3) := hcel 10 _ rfl
      clear hcel
      go_upto_region 4 with (fail)
      go_cut [5] (fun p wx => ∃ z, p = .pointer (some ⟨z, 0, none⟩) ∧ Blk wx z (bkgA ⟨id, kind, state, gst, lev, cab, cat, frm, upto, til, fol⟩ (.slice A3 n3 c3)) 42 ∧ Below wr.heap.size wr wx)
      case first => as_aux_lemma =>
        go_wp2_with fail
        go_meet
        exact ⟨_, rfl, blk1 _ _, bel1 _ _⟩
      obtain ⟨z, rfl, hZ, hbz⟩ := hcut
      clear y0 y1 y2 y3 y4 y5 y6 y7 y8 y9 y10
      replace hF := hF.bel hbz
      have HN := Lib.hid (freeI_succ hx)
      have z0 : wc.cell? ⟨z, 0, none⟩ = some (.int .i64 id) := hZ.cell rfl
      have HFR := Lib.hid hfr
      clear hfr
      clear hZ hF hx hI
      by_cases q : id = fr
      · subst q
        have hw : IntKind.i64.wrap (id + 1) = id + 1 := by rw [IntKind.wrap_i64]; omega
        go_wp2_with fail
        go_roundg (nb - (k + 1))
        case measure => omega
        case rel => exact ⟨k + 1, by omega, by omega, by go_num, by rw [HN.out, ← HFR.out, if_pos rfl], hb.trans (hbz.mono hb.size)⟩
      · have q' : (id == fr) = false := by simpa using q
        have Q := Lib.hid q
        clear q
        go_wp2_with fail
        go_roundg (nb - (k + 1))
        case measure => omega
        case rel => exact ⟨k + 1, by omega, by omega, by go_num, by rw [HN.out, ← HFR.out, if_neg Q.out], hb.trans (hbz.mono hb.size)⟩
    · obtain rfl : k = nb := by omega
      have HE := Lib.hid (show fr = freeI x.bks by rw [hfr, List.take_of_length_le (by rw [HLN.out]; exact Nat.le_refl _)])
      clear hfr
      go_wp2_with fail
      go_ret
      exact ⟨by rw [HE.out]; rfl, hb⟩
end Go.Proofs.YtlablioefblmkaaGreat
