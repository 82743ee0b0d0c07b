/-
  Words, laws and contracts: SellC, SellE, SellF.
-/
import Derived.Test.YtoilcdgpeilgaaaGreatBun22
import Derived.BigQuiet
set_option linter.unusedSimpArgs false
set_option linter.unusedVariables false
namespace Go.Proofs.YtoilcdgpeilgaaaGreat
open Go.RowKit Go.Shelf
def zeroS : Sai := ⟨⟨0, 0, [], []⟩, ⟨[], 0, 0, [], 0⟩, 0, 0, [], false⟩
abbrev zeroP : SaiV := ⟨none, 0, 0, none, 0, 0, none, 0, 0, none, 0, 0, none, 0, 0⟩
def okS (e : Int) (x : Sai) : Sai := if e = 0 then x else zeroS
theorem okS_zero (x : Sai) : okS 0 x = x := rfl
theorem okS_ne {e : Int} (h : ¬ e = 0) (x : Sai) : okS e x = zeroS := if_neg h
theorem zero_in : InI 0 := .of (by decide) (by decide)
theorem zeroS_own (w : World) (base : Nat) (h : base ≤ w.heap.size) : SaiO w base zeroS zeroP :=
  ⟨w, base, Nat.le_refl _, h, Nat.le_refl _, fun _ _ _ => rfl, ⟨⟨[], Own.nil _ _ _ _ _⟩, ⟨[], Own.nil _ _ _ _ _⟩, ⟨[], Own.nil _ _ _ _ _⟩, ⟨[], Own.nil _ _ _ _ _⟩, zero_in, zero_in, zero_in⟩, [], Own.nil _ _ _ _ _⟩
theorem Blk.ret2 {fn : Func} {k u : Tmp} {ty t : TypeId} (hf : fn.results = #[.cell k ty, .tmp u]) {tmps : Array Value} {w : World} {g : Nat} {cs : Array Value} {d : TypeDesc} (hg : Blk w g cs t) (hp : tmps.getD k undef = .pointer (some ⟨g, 0, none⟩)) {e : Value} (he : tmps.getD u undef = e)
    (hu : Tryz.prog.underlying ty = some d) (hd : (match d with | .struct _ | .array _ _ => true | _ => false) = true) (hi : (Tryz.prog.info? ty).map (·.size) = some cs.size) : (results fn tmps).run Tryz.prog w = .ok (.tuple #[.agg cs, e]) w := by
  have h' : w.heap[g]? = some (.cells cs t (0, 0)) := hg
  rw [results_cell_tmp (p := k) (u := u) (ty := ty) hf, hp, he]
  cases d <;> first | simp [asAddr, run_loadVar_row w g t ty cs (0, 0) _ h' hu rfl hi, Sem.run_pure] | simp at hd
noncomputable def sellE1 (x : Sai) (b : Bkg) (kind : Int) : Int := if b.kind ≠ kind ∨ b.state = 3 then 7 else if 0 < b.fol.length ∨ kind = 2 ∧ b.cab ≠ -1 then 1 else if ofE x.ship b ≠ 0 then ofE x.ship b else putE x b
noncomputable def sellE (x : Sai) (b : Bkg) (kind : Int) : Int := if saiE x ≠ 0 then saiE x else sellE1 x b kind
def sellX (x : Sai) (b : Bkg) : Sai := withS x (soldB x b)
def ResS (w' : World) (base : Nat) (E : Int) (X : Sai) (e : Ending) : Prop := ∃ y p', e = .returned (.tuple #[.agg (saiA y p'), .int .i64 E]) ∧ y = okS E X ∧ SaiO w' base y p'
set_option maxRecDepth 100000 in
set_option maxHeartbeats 16000000 in
theorem sell_any (x : Sai) (p : SaiV) (b : Bkg) (A3 : Option Addr) (n3 c3 : Nat) (knd : Int) (w : World) (hS : SaiR w x p) (hf : Sl entryC 3 w All A3 n3 c3 b.fol) (hI : BkIn b) :
    Calls Tryz.prog 87 #[.agg (saiA x p), .agg (bkgA b (.slice A3 n3 c3)), .int .i64 knd] w fun e w' => ResS w' w.heap.size (sellE x b knd) (sellX x b) e ∧ Below w.heap.size w w' := by
  have HCK0 := Lib.hid (fun X hX => saiCheck_any x p X hX)
  have HOW0 := Lib.hid (fun X h ho => stockOwn_any x p X h ho)
  have HPU0 := Lib.hid (fun w0 b0 p base z X h1 h2 h3 h4 ho hk => sput_any w0 b0 x p b A3 n3 c3 base z X h1 h2 h3 h4 ho hI hk)
  have HOF0 := Lib.hid (fun X hc hb ho hf => bookOf_any x.ship p.A p.n p.cap p.B p.m p.cap2 b A3 n3 c3 X hc hb ho hf)
  obtain ⟨r, hr⟩ : ∃ r, r = saiE x := ⟨_, rfl⟩
  obtain ⟨R, hR⟩ : ∃ r, r = sellE x b knd := ⟨_, rfl⟩
  obtain ⟨oe, hoe⟩ : ∃ r, r = ofE x.ship b := ⟨_, rfl⟩
  obtain ⟨pe, hpe⟩ : ∃ r, r = putE x b := ⟨_, rfl⟩
  obtain ⟨Y, hY⟩ : ∃ r, r = sellX x b := ⟨_, rfl⟩
  have hn3 := hf.len
  have HR := Lib.hid (show R = if r ≠ 0 then r else if b.kind ≠ knd ∨ b.state = 3 then 7 else if 0 < n3 ∨ knd = 2 ∧ b.cab ≠ -1 then 1 else if oe ≠ 0 then oe else pe by rw [hR, hr, hoe, hpe, ← hn3]; rfl)
  rw [← hr] at HCK0
  rw [← hoe] at HOF0
  rw [← hpe] at HPU0
  rw [← hR, ← hY]
  have HYE := Lib.hid (show withS x (soldB x b) = Y from hY.symm)
  rw [HYE.out] at HPU0
  have HRE := Lib.hid hr
  have HOE := Lib.hid hoe
  have HS := Lib.hid hS
  have HF := Lib.hid hf
  clear hr hR hoe hpe hY hn3
  obtain ⟨A, n, cap, B, m, cap2, D, nd, cd, E, ne, ce, C, nb, cb⟩ := p
  obtain ⟨id, kind, state, gst, lev, cab, cat, frm, upto, til, fol⟩ := b
  simp only at HOF0 HR
  clear hS hf hI
  go_enter Tryz.func87, Tryz.ntmps87
  go_upto_region 0 with (fail)
  go_cut [3, 4, 6, 7] (fun p p2 p3 p4 wx => ∃ g h z, p = .pointer (some ⟨g, 0, none⟩) ∧ p2 = .pointer (some ⟨h, 0, none⟩) ∧ p3 = .pointer (some ⟨z, 0, none⟩) ∧ p4 = .int .i64 0 ∧ w.heap.size ≤ g ∧ w.heap.size ≤ h ∧ w.heap.size ≤ z ∧ Blk wx g (saiA x ⟨A, n, cap, B, m, cap2, D, nd, cd, E, ne, ce, C, nb, cb⟩) 32 ∧ Blk wx h (bkgA ⟨id, kind, state, gst, lev, cab, cat, frm, upto, til, fol⟩ (.slice A3 n3 c3)) 37 ∧ Blk wx z #[.int .i64 0, .int .i64 0, .slice none 0 0, .slice none 0 0, .slice none 0 0, .int .i64 0, .int .i64 0, .slice none 0 0, .int .i64 0, .int .i64 0, .int .i64 0, .slice none 0 0, .bool false] 32 ∧ Below w.heap.size w wx)
  case first => as_aux_lemma =>
    go_wp2_with fail
    go_meet
    exact ⟨_, _, _, rfl, rfl, rfl, rfl, Nat.le_refl _, by omega, by omega, blk3_0 _ _ _ _, blk3_1 _ _ _ _, blk3_2 _ _ _ _, bel3 _ _ _ _⟩
  obtain ⟨g, h, z, rfl, rfl, rfl, rfl, hg, hh, hz, hG, hH, hZ, hb0⟩ := hcut
  obtain ⟨W1, hW1⟩ : ∃ V, V = wc := ⟨_, rfl⟩
  subst hW1
  have HT := Lib.hid (fun X (hX : Below W1.heap.size W1 X) => hb0.trans (hX.mono hb0.size))
  have HG := Lib.hid (fun X (hX : Below W1.heap.size W1 X) => hG.bel hX)
  have HH := Lib.hid (fun X (hX : Below W1.heap.size W1 X) => hH.bel hX)
  have HZ := Lib.hid (fun X (hX : Below W1.heap.size W1 X) => hZ.bel hX)
  have HSX := Lib.hid (fun X (hX : Below W1.heap.size W1 X) => HS.out.bel (HT.out X hX))
  have HFX := Lib.hid (fun X (hX : Below W1.heap.size W1 X) => HF.out.bel (HT.out X hX))
  have HEND := Lib.hid (show ∀ (E' : Int) X, ¬ E' = 0 → Below W1.heap.size W1 X → ResS (X.setRow z (saiA zeroS zeroP)) w.heap.size E' Y (.returned (.tuple #[.agg (saiA zeroS zeroP), .int .i64 E'])) ∧ Below w.heap.size w (X.setRow z (saiA zeroS zeroP)) from fun E' X h0 hX => by
    have hbz : Below w.heap.size w (X.setRow z (saiA zeroS zeroP)) := ((HT.out X hX).trans (((Kept.refl (fun k => k = z) X).setRow (.inl rfl) _).below (B := w.heap.size) (HT.out X hX).size (fun k hk e => by omega)))
    exact ⟨⟨zeroS, zeroP, rfl, (okS_ne h0 _).symm, zeroS_own _ _ hbz.size⟩, hbz⟩)
  have hb : Below W1.heap.size W1 W1 := Below.refl _ _
  have hszW := hb0.size
  clear hG hH hZ hb0
  have HC := Lib.hid (HCK0.out _ (HSX.out _ hb))
  go_wp2_with (first | (refine wpList_load_row rfl 32 (.tmp 3) rfl g rfl 32 _ (0, 0) _ (HG.out _ hb) Tryz.underlying32 rfl (by kernel_rfl) ?_) | (refine wpList_load_row rfl 37 (.tmp 4) rfl h rfl 37 _ (0, 0) _ (HH.out _ hb) Tryz.underlying37 rfl (by kernel_rfl) ?_) | (refine wpList_store_row rfl 32 (.tmp 6) (.tmp 46) rfl z (saiA zeroS zeroP) rfl rfl 32 _ (HZ.out _ hb) (by kernel_rfl) rfl (by simp [Value.oneCell']) ?_) | (refine wpList_store_row rfl 32 (.tmp 6) (.tmp 57) rfl z (saiA zeroS zeroP) rfl rfl 32 _ (HZ.out _ hb) (by kernel_rfl) rfl (by simp [Value.oneCell']) ?_))
  refine HC.out.mono ?_
  rintro e w1 ⟨rfl, hb1⟩
  replace hb := hb.trans (hb1.mono hb.size)
  clear hb1 HC HCK0
  by_cases q0 : r = 0
  rotate_left
  · obtain rfl : R = r := by rw [HR.out, if_pos q0]
    have q0' : (R != 0) = true := by simpa using q0
    have Q0 := Lib.hid q0
    clear q0
    go_wp2_with (first | (refine wpList_load_row rfl 32 (.tmp 3) rfl g rfl 32 _ (0, 0) _ (HG.out _ hb) Tryz.underlying32 rfl (by kernel_rfl) ?_) | (refine wpList_load_row rfl 37 (.tmp 4) rfl h rfl 37 _ (0, 0) _ (HH.out _ hb) Tryz.underlying37 rfl (by kernel_rfl) ?_) | (refine wpList_store_row rfl 32 (.tmp 6) (.tmp 46) rfl z (saiA zeroS zeroP) rfl rfl 32 _ (HZ.out _ hb) (by kernel_rfl) rfl (by simp [Value.oneCell']) ?_) | (refine wpList_store_row rfl 32 (.tmp 6) (.tmp 57) rfl z (saiA zeroS zeroP) rfl rfl 32 _ (HZ.out _ hb) (by kernel_rfl) rfl (by simp [Value.oneCell']) ?_))
    refine bodyPost_ret (v := .tuple #[.agg (saiA zeroS zeroP), .int .i64 R]) (((HZ.out _ hb).row _).ret2 (k := 6) (u := 7) (by kernel_rfl) rfl rfl Tryz.underlying32 (by kernel_rfl) (by kernel_rfl)) rfl ?_
    exact HEND.out _ _ Q0.out hb
  have HOK := Lib.hid (sai_ok (HRE.out.symm.trans q0))
  have HR1 := Lib.hid (HR.out.trans (if_neg (by rw [q0]; simp)))
  subst q0
  have h1 : w1.cell? ⟨h, 1, none⟩ = some (.int .i64 kind) := (HH.out _ hb).cell rfl
  have h2 : w1.cell? ⟨h, 2, none⟩ = some (.int .i64 state) := (HH.out _ hb).cell rfl
  have h5 : w1.cell? ⟨h, 5, none⟩ = some (.int .i64 cab) := (HH.out _ hb).cell rfl
  have h10 : w1.cell? ⟨h, 10, none⟩ = some (.slice A3 n3 c3) := (HH.out _ hb).cell rfl
  by_cases q1 : kind = knd
  rotate_left
  · obtain rfl : R = 7 := by rw [HR1.out, if_pos (.inl q1)]
    have q1' : (kind != knd) = true := by simpa using q1
    clear q1
    go_wp2_with (first | (refine wpList_load_row rfl 32 (.tmp 3) rfl g rfl 32 _ (0, 0) _ (HG.out _ hb) Tryz.underlying32 rfl (by kernel_rfl) ?_) | (refine wpList_load_row rfl 37 (.tmp 4) rfl h rfl 37 _ (0, 0) _ (HH.out _ hb) Tryz.underlying37 rfl (by kernel_rfl) ?_) | (refine wpList_store_row rfl 32 (.tmp 6) (.tmp 46) rfl z (saiA zeroS zeroP) rfl rfl 32 _ (HZ.out _ hb) (by kernel_rfl) rfl (by simp [Value.oneCell']) ?_) | (refine wpList_store_row rfl 32 (.tmp 6) (.tmp 57) rfl z (saiA zeroS zeroP) rfl rfl 32 _ (HZ.out _ hb) (by kernel_rfl) rfl (by simp [Value.oneCell']) ?_))
    refine bodyPost_ret (v := .tuple #[.agg (saiA zeroS zeroP), .int .i64 7]) (((HZ.out _ hb).row _).ret2 (k := 6) (u := 7) (by kernel_rfl) rfl rfl Tryz.underlying32 (by kernel_rfl) (by kernel_rfl)) rfl ?_
    exact HEND.out _ _ (by decide) hb
  by_cases q2 : state = 3
  · obtain rfl : R = 7 := by rw [HR1.out, if_pos (.inr q2)]
    subst q1 q2
    go_wp2_with (first | (refine wpList_load_row rfl 32 (.tmp 3) rfl g rfl 32 _ (0, 0) _ (HG.out _ hb) Tryz.underlying32 rfl (by kernel_rfl) ?_) | (refine wpList_load_row rfl 37 (.tmp 4) rfl h rfl 37 _ (0, 0) _ (HH.out _ hb) Tryz.underlying37 rfl (by kernel_rfl) ?_) | (refine wpList_store_row rfl 32 (.tmp 6) (.tmp 46) rfl z (saiA zeroS zeroP) rfl rfl 32 _ (HZ.out _ hb) (by kernel_rfl) rfl (by simp [Value.oneCell']) ?_) | (refine wpList_store_row rfl 32 (.tmp 6) (.tmp 57) rfl z (saiA zeroS zeroP) rfl rfl 32 _ (HZ.out _ hb) (by kernel_rfl) rfl (by simp [Value.oneCell']) ?_))
    refine bodyPost_ret (v := .tuple #[.agg (saiA zeroS zeroP), .int .i64 7]) (((HZ.out _ hb).row _).ret2 (k := 6) (u := 7) (by kernel_rfl) rfl rfl Tryz.underlying32 (by kernel_rfl) (by kernel_rfl)) rfl ?_
    exact HEND.out _ _ (by decide) hb
  have HR2 := Lib.hid (HR1.out.trans (if_neg (by simp [q1, q2])))
  have q2' : (state == 3) = false := by simpa using q2
  subst q1
  clear q2
  obtain ⟨tv, htv⟩ : ∃ tv, tv = (decide (0 < n3) || (decide (kind = 2) && decide (cab ≠ -1))) := ⟨_, rfl⟩
  have HTV := Lib.hid htv
  clear htv
  go_upto_region 6 with (fail)
  go_cut [30] (fun p wx => p = .bool tv ∧ wx = w1)
  case first => as_aux_lemma =>
    by_cases q3 : 0 < n3
    · obtain rfl : tv = true := by rw [HTV.out, decide_eq_true q3]; rfl
      have q3' : decide (0 < n3) = true := decide_eq_true q3
      clear q3
      go_wp2_with fail
      go_meet
      exact ⟨rfl, rfl⟩
    have q3' : decide (0 < n3) = false := decide_eq_false q3
    by_cases q4 : kind = 2
    · obtain rfl : tv = decide (cab ≠ -1) := by rw [HTV.out, decide_eq_false q3, decide_eq_true q4]; simp
      clear q3
      subst q4
      by_cases q5 : cab = -1
      · subst q5
        go_wp2_with fail
        go_meet
        exact ⟨by simp, rfl⟩
      · have q5' : (cab != -1) = true := by simpa using q5
        have q6 : decide (cab ≠ -1) = true := decide_eq_true q5
        have Q6 := Lib.hid q6
        clear q5 q6
        go_wp2_with fail
        go_meet
        exact ⟨by rw [Q6.out], rfl⟩
    · obtain rfl : tv = false := by rw [HTV.out, decide_eq_false q3, decide_eq_false q4]; rfl
      have q4' : (kind == 2) = false := by simpa using q4
      clear q3 q4
      go_wp2_with fail
      go_meet
      exact ⟨rfl, rfl⟩
  obtain ⟨rfl, rfl⟩ := hcut
  cases tv
  rotate_left
  · obtain rfl : R = 1 := by
      rw [HR2.out]
      have h := HTV.out
      refine if_pos ?_
      by_cases q3 : 0 < n3
      · exact .inl q3
      · rw [decide_eq_false q3] at h
        simp only [Bool.false_or] at h
        have h4 := Bool.and_eq_true_iff.1 h.symm
        exact .inr ⟨of_decide_eq_true h4.1, of_decide_eq_true h4.2⟩
    go_wp2_with (first | (refine wpList_load_row rfl 32 (.tmp 3) rfl g rfl 32 _ (0, 0) _ (HG.out _ hb) Tryz.underlying32 rfl (by kernel_rfl) ?_) | (refine wpList_load_row rfl 37 (.tmp 4) rfl h rfl 37 _ (0, 0) _ (HH.out _ hb) Tryz.underlying37 rfl (by kernel_rfl) ?_) | (refine wpList_store_row rfl 32 (.tmp 6) (.tmp 46) rfl z (saiA zeroS zeroP) rfl rfl 32 _ (HZ.out _ hb) (by kernel_rfl) rfl (by simp [Value.oneCell']) ?_) | (refine wpList_store_row rfl 32 (.tmp 6) (.tmp 57) rfl z (saiA zeroS zeroP) rfl rfl 32 _ (HZ.out _ hb) (by kernel_rfl) rfl (by simp [Value.oneCell']) ?_))
    refine bodyPost_ret (v := .tuple #[.agg (saiA zeroS zeroP), .int .i64 1]) (((HZ.out _ hb).row _).ret2 (k := 6) (u := 7) (by kernel_rfl) rfl rfl Tryz.underlying32 (by kernel_rfl) (by kernel_rfl)) rfl ?_
    exact HEND.out _ _ (by decide) hb
  have HR3 := Lib.hid (show R = if oe ≠ 0 then oe else pe from HR2.out.trans (if_neg (by
    have h := HTV.out
    intro h2
    rcases h2 with h2 | ⟨h2, h3⟩
    · rw [decide_eq_true h2] at h; cases h
    · rw [decide_eq_true h2, decide_eq_true h3] at h; simp at h)))
  have g0 : wc.cell? ⟨g, 0, none⟩ = some (.int .i64 x.ship.legs) := (HG.out _ hb).cell rfl
  have g1 : wc.cell? ⟨g, 1, none⟩ = some (.int .i64 x.ship.souls) := (HG.out _ hb).cell rfl
  have g2 : wc.cell? ⟨g, 2, none⟩ = some (.slice A n cap) := (HG.out _ hb).cell rfl
  have g3 : wc.cell? ⟨g, 3, none⟩ = some (.slice B m cap2) := (HG.out _ hb).cell rfl
  have HC := Lib.hid (HOF0.out _ (HSX.out _ hb).cats (HSX.out _ hb).cabs HOK.out.bs.ship (HFX.out _ hb))
  clear h1 h2 h5 h10
  go_wp2_with (first | (refine wpList_load_row rfl 32 (.tmp 3) rfl g rfl 32 _ (0, 0) _ (HG.out _ hb) Tryz.underlying32 rfl (by kernel_rfl) ?_) | (refine wpList_load_row rfl 37 (.tmp 4) rfl h rfl 37 _ (0, 0) _ (HH.out _ hb) Tryz.underlying37 rfl (by kernel_rfl) ?_) | (refine wpList_store_row rfl 32 (.tmp 6) (.tmp 46) rfl z (saiA zeroS zeroP) rfl rfl 32 _ (HZ.out _ hb) (by kernel_rfl) rfl (by simp [Value.oneCell']) ?_) | (refine wpList_store_row rfl 32 (.tmp 6) (.tmp 57) rfl z (saiA zeroS zeroP) rfl rfl 32 _ (HZ.out _ hb) (by kernel_rfl) rfl (by simp [Value.oneCell']) ?_))
  refine HC.out.mono ?_
  rintro e w2 ⟨rfl, hb1⟩
  replace hb := hb.trans (hb1.mono hb.size)
  clear hb1 HC HOF0 g0 g1 g2 g3
  by_cases q6 : oe = 0
  rotate_left
  · obtain rfl : R = oe := by rw [HR3.out, if_pos q6]
    have q6' : (R != 0) = true := by simpa using q6
    have Q6 := Lib.hid q6
    clear q6
    go_wp2_with (first | (refine wpList_load_row rfl 32 (.tmp 3) rfl g rfl 32 _ (0, 0) _ (HG.out _ hb) Tryz.underlying32 rfl (by kernel_rfl) ?_) | (refine wpList_load_row rfl 37 (.tmp 4) rfl h rfl 37 _ (0, 0) _ (HH.out _ hb) Tryz.underlying37 rfl (by kernel_rfl) ?_) | (refine wpList_store_row rfl 32 (.tmp 6) (.tmp 46) rfl z (saiA zeroS zeroP) rfl rfl 32 _ (HZ.out _ hb) (by kernel_rfl) rfl (by simp [Value.oneCell']) ?_) | (refine wpList_store_row rfl 32 (.tmp 6) (.tmp 57) rfl z (saiA zeroS zeroP) rfl rfl 32 _ (HZ.out _ hb) (by kernel_rfl) rfl (by simp [Value.oneCell']) ?_))
    refine bodyPost_ret (v := .tuple #[.agg (saiA zeroS zeroP), .int .i64 R]) (((HZ.out _ hb).row _).ret2 (k := 6) (u := 7) (by kernel_rfl) rfl rfl Tryz.underlying32 (by kernel_rfl) (by kernel_rfl)) rfl ?_
    exact HEND.out _ _ Q6.out hb
  have HBK := Lib.hid (bk_ok (HOE.out.symm.trans q6))
  obtain rfl : R = pe := by rw [HR3.out, if_neg (by rw [q6]; simp)]
  subst q6
  have HC := Lib.hid (HOW0.out _ (HSX.out _ hb) HOK.out)
  have hsz2 := hb.size
  go_upto_region 10 with (fail)
  go_cut [9] (fun q wx => ∃ (y : Nat) (p3 : SaiV) (w0 : World) (b0 : Nat), q = .pointer (some ⟨y, 0, none⟩) ∧ Blk wx y (saiA x p3) 216 ∧ SaiW w0 b0 wx w2.heap.size x p3 ∧ w0.heap.size ≤ y ∧ Below w2.heap.size w2 wx)
  case first =>
    go_wp2_with (first | (refine wpList_load_row rfl 32 (.tmp 3) rfl g rfl 32 _ (0, 0) _ (HG.out _ hb) Tryz.underlying32 rfl (by kernel_rfl) ?_) | (refine wpList_load_row rfl 37 (.tmp 4) rfl h rfl 37 _ (0, 0) _ (HH.out _ hb) Tryz.underlying37 rfl (by kernel_rfl) ?_) | (refine wpList_store_row rfl 32 (.tmp 6) (.tmp 46) rfl z (saiA zeroS zeroP) rfl rfl 32 _ (HZ.out _ hb) (by kernel_rfl) rfl (by simp [Value.oneCell']) ?_) | (refine wpList_store_row rfl 32 (.tmp 6) (.tmp 57) rfl z (saiA zeroS zeroP) rfl rfl 32 _ (HZ.out _ hb) (by kernel_rfl) rfl (by simp [Value.oneCell']) ?_))
    refine HC.out.mono ?_
    rintro e w3 ⟨p3, rfl, hO3, hb3⟩
    obtain ⟨w0, b0, hW3⟩ := hO3
    have HW3 := Lib.hid hW3
    clear hW3
    have HB3 := Lib.hid hb3
    clear hb3
    go_wp2_with fail
    go_meet
    exact ⟨_, p3, w0, b0, rfl, blk1 _ _, HW3.out.bel (bel1 _ _), by obtain ⟨_, _, a3, _⟩ := HW3.out; exact a3, HB3.out.trans ((bel1 _ _).mono HB3.out.size)⟩
  obtain ⟨y, p3, w0, b0, rfl, hYb, hW4, hw0, hb3⟩ := hcut
  obtain ⟨w4, hw4⟩ : ∃ V, V = wc := ⟨_, rfl⟩
  subst hw4
  have hsz4 := hb3.size
  replace hb := hb.trans (hb3.mono hb.size)
  have HC := Lib.hid (HPU0.out w0 b0 p3 _ y w4 hW4 hsz4 hYb hw0 HOK.out HBK.out)
  clear hW4 hYb hb3 HPU0
  go_wp2_with (first | (refine wpList_load_row rfl 32 (.tmp 3) rfl g rfl 32 _ (0, 0) _ (HG.out _ hb) Tryz.underlying32 rfl (by kernel_rfl) ?_) | (refine wpList_load_row rfl 37 (.tmp 4) rfl h rfl 37 _ (0, 0) _ (HH.out _ hb) Tryz.underlying37 rfl (by kernel_rfl) ?_) | (refine wpList_store_row rfl 32 (.tmp 6) (.tmp 46) rfl z (saiA zeroS zeroP) rfl rfl 32 _ (HZ.out _ hb) (by kernel_rfl) rfl (by simp [Value.oneCell']) ?_) | (refine wpList_store_row rfl 32 (.tmp 6) (.tmp 57) rfl z (saiA zeroS zeroP) rfl rfl 32 _ (HZ.out _ hb) (by kernel_rfl) rfl (by simp [Value.oneCell']) ?_))
  refine HC.out.mono ?_
  rintro e w5 ⟨rfl, hok, hb5⟩
  have hbE : Below w2.heap.size w4 w5 := hb5
  replace hb := hb.trans (hb5.mono (show W1.heap.size ≤ w2.heap.size from hsz2))
  clear hb5 HC
  have HOKK := Lib.hid hok
  clear hok
  by_cases q7 : R = 0
  rotate_left
  · have q7' : (R != 0) = true := by simpa using q7
    have Q7 := Lib.hid q7
    clear q7
    go_wp2_with (first | (refine wpList_load_row rfl 32 (.tmp 3) rfl g rfl 32 _ (0, 0) _ (HG.out _ hb) Tryz.underlying32 rfl (by kernel_rfl) ?_) | (refine wpList_load_row rfl 37 (.tmp 4) rfl h rfl 37 _ (0, 0) _ (HH.out _ hb) Tryz.underlying37 rfl (by kernel_rfl) ?_) | (refine wpList_store_row rfl 32 (.tmp 6) (.tmp 46) rfl z (saiA zeroS zeroP) rfl rfl 32 _ (HZ.out _ hb) (by kernel_rfl) rfl (by simp [Value.oneCell']) ?_) | (refine wpList_store_row rfl 32 (.tmp 6) (.tmp 57) rfl z (saiA zeroS zeroP) rfl rfl 32 _ (HZ.out _ hb) (by kernel_rfl) rfl (by simp [Value.oneCell']) ?_))
    refine bodyPost_ret (v := .tuple #[.agg (saiA zeroS zeroP), .int .i64 R]) (((HZ.out _ hb).row _).ret2 (k := 6) (u := 7) (by kernel_rfl) rfl rfl Tryz.underlying32 (by kernel_rfl) (by kernel_rfl)) rfl ?_
    exact HEND.out _ _ Q7.out hb
  obtain ⟨p9, hY9, hW9⟩ := HOKK.out q7
  subst q7
  have HY9 := Lib.hid hY9
  have HW9 := Lib.hid hW9
  clear hW9
  clear hY9
  go_wp2_with (first | (refine wpList_load_row rfl 32 (.tmp 61) rfl y rfl 216 _ (0, 0) _ HY9.out Tryz.underlying32 rfl (by kernel_rfl) ?_) | (refine wpList_store_row rfl 32 (.tmp 6) (.tmp 62) rfl z (saiA Y p9) rfl rfl 32 _ (HZ.out _ hb) (by kernel_rfl) rfl (by simp [Value.oneCell']) ?_))
  refine bodyPost_ret (v := .tuple #[.agg (saiA Y p9), .int .i64 0]) (((HZ.out _ hb).row _).ret2 (k := 6) (u := 7) (by kernel_rfl) rfl rfl Tryz.underlying32 (by kernel_rfl) (by kernel_rfl)) rfl ?_
  have hKz : Kept (fun k => k = z) w5 (w5.setRow z (saiA Y p9)) := (Kept.refl (fun k => k = z) w5).setRow (.inl rfl) _
  have hzW : z < W1.heap.size := (HZ.out W1 (Below.refl _ _)).lt
  have hbz := ((HT.out _ hb).trans (hKz.below (B := w.heap.size) (HT.out _ hb).size (fun k hk e => by omega)))
  have hO9 : SaiO w5 w2.heap.size Y p9 := ⟨w0, b0, HW9.out⟩
  exact ⟨⟨Y, p9, rfl, (okS_zero _).symm, (hO9.kept hKz (fun k hk e => by omega)).mono (by omega)⟩, hbz⟩
set_option maxRecDepth 100000 in
set_option maxHeartbeats 8000000 in
theorem Named_any (x : Sai) (p : SaiV) (b : Bkg) (A3 : Option Addr) (n3 c3 : Nat) (w : World) (hS : SaiR w x p) (hf : Sl entryC 3 w All A3 n3 c3 b.fol) (hI : BkIn b) :
    Calls Tryz.prog 21 #[.agg (saiA x p), .agg (bkgA b (.slice A3 n3 c3))] w fun e w' => ResS w' w.heap.size (sellE x b 1) (sellX x b) e ∧ Below w.heap.size w w' := by
  have HC0 := Lib.hid (fun X h1 h2 => sell_any x p b A3 n3 c3 1 X h1 h2 hI)
  obtain ⟨A, n, cap, B, m, cap2, D, nd, cd, E, ne, ce, C, nb, cb⟩ := p
  obtain ⟨id, kind, state, gst, lev, cab, cat, frm, upto, til, fol⟩ := b
  go_enter Tryz.func21, Tryz.ntmps21
  go_upto_region 0 with (fail)
  go_cut [2, 3, 4, 5] (fun p p2 p3 p4 wx => ∃ g h z, p = .pointer (some ⟨g, 0, none⟩) ∧ p2 = .pointer (some ⟨h, 0, none⟩) ∧ p3 = .pointer (some ⟨z, 0, none⟩) ∧ p4 = .int .i64 0 ∧ w.heap.size ≤ z ∧ Blk wx g (saiA x ⟨A, n, cap, B, m, cap2, D, nd, cd, E, ne, ce, C, nb, cb⟩) 32 ∧ Blk wx h (bkgA ⟨id, kind, state, gst, lev, cab, cat, frm, upto, til, fol⟩ (.slice A3 n3 c3)) 37 ∧ Blk wx z #[.int .i64 0, .int .i64 0, .slice none 0 0, .slice none 0 0, .slice none 0 0, .int .i64 0, .int .i64 0, .slice none 0 0, .int .i64 0, .int .i64 0, .int .i64 0, .slice none 0 0, .bool false] 32 ∧ Below w.heap.size w wx)
  case first => as_aux_lemma =>
    go_wp2_with fail
    go_meet
    exact ⟨_, _, _, rfl, rfl, rfl, rfl, by omega, blk3_0 _ _ _ _, blk3_1 _ _ _ _, blk3_2 _ _ _ _, bel3 _ _ _ _⟩
  obtain ⟨g, h, z, rfl, rfl, rfl, rfl, hz, hG, hH, hZ, hb⟩ := hcut
  have HC := Lib.hid (HC0.out _ (hS.bel hb) (hf.bel hb))
  go_wp2_with (first | (refine wpList_load_row rfl 32 (.tmp 2) rfl g rfl 32 _ (0, 0) _ hG Tryz.underlying32 rfl (by kernel_rfl) ?_) | (refine wpList_load_row rfl 37 (.tmp 3) rfl h rfl 37 _ (0, 0) _ hH Tryz.underlying37 rfl (by kernel_rfl) ?_))
  refine HC.out.mono ?_
  rintro e w2 ⟨⟨y, p', rfl, hy, hO⟩, hb2⟩
  have hZ2 := hZ.bel hb2
  have hzl := hZ.lt
  have hsz := hb.size
  replace hb := hb.trans (hb2.mono hb.size)
  have HZ2 := Lib.hid hZ2
  have HO := Lib.hid hO
  clear hO
  have HY := Lib.hid hy
  clear hy
  clear hG hH hZ hb2 HC
  go_wp2_with (refine wpList_store_row rfl 32 (.tmp 4) (.tmp 9) rfl z (saiA y p') rfl rfl 32 _ HZ2.out (by kernel_rfl) rfl (by simp [Value.oneCell']) ?_)
  refine bodyPost_ret (v := .tuple #[.agg (saiA y p'), .int .i64 _]) ((HZ2.out.row _).ret2 (k := 4) (u := 5) (by kernel_rfl) rfl rfl Tryz.underlying32 (by kernel_rfl) (by kernel_rfl)) rfl ?_
  have hKz : Kept (fun k => k = z) w2 (w2.setRow z (saiA y p')) := (Kept.refl (fun k => k = z) w2).setRow (.inl rfl) _
  exact ⟨⟨y, p', rfl, HY.out, (HO.out.kept hKz (fun k hk e => by omega)).mono hsz⟩, hb.trans (hKz.below (B := w.heap.size) hb.size (fun k hk e => by omega))⟩
set_option maxRecDepth 100000 in
set_option maxHeartbeats 8000000 in
theorem Promise_any (x : Sai) (p : SaiV) (b : Bkg) (A3 : Option Addr) (n3 c3 : Nat) (w : World) (hS : SaiR w x p) (hf : Sl entryC 3 w All A3 n3 c3 b.fol) (hI : BkIn b) :
    Calls Tryz.prog 22 #[.agg (saiA x p), .agg (bkgA b (.slice A3 n3 c3))] w fun e w' => ResS w' w.heap.size (sellE x b 2) (sellX x b) e ∧ Below w.heap.size w w' := by
  have HC0 := Lib.hid (fun X h1 h2 => sell_any x p b A3 n3 c3 2 X h1 h2 hI)
  obtain ⟨A, n, cap, B, m, cap2, D, nd, cd, E, ne, ce, C, nb, cb⟩ := p
  obtain ⟨id, kind, state, gst, lev, cab, cat, frm, upto, til, fol⟩ := b
  go_enter Tryz.func22, Tryz.ntmps22
  go_upto_region 0 with (fail)
  go_cut [2, 3, 4, 5] (fun p p2 p3 p4 wx => ∃ g h z, p = .pointer (some ⟨g, 0, none⟩) ∧ p2 = .pointer (some ⟨h, 0, none⟩) ∧ p3 = .pointer (some ⟨z, 0, none⟩) ∧ p4 = .int .i64 0 ∧ w.heap.size ≤ z ∧ Blk wx g (saiA x ⟨A, n, cap, B, m, cap2, D, nd, cd, E, ne, ce, C, nb, cb⟩) 32 ∧ Blk wx h (bkgA ⟨id, kind, state, gst, lev, cab, cat, frm, upto, til, fol⟩ (.slice A3 n3 c3)) 37 ∧ Blk wx z #[.int .i64 0, .int .i64 0, .slice none 0 0, .slice none 0 0, .slice none 0 0, .int .i64 0, .int .i64 0, .slice none 0 0, .int .i64 0, .int .i64 0, .int .i64 0, .slice none 0 0, .bool false] 32 ∧ Below w.heap.size w wx)
  case first => as_aux_lemma =>
    go_wp2_with fail
    go_meet
    exact ⟨_, _, _, rfl, rfl, rfl, rfl, by omega, blk3_0 _ _ _ _, blk3_1 _ _ _ _, blk3_2 _ _ _ _, bel3 _ _ _ _⟩
  obtain ⟨g, h, z, rfl, rfl, rfl, rfl, hz, hG, hH, hZ, hb⟩ := hcut
  have HC := Lib.hid (HC0.out _ (hS.bel hb) (hf.bel hb))
  go_wp2_with (first | (refine wpList_load_row rfl 32 (.tmp 2) rfl g rfl 32 _ (0, 0) _ hG Tryz.underlying32 rfl (by kernel_rfl) ?_) | (refine wpList_load_row rfl 37 (.tmp 3) rfl h rfl 37 _ (0, 0) _ hH Tryz.underlying37 rfl (by kernel_rfl) ?_))
  refine HC.out.mono ?_
  rintro e w2 ⟨⟨y, p', rfl, hy, hO⟩, hb2⟩
  have hZ2 := hZ.bel hb2
  have hzl := hZ.lt
  have hsz := hb.size
  replace hb := hb.trans (hb2.mono hb.size)
  have HZ2 := Lib.hid hZ2
  have HO := Lib.hid hO
  clear hO
  have HY := Lib.hid hy
  clear hy
  clear hG hH hZ hb2 HC
  go_wp2_with (refine wpList_store_row rfl 32 (.tmp 4) (.tmp 9) rfl z (saiA y p') rfl rfl 32 _ HZ2.out (by kernel_rfl) rfl (by simp [Value.oneCell']) ?_)
  refine bodyPost_ret (v := .tuple #[.agg (saiA y p'), .int .i64 _]) ((HZ2.out.row _).ret2 (k := 4) (u := 5) (by kernel_rfl) rfl rfl Tryz.underlying32 (by kernel_rfl) (by kernel_rfl)) rfl ?_
  have hKz : Kept (fun k => k = z) w2 (w2.setRow z (saiA y p')) := (Kept.refl (fun k => k = z) w2).setRow (.inl rfl) _
  exact ⟨⟨y, p', rfl, HY.out, (HO.out.kept hKz (fun k hk e => by omega)).mono hsz⟩, hb.trans (hKz.below (B := w.heap.size) hb.size (fun k hk e => by omega))⟩
end Go.Proofs.YtoilcdgpeilgaaaGreat
namespace Go.Proofs.YtoilcdgpeilgaaaGreat
open Go.RowKit Go.Shelf
def freeI (l : List Bkg) : Int := l.foldl (fun n b => if b.id = n then n + 1 else n) 1
theorem freeI_succ {l : List Bkg} {k : Nat} {b : Bkg} (h : l[k]? = some b) : freeI (l.take (k + 1)) = if b.id = freeI (l.take k) then freeI (l.take k) + 1 else freeI (l.take k) := by
  unfold freeI
  rw [take_snoc h, List.foldl_append]; rfl
theorem freeI_bd (l : List Bkg) : 1 ≤ freeI l ∧ freeI l ≤ 1 + l.length := by
  unfold freeI
  have key : ∀ (l : List Bkg) (n : Int), n ≤ l.foldl (fun n b => if b.id = n then n + 1 else n) n ∧ l.foldl (fun n b => if b.id = n then n + 1 else n) n ≤ n + l.length := by
    intro l
    induction l with
    | nil => intro n; simp
    | cons b l ih =>
      intro n
      rw [List.foldl_cons, List.length_cons]
      by_cases h : b.id = n
      · rw [if_pos h]; have := ih (n + 1); omega
      · rw [if_neg h]; have := ih n; omega
  have := key l 1
  omega
set_option maxRecDepth 100000 in
set_option maxHeartbeats 8000000 in
theorem free_any (x : Sai) (p : SaiV) (w : World) (hl : Sl bkgC 11 w All p.C p.nb p.cb x.bks) (h16 : x.bks.length ≤ 16) :
    Calls Tryz.prog 94 #[.agg (saiA x p)] w fun e w' => e = .returned (.int .i64 (freeI x.bks)) ∧ Below w.heap.size w w' := by
  obtain ⟨A, n, cap, B, m, cap2, D, nd, cd, E, ne, ce, C, nb, cb⟩ := p
  simp only at hl
  have hln : x.bks.length = nb := hl.len
  have HL := Lib.hid hl
  have HLN := Lib.hid hln
  have HL16 := Lib.hid (show nb ≤ 16 by omega)
  clear hl hln h16
  go_enter Tryz.func94, Tryz.ntmps94
  go_upto_region 0 with (fail)
  go_cut [1, 2] (fun p _ wx => ∃ g, p = .pointer (some ⟨g, 0, none⟩) ∧ Blk wx g (saiA x ⟨A, n, cap, B, m, cap2, D, nd, cd, E, ne, ce, C, nb, cb⟩) 32 ∧ Below w.heap.size w wx)
  case first => as_aux_lemma =>
    go_wp2_with fail
    go_meet
    exact ⟨_, rfl, blk1 _ _, bel1 _ _⟩
  obtain ⟨g, rfl, hG, hb⟩ := hcut
  have g11 : wc.cell? ⟨g, 11, none⟩ = some (.slice C nb cb) := hG.cell rfl
  clear hG
  go_wp2_with fail
  clear g11
  go_loopg [9, 3] nb (fun gk i c wr => ∃ k : Nat, k ≤ nb ∧ nb - k ≤ gk ∧ i = .int .i64 k ∧ c = .int .i64 (freeI (x.bks.take k)) ∧ Below w.heap.size w wr)
  case atStart => exact ⟨0, Nat.zero_le _, by omega, rfl, rfl, hb⟩
  case round =>
    clear hb
    obtain ⟨k, hk, hgk, rfl, rfl, hb⟩ := hrel
    obtain ⟨fr, hfr⟩ : ∃ f, f = freeI (x.bks.take k) := ⟨_, rfl⟩
    have hfb := freeI_bd (x.bks.take k)
    rw [← hfr] at hfb ⊢
    have hfb2 : fr ≤ 17 := by have h1 := List.length_take_le k x.bks; have := HL16.out; omega
    have hk16 : k ≤ 16 := by have := HL16.out; omega
    by_cases hlt : k < nb
    · skip
      obtain ⟨ab, off, ⟨id, kind, state, gst, lev, cab, cat, frm, upto, til, fol⟩, A3, n3, c3, hA, hx, hF, hI, hcel⟩ := (HL.out.bel hb).bkg hlt
      subst hA
      simp only at hF
      have y0 : wr.cell? ⟨ab, off + k * 11, none⟩ = some (.int .i64 id) := hcel 0 _ rfl
      have y1 : wr.cell? ⟨ab, off + k * 11 + 1, none⟩ = some (.int .i64 kind) := hcel 1 _ rfl
      have y2 : wr.cell? ⟨ab, off + k * 11 + 2, none⟩ = some (.int .i64 state) := hcel 2 _ rfl
      have y3 : wr.cell? ⟨ab, off + k * 11 + 3, none⟩ = some (.int .i64 gst) := hcel 3 _ rfl
      have y4 : wr.cell? ⟨ab, off + k * 11 + 4, none⟩ = some (.bool lev) := hcel 4 _ rfl
      have y5 : wr.cell? ⟨ab, off + k * 11 + 5, none⟩ = some (.int .i64 cab) := hcel 5 _ rfl
      have y6 : wr.cell? ⟨ab, off + k * 11 + 6, none⟩ = some (.int .i64 cat) := hcel 6 _ rfl
      have y7 : wr.cell? ⟨ab, off + k * 11 + 7, none⟩ = some (.int .i64 frm) := hcel 7 _ rfl
      have y8 : wr.cell? ⟨ab, off + k * 11 + 8, none⟩ = some (.int .i64 upto) := hcel 8 _ rfl
      have y9 : wr.cell? ⟨ab, off + k * 11 + 9, none⟩ = some (.int .i64 til) := hcel 9 _ rfl
      have y10 : wr.cell? ⟨ab, off + k * 11 + 10, none⟩ = some (.slice A3 n3 c3) := hcel 10 _ rfl
      clear hcel
      go_upto_region 4 with (fail)
      go_cut [5] (fun p wx => ∃ z, p = .pointer (some ⟨z, 0, none⟩) ∧ Blk wx z (bkgA ⟨id, kind, state, gst, lev, cab, cat, frm, upto, til, fol⟩ (.slice A3 n3 c3)) 37 ∧ Below wr.heap.size wr wx)
      case first => as_aux_lemma =>
        go_wp2_with fail
        go_meet
        exact ⟨_, rfl, blk1 _ _, bel1 _ _⟩
      obtain ⟨z, rfl, hZ, hbz⟩ := hcut
      clear y0 y1 y2 y3 y4 y5 y6 y7 y8 y9 y10
      replace hF := hF.bel hbz
      have HN := Lib.hid (freeI_succ hx)
      have z0 : wc.cell? ⟨z, 0, none⟩ = some (.int .i64 id) := hZ.cell rfl
      have HFR := Lib.hid hfr
      clear hfr
      clear hZ hF hx hI
      by_cases q : id = fr
      · subst q
        have hw : IntKind.i64.wrap (id + 1) = id + 1 := by rw [IntKind.wrap_i64]; omega
        go_wp2_with fail
        go_roundg (nb - (k + 1))
        case measure => omega
        case rel => exact ⟨k + 1, by omega, by omega, by go_num, by rw [HN.out, ← HFR.out, if_pos rfl], hb.trans (hbz.mono hb.size)⟩
      · have q' : (id == fr) = false := by simpa using q
        have Q := Lib.hid q
        clear q
        go_wp2_with fail
        go_roundg (nb - (k + 1))
        case measure => omega
        case rel => exact ⟨k + 1, by omega, by omega, by go_num, by rw [HN.out, ← HFR.out, if_neg Q.out], hb.trans (hbz.mono hb.size)⟩
    · obtain rfl : k = nb := by omega
      have HE := Lib.hid (show fr = freeI x.bks by rw [hfr, List.take_of_length_le (by rw [HLN.out]; exact Nat.le_refl _)])
      clear hfr
      go_wp2_with fail
      go_ret
      exact ⟨by rw [HE.out]; rfl, hb⟩
end Go.Proofs.YtoilcdgpeilgaaaGreat
namespace Go.Proofs.YtoilcdgpeilgaaaGreat
open Go.RowKit Go.Shelf
def offB (x : Sai) (gs : Int) (lv : Bool) (s : Span) (c : Int) : Bkg := ⟨freeI x.bks, 1, 2, gs, lv, c, 0, s.frm, s.upto, 0, []⟩
noncomputable def offE (x : Sai) (gs : Int) (s : Span) : Int := if saiE x ≠ 0 then saiE x else if betB gs 1 4 = false then 3 else if spanE s x.ship.legs ≠ 0 then spanE s x.ship.legs else if x.leaves ≤ x.day then 4 else if x.bks.length = 16 then 2 else 0
noncomputable def offN (x : Sai) (gs : Int) (lv : Bool) (s : Span) (j : Nat) : List Int := ((List.range j).filter (fun c : Nat => decide (sellE x (offB x gs lv s (c : Int)) 1 = 0))).map Int.ofNat
noncomputable def offL (x : Sai) (gs : Int) (lv : Bool) (s : Span) : List Int := offN x gs lv s x.ship.cabs.length
theorem offN_succ (x : Sai) (gs : Int) (lv : Bool) (s : Span) (j : Nat) : offN x gs lv s (j + 1) = offN x gs lv s j ++ (if sellE x (offB x gs lv s (j : Int)) 1 = 0 then [(j : Int)] else []) := by
  unfold offN
  rw [List.range_succ, List.filter_append, List.map_append]
  by_cases h : sellE x (offB x gs lv s (j : Int)) 1 = 0 <;> simp [h]
theorem offB_in {x : Sai} {gs : Int} {lv : Bool} {s : Span} {c : Int} (hf : freeI x.bks ≤ 1000) (hg : InI gs) (hs : InI s.frm) (hu : InI s.upto) (hc : 0 ≤ c ∧ c ≤ 1000) : BkIn (offB x gs lv s c) :=
  ⟨.of (by show _ ≤ freeI x.bks; have := freeI_bd x.bks; omega) (by show freeI x.bks ≤ _; omega), .of (by show _ ≤ (1 : Int); decide) (by show (1 : Int) ≤ _; decide), .of (by show _ ≤ (2 : Int); decide) (by show (2 : Int) ≤ _; decide), hg, .of (by show _ ≤ c; omega) (by show c ≤ _; omega), .of (by show _ ≤ (0 : Int); decide) (by show (0 : Int) ≤ _; decide), hs, hu, .of (by show _ ≤ (0 : Int); decide) (by show (0 : Int) ≤ _; decide)⟩
theorem offN_len (x : Sai) (gs : Int) (lv : Bool) (s : Span) (j : Nat) : (offN x gs lv s j).length ≤ j := by
  unfold offN
  rw [List.length_map]
  exact Nat.le_trans (List.length_filter_le _ _) (by simp)
set_option maxRecDepth 100000 in
set_option maxHeartbeats 16000000 in
theorem Offers_any (x : Sai) (p : SaiV) (gs : Int) (lv : Bool) (sf su : Int) (w : World) (hS : SaiR w x p) (hgs : InI gs) (hsf : InI sf) (hsu : InI su) :
    Calls Tryz.prog 27 #[.agg (saiA x p), .int .i64 gs, .bool lv, .agg #[.int .i64 sf, .int .i64 su]] w fun e w' => ∃ v xs, e = .returned (.tuple #[v, .int .i64 (offE x gs ⟨sf, su⟩)]) ∧ Own intC 1 3 w' w.heap.size v (okL (offE x gs ⟨sf, su⟩) (offL x gs lv ⟨sf, su⟩)) xs ∧ Below w.heap.size w w' := by
  have HCK0 := Lib.hid (fun X hX => saiCheck_any x p X hX)
  have HFR0 := Lib.hid (fun X hl (ho : OkSai x) => free_any x p X hl ho.bs.len)
  have hfb := freeI_bd x.bks
  have HNA0 := Lib.hid (fun (c : Nat) X hX (hc : (c : Int) ≤ 1000) (ho : OkSai x) => Named_any x p (offB x gs lv ⟨sf, su⟩ (c : Int)) none 0 0 X hX (Sl.nil _ _ _ _) (offB_in (by have := ho.bs.len; omega) hgs hsf hsu ⟨by omega, hc⟩))
  have HSC0 := Lib.hid (fun l X => spanCheck_any sf su l X)
  obtain ⟨R, hR⟩ : ∃ r, r = offE x gs ⟨sf, su⟩ := ⟨_, rfl⟩
  obtain ⟨r, hr⟩ : ∃ r, r = saiE x := ⟨_, rfl⟩
  obtain ⟨se, hse⟩ : ∃ r, r = spanE ⟨sf, su⟩ x.ship.legs := ⟨_, rfl⟩
  obtain ⟨fr, hfr⟩ : ∃ r, r = freeI x.bks := ⟨_, rfl⟩
  have hnb : x.bks.length = p.nb := hS.bks.len
  have HR := Lib.hid (show R = if r ≠ 0 then r else if betB gs 1 4 = false then 3 else if se ≠ 0 then se else if x.leaves ≤ x.day then 4 else if p.nb = 16 then 2 else 0 by rw [hR, hr, hse, ← hnb]; rfl)
  have HOB := Lib.hid (show ∀ (c : Int) v, bkgA (offB x gs lv ⟨sf, su⟩ c) v = #[.int .i64 fr, .int .i64 1, .int .i64 2, .int .i64 gs, .bool lv, .int .i64 c, .int .i64 0, .int .i64 sf, .int .i64 su, .int .i64 0, v] by intro c v; rw [hfr]; rfl)
  have HCL := Lib.hid (show p.m = x.ship.cabs.length from hS.cabs.len.symm)
  obtain ⟨on, hon⟩ : ∃ q, q = offN x gs lv ⟨sf, su⟩ := ⟨_, rfl⟩
  have HON := Lib.hid (show ∀ j, on (j + 1) = on j ++ (if sellE x (offB x gs lv ⟨sf, su⟩ (j : Int)) 1 = 0 then [(j : Int)] else []) by intro j; rw [hon]; exact offN_succ _ _ _ _ _)
  have HONL := Lib.hid (show ∀ j, (on j).length ≤ j by intro j; rw [hon]; exact offN_len _ _ _ _ _)
  have HOL := Lib.hid (show offL x gs lv ⟨sf, su⟩ = on p.m by rw [hon, HCL.out]; rfl)
  have HON0 := Lib.hid (show on 0 = [] by rw [hon]; rfl)
  obtain ⟨sc, hsc⟩ : ∃ q : Nat → Int, q = fun j : Nat => sellE x (offB x gs lv ⟨sf, su⟩ (j : Int)) 1 := ⟨_, rfl⟩
  have HSC := Lib.hid (show ∀ j : Nat, sellE x (offB x gs lv ⟨sf, su⟩ (j : Int)) 1 = sc j by intro j; rw [hsc])
  rw [← hr] at HCK0
  rw [← hfr] at HFR0
  rw [← hR, HOL.out]
  have HRE := Lib.hid hr
  have HSE := Lib.hid (show spanE ⟨sf, su⟩ x.ship.legs = se from hse.symm)
  have HS := Lib.hid hS
  have hmb := hS.cabs.bd
  clear hR hr hse hfr hon hsc hS hfb hnb
  obtain ⟨A, n, cap, B, m, cap2, D, nd, cd, E, ne, ce, C, nb, cb⟩ := p
  simp only at HR HCL hmb HOL
  go_enter Tryz.func27, Tryz.ntmps27
  go_upto_region 0 with (fail)
  go_cut [4, 7, 8, 9] (fun p p2 _ _ wx => ∃ g s, p = .pointer (some ⟨g, 0, none⟩) ∧ p2 = .pointer (some ⟨s, 0, none⟩) ∧ Blk wx g (saiA x ⟨A, n, cap, B, m, cap2, D, nd, cd, E, ne, ce, C, nb, cb⟩) 32 ∧ Blk wx s #[.int .i64 sf, .int .i64 su] 34 ∧ Below w.heap.size w wx)
  case first => as_aux_lemma =>
    go_wp2_with fail
    go_meet
    exact ⟨_, _, rfl, rfl, blk2_0 _ _ _, blk2_1 _ _ _, bel2 _ _ _⟩
  obtain ⟨g, s, rfl, rfl, hG, hSP, hb0⟩ := hcut
  obtain ⟨W1, hW1⟩ : ∃ V, V = wc := ⟨_, rfl⟩
  subst hW1
  have HT := Lib.hid (fun X (hX : Below W1.heap.size W1 X) => hb0.trans (hX.mono hb0.size))
  have HG := Lib.hid (fun X (hX : Below W1.heap.size W1 X) => hG.bel hX)
  have HP := Lib.hid (fun X (hX : Below W1.heap.size W1 X) => hSP.bel hX)
  have HSX := Lib.hid (fun X (hX : Below W1.heap.size W1 X) => HS.out.bel (HT.out X hX))
  have HWW := Lib.hid hb0.size
  have hb : Below W1.heap.size W1 W1 := Below.refl _ _
  clear hG hSP hb0
  have HC := Lib.hid (HCK0.out _ (HSX.out _ hb))
  go_wp2_with (refine wpList_load_row rfl 32 (.tmp 4) rfl g rfl 32 _ (0, 0) _ (HG.out _ hb) Tryz.underlying32 rfl (by kernel_rfl) ?_)
  refine HC.out.mono ?_
  rintro e w1 ⟨rfl, hb1⟩
  replace hb := hb.trans (hb1.mono hb.size)
  clear hb1 HC HCK0
  by_cases q0 : r = 0
  rotate_left
  · obtain rfl : R = r := by rw [HR.out, if_pos q0]
    have q0' : (R == 0) = false := by simpa using q0
    have q0'' : (R != 0) = true := by simpa using q0
    have Q0 := Lib.hid q0
    clear q0
    go_wp2_with fail
    go_ret2
    exact ⟨_, [], rfl, Own.nilE Q0.out, HT.out _ hb⟩
  have HOK := Lib.hid (sai_ok (HRE.out.symm.trans q0))
  have HR1 := Lib.hid (HR.out.trans (if_neg (by rw [q0]; simp)))
  subst q0
  by_cases q1 : gs < 1
  · obtain rfl : R = 3 := by rw [HR1.out, if_pos (betB_false (.inl q1))]
    have d1 : decide (gs < 1) = true := decide_eq_true q1
    clear q1
    go_wp2_with fail
    go_ret2
    exact ⟨_, [], rfl, Own.nilE (by decide), HT.out _ hb⟩
  have d1 : decide (gs < 1) = false := decide_eq_false q1
  by_cases q2 : 4 < gs
  · obtain rfl : R = 3 := by rw [HR1.out, if_pos (betB_false (.inr q2))]
    have d2 : decide (4 < gs) = true := decide_eq_true q2
    clear q1 q2
    go_wp2_with fail
    go_ret2
    exact ⟨_, [], rfl, Own.nilE (by decide), HT.out _ hb⟩
  have d2 : decide (4 < gs) = false := decide_eq_false q2
  have HR2 := Lib.hid (HR1.out.trans (if_neg (by rw [betB_true (by omega) (by omega)]; simp)))
  clear q1 q2
  have g0 : w1.cell? ⟨g, 0, none⟩ = some (.int .i64 x.ship.legs) := (HG.out _ hb).cell rfl
  have s0 : w1.cell? ⟨s, 0, none⟩ = some (.int .i64 sf) := (HP.out _ hb).cell rfl
  have s1 : w1.cell? ⟨s, 1, none⟩ = some (.int .i64 su) := (HP.out _ hb).cell rfl
  have HC := Lib.hid (HSC0.out x.ship.legs w1)
  rw [HSE.out] at HC
  go_wp2_with fail
  refine HC.out.mono ?_
  rintro e w2 ⟨rfl, hb1⟩
  replace hb := hb.trans (hb1.mono hb.size)
  clear hb1 HC HSC0 g0 s0 s1
  by_cases q3 : se = 0
  rotate_left
  · obtain rfl : R = se := by rw [HR2.out, if_pos q3]
    have q3'' : (R != 0) = true := by simpa using q3
    have Q3 := Lib.hid q3
    clear q3
    go_wp2_with fail
    go_ret2
    exact ⟨_, [], rfl, Own.nilE Q3.out, HT.out _ hb⟩
  have HR3 := Lib.hid (HR2.out.trans (if_neg (by rw [q3]; simp)))
  subst q3
  have g9 : w2.cell? ⟨g, 9, none⟩ = some (.int .i64 x.day) := (HG.out _ hb).cell rfl
  have g10 : w2.cell? ⟨g, 10, none⟩ = some (.int .i64 x.leaves) := (HG.out _ hb).cell rfl
  have g11 : w2.cell? ⟨g, 11, none⟩ = some (.slice C nb cb) := (HG.out _ hb).cell rfl
  have g3 : w2.cell? ⟨g, 3, none⟩ = some (.slice B m cap2) := (HG.out _ hb).cell rfl
  by_cases q4 : x.leaves ≤ x.day
  · obtain rfl : R = 4 := by rw [HR3.out, if_pos q4]
    have d4 : decide (x.leaves ≤ x.day) = true := decide_eq_true q4
    clear q4
    go_wp2_with fail
    go_ret2
    exact ⟨_, [], rfl, Own.nilE (by decide), HT.out _ hb⟩
  have d4 : decide (x.leaves ≤ x.day) = false := decide_eq_false q4
  have HR4 := Lib.hid (HR3.out.trans (if_neg q4))
  clear q4
  by_cases q5 : nb = 16
  · obtain rfl : R = 2 := by rw [HR4.out, if_pos q5]
    subst q5
    go_wp2_with fail
    go_ret2
    exact ⟨_, [], rfl, Own.nilE (by decide), HT.out _ hb⟩
  obtain rfl : R = 0 := by rw [HR4.out, if_neg q5]
  have q5' : ((nb : Int) == 16) = false := by simp; omega
  have hm12 : m ≤ 12 := by rw [HCL.out]; exact HOK.out.bs.ship.cabs12
  clear q5
  go_wp2_with fail
  clear g9 g10 g11 g3 d4 q5' d1 d2
  obtain ⟨W2, hW2⟩ : ∃ V, V = w2 := ⟨_, rfl⟩
  subst hW2
  go_loopg [54, 11] m (fun gk i v wr => ∃ (k : Nat) (A1 : Option Addr) (n1 c1 : Nat) (xs : List Value), k ≤ m ∧ m - k ≤ gk ∧ i = .int .i64 k ∧ v = .slice A1 n1 c1 ∧ Own intC 1 3 wr W1.heap.size (.slice A1 n1 c1) (on k) xs ∧ Below W1.heap.size W1 wr)
  case atStart => exact ⟨0, none, 0, 0, [], Nat.zero_le _, by omega, rfl, rfl, by rw [HON0.out]; exact Own.nil _ _ _ _ _, hb⟩
  case round =>
    clear hb
    obtain ⟨k, A1, n1, c1, xs, hk, hgk, rfl, rfl, hO, hb⟩ := hrel
    by_cases hlt : k < m
    · go_upto_region 16 with (fail)
      obtain ⟨w5, hw5⟩ : ∃ V, V = wr := ⟨_, rfl⟩
      subst hw5
      have HB := Lib.hid hb
      clear hb
      have HO := Lib.hid hO
      clear hO
      have hk12 : (k : Int) ≤ 1000 := by omega
      go_cut [13] (fun p wx => ∃ y, p = .pointer (some ⟨y, 0, none⟩) ∧ w5.heap.size ≤ y ∧ Blk wx y (bkgA (offB x gs lv ⟨sf, su⟩ (k : Int)) (.slice none 0 0)) 37 ∧ Below w5.heap.size w5 wx)
      case first =>
        have hbx : Below w5.heap.size w5 w5.drew := (Below.refl _ _).drew
        have HSS := Lib.hid (show ∀ w', Below w5.heap.size w5 w' → ((w'.cell? ⟨g, 0, none⟩ = some (.int .i64 x.ship.legs) ∧ w'.cell? ⟨g, 1, none⟩ = some (.int .i64 x.ship.souls) ∧ w'.cell? ⟨g, 2, none⟩ = some (.slice A n cap) ∧ w'.cell? ⟨g, 3, none⟩ = some (.slice B m cap2) ∧ w'.cell? ⟨g, 4, none⟩ = some (.slice D nd cd) ∧ w'.cell? ⟨g, 5, none⟩ = some (.int .i64 x.fares.alone) ∧ w'.cell? ⟨g, 6, none⟩ = some (.int .i64 x.fares.third) ∧ w'.cell? ⟨g, 7, none⟩ = some (.slice E ne ce) ∧ w'.cell? ⟨g, 8, none⟩ = some (.int .i64 x.fares.down) ∧ w'.cell? ⟨g, 9, none⟩ = some (.int .i64 x.day) ∧ w'.cell? ⟨g, 10, none⟩ = some (.int .i64 x.leaves) ∧ w'.cell? ⟨g, 11, none⟩ = some (.slice C nb cb) ∧ w'.cell? ⟨g, 12, none⟩ = some (.bool x.closed)) ∧ (w'.cell? ⟨s, 0, none⟩ = some (.int .i64 sf) ∧ w'.cell? ⟨s, 1, none⟩ = some (.int .i64 su))) from fun w' hX0 => by
          have hX := HB.out.trans (hX0.mono HB.out.size)
          exact ⟨⟨(HG.out _ hX).cell rfl, (HG.out _ hX).cell rfl, (HG.out _ hX).cell rfl, (HG.out _ hX).cell rfl, (HG.out _ hX).cell rfl, (HG.out _ hX).cell rfl, (HG.out _ hX).cell rfl, (HG.out _ hX).cell rfl, (HG.out _ hX).cell rfl, (HG.out _ hX).cell rfl, (HG.out _ hX).cell rfl, (HG.out _ hX).cell rfl, (HG.out _ hX).cell rfl⟩, (HP.out _ hX).cell rfl, (HP.out _ hX).cell rfl⟩)
        have HFC := Lib.hid (fun X (hX : Below w5.heap.size w5 X) => HFR0.out X (HSX.out X (HB.out.trans (hX.mono HB.out.size))).bks HOK.out)
        refine wp_region_held_drew (S := (fun w' => (w'.cell? ⟨g, 0, none⟩ = some (.int .i64 x.ship.legs) ∧ w'.cell? ⟨g, 1, none⟩ = some (.int .i64 x.ship.souls) ∧ w'.cell? ⟨g, 2, none⟩ = some (.slice A n cap) ∧ w'.cell? ⟨g, 3, none⟩ = some (.slice B m cap2) ∧ w'.cell? ⟨g, 4, none⟩ = some (.slice D nd cd) ∧ w'.cell? ⟨g, 5, none⟩ = some (.int .i64 x.fares.alone) ∧ w'.cell? ⟨g, 6, none⟩ = some (.int .i64 x.fares.third) ∧ w'.cell? ⟨g, 7, none⟩ = some (.slice E ne ce) ∧ w'.cell? ⟨g, 8, none⟩ = some (.int .i64 x.fares.down) ∧ w'.cell? ⟨g, 9, none⟩ = some (.int .i64 x.day) ∧ w'.cell? ⟨g, 10, none⟩ = some (.int .i64 x.leaves) ∧ w'.cell? ⟨g, 11, none⟩ = some (.slice C nb cb) ∧ w'.cell? ⟨g, 12, none⟩ = some (.bool x.closed)) ∧ (w'.cell? ⟨s, 0, none⟩ = some (.int .i64 sf) ∧ w'.cell? ⟨s, 1, none⟩ = some (.int .i64 su)))) (by kernel_rfl) (HSS.out _ hbx) (fun hHeld => ?_)
        refine wpAnyH_take (i := 0) (v := ?v5) (gA rfl) (by kernel_rfl) (by kernel_rfl) (by kernel_rfl) (fun _ _ _ h => h) (Or.inl ⟨rfl, ?y5⟩) (by assumption) ?_
        case y5 => (intro w hSw; (try dsimp only at hSw); go_simp <;> with_reducible rfl)
        simp only [Act.put, List.setIfInBounds_toArray, List.set_cons_zero, List.set_cons_succ]
        refine wpAnyH_take (i := 2) (v := ?v6) (gA rfl) (by kernel_rfl) (by kernel_rfl) (by kernel_rfl) (fun _ _ _ h => h) (Or.inl ⟨rfl, ?y6⟩) (by assumption) ?_
        case y6 => (intro w hSw; (try dsimp only at hSw); go_simp <;> with_reducible rfl)
        simp only [Act.put, List.setIfInBounds_toArray, List.set_cons_zero, List.set_cons_succ]
        refine wpAnyH_take (i := 3) (v := ?v7) (gA rfl) (by kernel_rfl) (by kernel_rfl) (by kernel_rfl) (fun _ _ _ h => h) (Or.inl ⟨rfl, ?y7⟩) (by assumption) ?_
        case y7 => (intro w hSw; (try dsimp only at hSw); go_simp <;> with_reducible rfl)
        simp only [Act.put, List.setIfInBounds_toArray, List.set_cons_zero, List.set_cons_succ]
        refine wpAnyH_take (i := 4) (v := ?v8) (gA rfl) (by kernel_rfl) (by kernel_rfl) (by kernel_rfl) (fun _ _ _ h => h) (Or.inl ⟨rfl, ?y8⟩) (by assumption) ?_
        case y8 => (intro w hSw; (try dsimp only at hSw); go_simp <;> with_reducible rfl)
        simp only [Act.put, List.setIfInBounds_toArray, List.set_cons_zero, List.set_cons_succ]
        refine wpAnyH_take (i := 5) (v := ?v9) (gA rfl) (by kernel_rfl) (by kernel_rfl) (by kernel_rfl) (fun _ _ _ h => h) (Or.inl ⟨rfl, ?y9⟩) (by assumption) ?_
        case y9 => (intro w hSw; (try dsimp only at hSw); go_simp <;> with_reducible rfl)
        simp only [Act.put, List.setIfInBounds_toArray, List.set_cons_zero, List.set_cons_succ]
        refine wpAnyH_ready (rs := [1, 7]) (by kernel_rfl) (by simp) ?_
        refine AllReadyH.cons (gA rfl) (fun K hK => ?_) ?m_1
        case m_1 =>
          refine AllReadyH.cons (gA rfl) (fun K hK => ?_) AllReadyH.nil
          go_simp
          refine hK.out _ _ ?_ (fun hHeld => ?_)
          · exact HSS.out _ (hbx.alloc hbx.size (.cells #[.int .i64 0, .int .i64 0, .int .i64 0, .int .i64 0, .bool false, .int .i64 0, .int .i64 0, .int .i64 0, .int .i64 0, .int .i64 0, .slice none 0 0] 37))
          clear hK K
          try simp only [Act.put, List.setIfInBounds_toArray, List.set_cons_zero, List.set_cons_succ]
          (have hL := freshG hbx #[.int .i64 0, .int .i64 0, .int .i64 0, .int .i64 0, .bool false, .int .i64 0, .int .i64 0, .int .i64 0, .int .i64 0, .int .i64 0, .slice none 0 0] 37; have hge := geOf hbx; replace hbx := hbx.alloc hbx.size (.cells #[.int .i64 0, .int .i64 0, .int .i64 0, .int .i64 0, .bool false, .int .i64 0, .int .i64 0, .int .i64 0, .int .i64 0, .int .i64 0, .slice none 0 0] 37))
          refine wpAnyH_ready (rs := [1]) (by kernel_rfl) (by simp) ?_
          refine AllReadyH.cons (gA rfl) (fun K hK => ?_) AllReadyH.nil
          go_simp
          (go_at_call 94; refine (HFC.out _ hbx).mono ?_; rintro e w6 ⟨rfl, hb6⟩; (try replace hL := fun g hg => (hL g hg).bel hb6); replace hbx := hbx.trans (hb6.mono hbx.size); clear hb6)
          go_wp2_with fail
          refine hK.out _ _ ?_ (fun hHeld => ?_)
          · exact HSS.out _ hbx
          clear hK K
          try simp only [Act.put, List.setIfInBounds_toArray, List.set_cons_zero, List.set_cons_succ]
          refine wpAnyH_take (i := 6) (v := ?v10) (gA rfl) (by kernel_rfl) (by kernel_rfl) (by kernel_rfl) (fun _ _ _ h => h) (Or.inl ⟨rfl, ?y10⟩) (by assumption) ?_
          case y10 => (intro w hSw; (try dsimp only at hSw); go_simp <;> with_reducible rfl)
          simp only [Act.put, List.setIfInBounds_toArray, List.set_cons_zero, List.set_cons_succ]
          refine wpAnyH_ready (rs := [8]) (by kernel_rfl) (by simp) (AllReadyH.cons (gA rfl) (fun K hK => ?_) AllReadyH.nil)
          (refine wp_store_row 37 (.tmp 13) (.tmp 63) rfl _ #[.int .i64 fr, .int .i64 1, .int .i64 2, .int .i64 gs, .bool lv, .int .i64 (k : Int), .int .i64 0, .int .i64 sf, .int .i64 su, .int .i64 0, .slice none 0 0] rfl rfl 37 _ (hL _ (by simp)) (by kernel_rfl) rfl (by simp [Value.oneCell']) ?_)
          refine hK.out _ _ ?_ (fun hHeld => ?_)
          · exact HSS.out _ (below_setRow hbx (hge _ (by simp)) _)
          clear hK K
          try simp only [Act.put, List.setIfInBounds_toArray, List.set_cons_zero, List.set_cons_succ]
          refine wpAnyH_done (by kernel_rfl) ?_ _
          go_wp2_with fail
          go_meet
          exact ⟨_, rfl, hge _ (by simp), by rw [HOB.out]; exact (hL _ (by simp)).row _, below_setRow hbx (hge _ (by simp)) _⟩
        go_simp
        (go_at_call 94; refine (HFC.out _ hbx).mono ?_; rintro e w6 ⟨rfl, hb6⟩; (try replace hL := fun g hg => (hL g hg).bel hb6); replace hbx := hbx.trans (hb6.mono hbx.size); clear hb6)
        go_wp2_with fail
        refine hK.out _ _ ?_ (fun hHeld => ?_)
        · exact HSS.out _ hbx
        clear hK K
        try simp only [Act.put, List.setIfInBounds_toArray, List.set_cons_zero, List.set_cons_succ]
        refine wpAnyH_take (i := 6) (v := ?v12) (gA rfl) (by kernel_rfl) (by kernel_rfl) (by kernel_rfl) (fun _ _ _ h => h) (Or.inl ⟨rfl, ?y12⟩) (by assumption) ?_
        case y12 => (intro w hSw; (try dsimp only at hSw); go_simp <;> with_reducible rfl)
        simp only [Act.put, List.setIfInBounds_toArray, List.set_cons_zero, List.set_cons_succ]
        refine wpAnyH_ready (rs := [7]) (by kernel_rfl) (by simp) ?_
        refine AllReadyH.cons (gA rfl) (fun K hK => ?_) AllReadyH.nil
        go_simp
        refine hK.out _ _ ?_ (fun hHeld => ?_)
        · exact HSS.out _ (hbx.alloc hbx.size (.cells #[.int .i64 0, .int .i64 0, .int .i64 0, .int .i64 0, .bool false, .int .i64 0, .int .i64 0, .int .i64 0, .int .i64 0, .int .i64 0, .slice none 0 0] 37))
        clear hK K
        try simp only [Act.put, List.setIfInBounds_toArray, List.set_cons_zero, List.set_cons_succ]
        (have hL := freshG hbx #[.int .i64 0, .int .i64 0, .int .i64 0, .int .i64 0, .bool false, .int .i64 0, .int .i64 0, .int .i64 0, .int .i64 0, .int .i64 0, .slice none 0 0] 37; have hge := geOf hbx; replace hbx := hbx.alloc hbx.size (.cells #[.int .i64 0, .int .i64 0, .int .i64 0, .int .i64 0, .bool false, .int .i64 0, .int .i64 0, .int .i64 0, .int .i64 0, .int .i64 0, .slice none 0 0] 37))
        refine wpAnyH_ready (rs := [8]) (by kernel_rfl) (by simp) (AllReadyH.cons (gA rfl) (fun K hK => ?_) AllReadyH.nil)
        (refine wp_store_row 37 (.tmp 13) (.tmp 63) rfl _ #[.int .i64 fr, .int .i64 1, .int .i64 2, .int .i64 gs, .bool lv, .int .i64 (k : Int), .int .i64 0, .int .i64 sf, .int .i64 su, .int .i64 0, .slice none 0 0] rfl rfl 37 _ (hL _ (by simp)) (by kernel_rfl) rfl (by simp [Value.oneCell']) ?_)
        refine hK.out _ _ ?_ (fun hHeld => ?_)
        · exact HSS.out _ (below_setRow hbx (hge _ (by simp)) _)
        clear hK K
        try simp only [Act.put, List.setIfInBounds_toArray, List.set_cons_zero, List.set_cons_succ]
        refine wpAnyH_done (by kernel_rfl) ?_ _
        go_wp2_with fail
        go_meet
        exact ⟨_, rfl, hge _ (by simp), by rw [HOB.out]; exact (hL _ (by simp)).row _, below_setRow hbx (hge _ (by simp)) _⟩
      obtain ⟨y, rfl, hy, hY, hb6⟩ := hcut
      have hb7 := HB.out.trans (hb6.mono HB.out.size)
      have hO7 := HO.out.bel hb6
      have HC := Lib.hid (HNA0.out k _ (HSX.out _ hb7) hk12 HOK.out)
      rw [HSC.out] at HC
      have HY := Lib.hid hY
      have HG7 := Lib.hid (HG.out _ hb7)
      have HO7 := Lib.hid hO7
      clear hO7
      have HB7 := Lib.hid hb7
      clear hb7
      clear hY hb6
      go_upto_region 17 with (fail)
      obtain ⟨w7, hw7⟩ : ∃ V, V = wc := ⟨_, rfl⟩
      subst hw7
      go_cut [14, 15] (fun _ p wx => p = .int .i64 (sc k) ∧ Below w7.heap.size w7 wx)
      case first =>
        go_wp2_with (first | (refine wpList_load_row rfl 32 (.tmp 4) rfl g rfl 32 _ (0, 0) _ HG7.out Tryz.underlying32 rfl (by kernel_rfl) ?_) | (refine wpList_load_row rfl 37 (.tmp 13) rfl y rfl 37 _ (0, 0) _ HY.out Tryz.underlying37 rfl (by kernel_rfl) ?_))
        refine HC.out.mono ?_
        rintro e w8 ⟨⟨z, p8, rfl, -, -⟩, hb8⟩
        go_wp2_with (refine wpList_store_row rfl 32 (.tmp 14) (.tmp 68) rfl w8.heap.size (saiA z p8) rfl rfl 32 _ (Blk.new w8 #[.int .i64 0, .int .i64 0, .slice none 0 0, .slice none 0 0, .slice none 0 0, .int .i64 0, .int .i64 0, .slice none 0 0, .int .i64 0, .int .i64 0, .int .i64 0, .slice none 0 0, .bool false] 32) (by kernel_rfl) rfl (by simp [Value.oneCell']) ?_)
        go_meet
        exact ⟨rfl, hb8.trans ((below_setRow (bel1 w8 _) (Nat.le_refl _) _).mono hb8.size)⟩
      obtain ⟨rfl, hb8⟩ := hcut
      have hO8 := HO7.out.bel hb8
      have hb9 := HB7.out.trans (hb8.mono HB7.out.size)
      have HN := Lib.hid (HON.out k)
      rw [HSC.out] at HN
      have hlen := HONL.out k
      clear hb8 HC
      by_cases q : sc k = 0
      · have HN2 := Lib.hid (HN.out.trans (by rw [if_pos q]))
        have hq : (sc k == 0) = true := by simpa using q
        obtain ⟨w9, hw9⟩ : ∃ V, V = wc := ⟨_, rfl⟩
        subst hw9
        have hOq := hO8.bel (bel1 w9 (.cells #[.int .i64 (k : Int)] 3))
        have hsq : W1.heap.size ≤ (w9.alloc (.cells #[.int .i64 (k : Int)] 3)).heap.size := by have := hb9.size; simp; omega
        have HOQ := Lib.hid hOq
        have HB9 := Lib.hid (hb9.alloc hb9.size (.cells #[.int .i64 (k : Int)] 3))
        clear hOq hO8 hb9 q
        go_wp2_with (at_builtin; refine list_app (t := 47) (e := 3) (bytes := 8) rfl (.tmp 72) (.tmp 74) rfl int_elem intC_good rfl HOQ.out rfl (sl_int _ All (k : Int) 3 (.of (by omega) (by omega)) trivial) (fun _ _ hc => hc) (by omega) (by omega) hsq ?_; intro v' w' xs' hown' hg' _; obtain ⟨A6, n6, c6, rfl, _⟩ := hown'.sl intC_good; have HBE := Lib.hid (below_app HB9.out HOQ.out hg' hsq); have HOE := Lib.hid hown'; clear hown' hg')
        go_roundg (m - (k + 1))
        case measure => omega
        case rel => exact ⟨k + 1, A6, n6, c6, xs', by omega, by omega, by go_num, rfl, by rw [HN2.out]; exact HOE.out, HBE.out⟩
      · have HN2 := Lib.hid (HN.out.trans (by rw [if_neg q, List.append_nil]))
        have hq : (sc k == 0) = false := by simpa using q
        clear q
        have HO8 := Lib.hid hO8
        clear hO8
        go_wp2_with fail
        go_roundg (m - (k + 1))
        case measure => omega
        case rel => exact ⟨k + 1, A1, n1, c1, xs, by omega, by omega, by go_num, rfl, by rw [HN2.out]; exact HO8.out, hb9⟩
    · obtain rfl : k = m := by omega
      have HO := Lib.hid hO
      clear hO
      go_wp2_with fail
      go_ret2
      exact ⟨_, xs, rfl, by rw [okL_zero]; exact HO.out.mono intC_good HWW.out, HT.out _ hb⟩
end Go.Proofs.YtoilcdgpeilgaaaGreat
