/-
  Words, laws and contracts: SellC, SellE.
-/
import Derived.Test.YtoilcdgpeilgaaaGreatBun20
import Derived.BigQuiet
set_option linter.unusedSimpArgs false
set_option linter.unusedVariables false
namespace Go.Proofs.YtoilcdgpeilgaaaGreat
open Go.RowKit Go.Shelf
def zeroS : Sai := ⟨⟨0, 0, [], []⟩, ⟨[], 0, 0, [], 0⟩, 0, 0, [], false⟩
abbrev zeroP : SaiV := ⟨none, 0, 0, none, 0, 0, none, 0, 0, none, 0, 0, none, 0, 0⟩
def okS (e : Int) (x : Sai) : Sai := if e = 0 then x else zeroS
theorem okS_zero (x : Sai) : okS 0 x = x := rfl
theorem okS_ne {e : Int} (h : ¬ e = 0) (x : Sai) : okS e x = zeroS := if_neg h
theorem zero_in : InI 0 := .of (by decide) (by decide)
theorem zeroS_own (w : World) (base : Nat) (h : base ≤ w.heap.size) : SaiO w base zeroS zeroP :=
  ⟨w, base, Nat.le_refl _, h, Nat.le_refl _, fun _ _ _ => rfl, ⟨⟨[], Own.nil _ _ _ _ _⟩, ⟨[], Own.nil _ _ _ _ _⟩, ⟨[], Own.nil _ _ _ _ _⟩, ⟨[], Own.nil _ _ _ _ _⟩, zero_in, zero_in, zero_in⟩, [], Own.nil _ _ _ _ _⟩
theorem Blk.ret2 {fn : Func} {k u : Tmp} {ty t : TypeId} (hf : fn.results = #[.cell k ty, .tmp u]) {tmps : Array Value} {w : World} {g : Nat} {cs : Array Value} {d : TypeDesc} (hg : Blk w g cs t) (hp : tmps.getD k undef = .pointer (some ⟨g, 0, none⟩)) {e : Value} (he : tmps.getD u undef = e)
    (hu : Tryz.prog.underlying ty = some d) (hd : (match d with | .struct _ | .array _ _ => true | _ => false) = true) (hi : (Tryz.prog.info? ty).map (·.size) = some cs.size) : (results fn tmps).run Tryz.prog w = .ok (.tuple #[.agg cs, e]) w := by
  have h' : w.heap[g]? = some (.cells cs t (0, 0)) := hg
  rw [results_cell_tmp (p := k) (u := u) (ty := ty) hf, hp, he]
  cases d <;> first | simp [asAddr, run_loadVar_row w g t ty cs (0, 0) _ h' hu rfl hi, Sem.run_pure] | simp at hd
noncomputable def sellE1 (x : Sai) (b : Bkg) (kind : Int) : Int := if b.kind ≠ kind ∨ b.state = 3 then 7 else if 0 < b.fol.length ∨ kind = 2 ∧ b.cab ≠ -1 then 1 else if ofE x.ship b ≠ 0 then ofE x.ship b else putE x b
noncomputable def sellE (x : Sai) (b : Bkg) (kind : Int) : Int := if saiE x ≠ 0 then saiE x else sellE1 x b kind
def sellX (x : Sai) (b : Bkg) : Sai := withS x (soldB x b)
def ResS (w' : World) (base : Nat) (E : Int) (X : Sai) (e : Ending) : Prop := ∃ y p', e = .returned (.tuple #[.agg (saiA y p'), .int .i64 E]) ∧ y = okS E X ∧ SaiO w' base y p'
set_option maxRecDepth 100000 in
set_option maxHeartbeats 16000000 in
theorem sell_any (x : Sai) (p : SaiV) (b : Bkg) (A3 : Option Addr) (n3 c3 : Nat) (knd : Int) (w : World) (hS : SaiR w x p) (hf : Sl entryC 3 w All A3 n3 c3 b.fol) (hI : BkIn b) :
    Calls Tryz.prog 87 #[.agg (saiA x p), .agg (bkgA b (.slice A3 n3 c3)), .int .i64 knd] w fun e w' => ResS w' w.heap.size (sellE x b knd) (sellX x b) e ∧ Below w.heap.size w w' := by
  have HCK0 := Lib.hid (fun X hX => saiCheck_any x p X hX)
  have HOW0 := Lib.hid (fun X h ho => stockOwn_any x p X h ho)
  have HPU0 := Lib.hid (fun w0 b0 p base z X h1 h2 h3 h4 ho hk => sput_any w0 b0 x p b A3 n3 c3 base z X h1 h2 h3 h4 ho hI hk)
  have HOF0 := Lib.hid (fun X hc hb ho hf => bookOf_any x.ship p.A p.n p.cap p.B p.m p.cap2 b A3 n3 c3 X hc hb ho hf)
  obtain ⟨r, hr⟩ : ∃ r, r = saiE x := ⟨_, rfl⟩
  obtain ⟨R, hR⟩ : ∃ r, r = sellE x b knd := ⟨_, rfl⟩
  obtain ⟨oe, hoe⟩ : ∃ r, r = ofE x.ship b := ⟨_, rfl⟩
  obtain ⟨pe, hpe⟩ : ∃ r, r = putE x b := ⟨_, rfl⟩
  obtain ⟨Y, hY⟩ : ∃ r, r = sellX x b := ⟨_, rfl⟩
  have hn3 := hf.len
  have HR := Lib.hid (show R = if r ≠ 0 then r else if b.kind ≠ knd ∨ b.state = 3 then 7 else if 0 < n3 ∨ knd = 2 ∧ b.cab ≠ -1 then 1 else if oe ≠ 0 then oe else pe by rw [hR, hr, hoe, hpe, ← hn3]; rfl)
  rw [← hr] at HCK0
  rw [← hoe] at HOF0
  rw [← hpe] at HPU0
  rw [← hR, ← hY]
  have HYE := Lib.hid (show withS x (soldB x b) = Y from hY.symm)
  rw [HYE.out] at HPU0
  have HRE := Lib.hid hr
  have HOE := Lib.hid hoe
  have HS := Lib.hid hS
  have HF := Lib.hid hf
  clear hr hR hoe hpe hY hn3
  obtain ⟨A, n, cap, B, m, cap2, D, nd, cd, E, ne, ce, C, nb, cb⟩ := p
  obtain ⟨id, kind, state, gst, lev, cab, cat, frm, upto, til, fol⟩ := b
  simp only at HOF0 HR
  clear hS hf hI
  go_enter Tryz.func87, Tryz.ntmps87
  go_upto_region 0 with (fail)
  go_cut [3, 4, 6, 7] (fun p p2 p3 p4 wx => ∃ g h z, p = .pointer (some ⟨g, 0, none⟩) ∧ p2 = .pointer (some ⟨h, 0, none⟩) ∧ p3 = .pointer (some ⟨z, 0, none⟩) ∧ p4 = .int .i64 0 ∧ w.heap.size ≤ g ∧ w.heap.size ≤ h ∧ w.heap.size ≤ z ∧ Blk wx g (saiA x ⟨A, n, cap, B, m, cap2, D, nd, cd, E, ne, ce, C, nb, cb⟩) 32 ∧ Blk wx h (bkgA ⟨id, kind, state, gst, lev, cab, cat, frm, upto, til, fol⟩ (.slice A3 n3 c3)) 37 ∧ Blk wx z #[.int .i64 0, .int .i64 0, .slice none 0 0, .slice none 0 0, .slice none 0 0, .int .i64 0, .int .i64 0, .slice none 0 0, .int .i64 0, .int .i64 0, .int .i64 0, .slice none 0 0, .bool false] 32 ∧ Below w.heap.size w wx)
  case first => as_aux_lemma =>
    go_wp2_with fail
    go_meet
    exact ⟨_, _, _, rfl, rfl, rfl, rfl, Nat.le_refl _, by omega, by omega, blk3_0 _ _ _ _, blk3_1 _ _ _ _, blk3_2 _ _ _ _, bel3 _ _ _ _⟩
  obtain ⟨g, h, z, rfl, rfl, rfl, rfl, hg, hh, hz, hG, hH, hZ, hb0⟩ := hcut
  obtain ⟨W1, hW1⟩ : ∃ V, V = wc := ⟨_, rfl⟩
  subst hW1
  have HT := Lib.hid (fun X (hX : Below W1.heap.size W1 X) => hb0.trans (hX.mono hb0.size))
  have HG := Lib.hid (fun X (hX : Below W1.heap.size W1 X) => hG.bel hX)
  have HH := Lib.hid (fun X (hX : Below W1.heap.size W1 X) => hH.bel hX)
  have HZ := Lib.hid (fun X (hX : Below W1.heap.size W1 X) => hZ.bel hX)
  have HSX := Lib.hid (fun X (hX : Below W1.heap.size W1 X) => HS.out.bel (HT.out X hX))
  have HFX := Lib.hid (fun X (hX : Below W1.heap.size W1 X) => HF.out.bel (HT.out X hX))
  have HEND := Lib.hid (show ∀ (E' : Int) X, ¬ E' = 0 → Below W1.heap.size W1 X → ResS (X.setRow z (saiA zeroS zeroP)) w.heap.size E' Y (.returned (.tuple #[.agg (saiA zeroS zeroP), .int .i64 E'])) ∧ Below w.heap.size w (X.setRow z (saiA zeroS zeroP)) from fun E' X h0 hX => by
    have hbz : Below w.heap.size w (X.setRow z (saiA zeroS zeroP)) := ((HT.out X hX).trans (((Kept.refl (fun k => k = z) X).setRow (.inl rfl) _).below (B := w.heap.size) (HT.out X hX).size (fun k hk e => by omega)))
    exact ⟨⟨zeroS, zeroP, rfl, (okS_ne h0 _).symm, zeroS_own _ _ hbz.size⟩, hbz⟩)
  have hb : Below W1.heap.size W1 W1 := Below.refl _ _
  have hszW := hb0.size
  clear hG hH hZ hb0
  have HC := Lib.hid (HCK0.out _ (HSX.out _ hb))
  go_wp2_with (first | (refine wpList_load_row rfl 32 (.tmp 3) rfl g rfl 32 _ (0, 0) _ (HG.out _ hb) Tryz.underlying32 rfl (by kernel_rfl) ?_) | (refine wpList_load_row rfl 37 (.tmp 4) rfl h rfl 37 _ (0, 0) _ (HH.out _ hb) Tryz.underlying37 rfl (by kernel_rfl) ?_) | (refine wpList_store_row rfl 32 (.tmp 6) (.tmp 46) rfl z (saiA zeroS zeroP) rfl rfl 32 _ (HZ.out _ hb) (by kernel_rfl) rfl (by simp [Value.oneCell']) ?_) | (refine wpList_store_row rfl 32 (.tmp 6) (.tmp 57) rfl z (saiA zeroS zeroP) rfl rfl 32 _ (HZ.out _ hb) (by kernel_rfl) rfl (by simp [Value.oneCell']) ?_))
  refine HC.out.mono ?_
  rintro e w1 ⟨rfl, hb1⟩
  replace hb := hb.trans (hb1.mono hb.size)
  clear hb1 HC HCK0
  by_cases q0 : r = 0
  rotate_left
  · obtain rfl : R = r := by rw [HR.out, if_pos q0]
    have q0' : (R != 0) = true := by simpa using q0
    have Q0 := Lib.hid q0
    clear q0
    go_wp2_with (first | (refine wpList_load_row rfl 32 (.tmp 3) rfl g rfl 32 _ (0, 0) _ (HG.out _ hb) Tryz.underlying32 rfl (by kernel_rfl) ?_) | (refine wpList_load_row rfl 37 (.tmp 4) rfl h rfl 37 _ (0, 0) _ (HH.out _ hb) Tryz.underlying37 rfl (by kernel_rfl) ?_) | (refine wpList_store_row rfl 32 (.tmp 6) (.tmp 46) rfl z (saiA zeroS zeroP) rfl rfl 32 _ (HZ.out _ hb) (by kernel_rfl) rfl (by simp [Value.oneCell']) ?_) | (refine wpList_store_row rfl 32 (.tmp 6) (.tmp 57) rfl z (saiA zeroS zeroP) rfl rfl 32 _ (HZ.out _ hb) (by kernel_rfl) rfl (by simp [Value.oneCell']) ?_))
    refine bodyPost_ret (v := .tuple #[.agg (saiA zeroS zeroP), .int .i64 R]) (((HZ.out _ hb).row _).ret2 (k := 6) (u := 7) (by kernel_rfl) rfl rfl Tryz.underlying32 (by kernel_rfl) (by kernel_rfl)) rfl ?_
    exact HEND.out _ _ Q0.out hb
  have HOK := Lib.hid (sai_ok (HRE.out.symm.trans q0))
  have HR1 := Lib.hid (HR.out.trans (if_neg (by rw [q0]; simp)))
  subst q0
  have h1 : w1.cell? ⟨h, 1, none⟩ = some (.int .i64 kind) := (HH.out _ hb).cell rfl
  have h2 : w1.cell? ⟨h, 2, none⟩ = some (.int .i64 state) := (HH.out _ hb).cell rfl
  have h5 : w1.cell? ⟨h, 5, none⟩ = some (.int .i64 cab) := (HH.out _ hb).cell rfl
  have h10 : w1.cell? ⟨h, 10, none⟩ = some (.slice A3 n3 c3) := (HH.out _ hb).cell rfl
  by_cases q1 : kind = knd
  rotate_left
  · obtain rfl : R = 7 := by rw [HR1.out, if_pos (.inl q1)]
    have q1' : (kind != knd) = true := by simpa using q1
    clear q1
    go_wp2_with (first | (refine wpList_load_row rfl 32 (.tmp 3) rfl g rfl 32 _ (0, 0) _ (HG.out _ hb) Tryz.underlying32 rfl (by kernel_rfl) ?_) | (refine wpList_load_row rfl 37 (.tmp 4) rfl h rfl 37 _ (0, 0) _ (HH.out _ hb) Tryz.underlying37 rfl (by kernel_rfl) ?_) | (refine wpList_store_row rfl 32 (.tmp 6) (.tmp 46) rfl z (saiA zeroS zeroP) rfl rfl 32 _ (HZ.out _ hb) (by kernel_rfl) rfl (by simp [Value.oneCell']) ?_) | (refine wpList_store_row rfl 32 (.tmp 6) (.tmp 57) rfl z (saiA zeroS zeroP) rfl rfl 32 _ (HZ.out _ hb) (by kernel_rfl) rfl (by simp [Value.oneCell']) ?_))
    refine bodyPost_ret (v := .tuple #[.agg (saiA zeroS zeroP), .int .i64 7]) (((HZ.out _ hb).row _).ret2 (k := 6) (u := 7) (by kernel_rfl) rfl rfl Tryz.underlying32 (by kernel_rfl) (by kernel_rfl)) rfl ?_
    exact HEND.out _ _ (by decide) hb
  by_cases q2 : state = 3
  · obtain rfl : R = 7 := by rw [HR1.out, if_pos (.inr q2)]
    subst q1 q2
    go_wp2_with (first | (refine wpList_load_row rfl 32 (.tmp 3) rfl g rfl 32 _ (0, 0) _ (HG.out _ hb) Tryz.underlying32 rfl (by kernel_rfl) ?_) | (refine wpList_load_row rfl 37 (.tmp 4) rfl h rfl 37 _ (0, 0) _ (HH.out _ hb) Tryz.underlying37 rfl (by kernel_rfl) ?_) | (refine wpList_store_row rfl 32 (.tmp 6) (.tmp 46) rfl z (saiA zeroS zeroP) rfl rfl 32 _ (HZ.out _ hb) (by kernel_rfl) rfl (by simp [Value.oneCell']) ?_) | (refine wpList_store_row rfl 32 (.tmp 6) (.tmp 57) rfl z (saiA zeroS zeroP) rfl rfl 32 _ (HZ.out _ hb) (by kernel_rfl) rfl (by simp [Value.oneCell']) ?_))
    refine bodyPost_ret (v := .tuple #[.agg (saiA zeroS zeroP), .int .i64 7]) (((HZ.out _ hb).row _).ret2 (k := 6) (u := 7) (by kernel_rfl) rfl rfl Tryz.underlying32 (by kernel_rfl) (by kernel_rfl)) rfl ?_
    exact HEND.out _ _ (by decide) hb
  have HR2 := Lib.hid (HR1.out.trans (if_neg (by simp [q1, q2])))
  have q2' : (state == 3) = false := by simpa using q2
  subst q1
  clear q2
  obtain ⟨tv, htv⟩ : ∃ tv, tv = (decide (0 < n3) || (decide (kind = 2) && decide (cab ≠ -1))) := ⟨_, rfl⟩
  have HTV := Lib.hid htv
  clear htv
  go_upto_region 6 with (fail)
  go_cut [30] (fun p wx => p = .bool tv ∧ wx = w1)
  case first => as_aux_lemma =>
    by_cases q3 : 0 < n3
    · obtain rfl : tv = true := by rw [HTV.out, decide_eq_true q3]; rfl
      have q3' : decide (0 < n3) = true := decide_eq_true q3
      clear q3
      go_wp2_with fail
      go_meet
      exact ⟨rfl, rfl⟩
    have q3' : decide (0 < n3) = false := decide_eq_false q3
    by_cases q4 : kind = 2
    · obtain rfl : tv = decide (cab ≠ -1) := by rw [HTV.out, decide_eq_false q3, decide_eq_true q4]; simp
      clear q3
      subst q4
      by_cases q5 : cab = -1
      · subst q5
        go_wp2_with fail
        go_meet
        exact ⟨by simp, rfl⟩
      · have q5' : (cab != -1) = true := by simpa using q5
        have q6 : decide (cab ≠ -1) = true := decide_eq_true q5
        have Q6 := Lib.hid q6
        clear q5 q6
        go_wp2_with fail
        go_meet
        exact ⟨by rw [Q6.out], rfl⟩
    · obtain rfl : tv = false := by rw [HTV.out, decide_eq_false q3, decide_eq_false q4]; rfl
      have q4' : (kind == 2) = false := by simpa using q4
      clear q3 q4
      go_wp2_with fail
      go_meet
      exact ⟨rfl, rfl⟩
  obtain ⟨rfl, rfl⟩ := hcut
  cases tv
  rotate_left
  · obtain rfl : R = 1 := by
      rw [HR2.out]
      have h := HTV.out
      refine if_pos ?_
      by_cases q3 : 0 < n3
      · exact .inl q3
      · rw [decide_eq_false q3] at h
        simp only [Bool.false_or] at h
        have h4 := Bool.and_eq_true_iff.1 h.symm
        exact .inr ⟨of_decide_eq_true h4.1, of_decide_eq_true h4.2⟩
    go_wp2_with (first | (refine wpList_load_row rfl 32 (.tmp 3) rfl g rfl 32 _ (0, 0) _ (HG.out _ hb) Tryz.underlying32 rfl (by kernel_rfl) ?_) | (refine wpList_load_row rfl 37 (.tmp 4) rfl h rfl 37 _ (0, 0) _ (HH.out _ hb) Tryz.underlying37 rfl (by kernel_rfl) ?_) | (refine wpList_store_row rfl 32 (.tmp 6) (.tmp 46) rfl z (saiA zeroS zeroP) rfl rfl 32 _ (HZ.out _ hb) (by kernel_rfl) rfl (by simp [Value.oneCell']) ?_) | (refine wpList_store_row rfl 32 (.tmp 6) (.tmp 57) rfl z (saiA zeroS zeroP) rfl rfl 32 _ (HZ.out _ hb) (by kernel_rfl) rfl (by simp [Value.oneCell']) ?_))
    refine bodyPost_ret (v := .tuple #[.agg (saiA zeroS zeroP), .int .i64 1]) (((HZ.out _ hb).row _).ret2 (k := 6) (u := 7) (by kernel_rfl) rfl rfl Tryz.underlying32 (by kernel_rfl) (by kernel_rfl)) rfl ?_
    exact HEND.out _ _ (by decide) hb
  have HR3 := Lib.hid (show R = if oe ≠ 0 then oe else pe from HR2.out.trans (if_neg (by
    have h := HTV.out
    intro h2
    rcases h2 with h2 | ⟨h2, h3⟩
    · rw [decide_eq_true h2] at h; cases h
    · rw [decide_eq_true h2, decide_eq_true h3] at h; simp at h)))
  have g0 : wc.cell? ⟨g, 0, none⟩ = some (.int .i64 x.ship.legs) := (HG.out _ hb).cell rfl
  have g1 : wc.cell? ⟨g, 1, none⟩ = some (.int .i64 x.ship.souls) := (HG.out _ hb).cell rfl
  have g2 : wc.cell? ⟨g, 2, none⟩ = some (.slice A n cap) := (HG.out _ hb).cell rfl
  have g3 : wc.cell? ⟨g, 3, none⟩ = some (.slice B m cap2) := (HG.out _ hb).cell rfl
  have HC := Lib.hid (HOF0.out _ (HSX.out _ hb).cats (HSX.out _ hb).cabs HOK.out.bs.ship (HFX.out _ hb))
  clear h1 h2 h5 h10
  go_wp2_with (first | (refine wpList_load_row rfl 32 (.tmp 3) rfl g rfl 32 _ (0, 0) _ (HG.out _ hb) Tryz.underlying32 rfl (by kernel_rfl) ?_) | (refine wpList_load_row rfl 37 (.tmp 4) rfl h rfl 37 _ (0, 0) _ (HH.out _ hb) Tryz.underlying37 rfl (by kernel_rfl) ?_) | (refine wpList_store_row rfl 32 (.tmp 6) (.tmp 46) rfl z (saiA zeroS zeroP) rfl rfl 32 _ (HZ.out _ hb) (by kernel_rfl) rfl (by simp [Value.oneCell']) ?_) | (refine wpList_store_row rfl 32 (.tmp 6) (.tmp 57) rfl z (saiA zeroS zeroP) rfl rfl 32 _ (HZ.out _ hb) (by kernel_rfl) rfl (by simp [Value.oneCell']) ?_))
  refine HC.out.mono ?_
  rintro e w2 ⟨rfl, hb1⟩
  replace hb := hb.trans (hb1.mono hb.size)
  clear hb1 HC HOF0 g0 g1 g2 g3
  by_cases q6 : oe = 0
  rotate_left
  · obtain rfl : R = oe := by rw [HR3.out, if_pos q6]
    have q6' : (R != 0) = true := by simpa using q6
    have Q6 := Lib.hid q6
    clear q6
    go_wp2_with (first | (refine wpList_load_row rfl 32 (.tmp 3) rfl g rfl 32 _ (0, 0) _ (HG.out _ hb) Tryz.underlying32 rfl (by kernel_rfl) ?_) | (refine wpList_load_row rfl 37 (.tmp 4) rfl h rfl 37 _ (0, 0) _ (HH.out _ hb) Tryz.underlying37 rfl (by kernel_rfl) ?_) | (refine wpList_store_row rfl 32 (.tmp 6) (.tmp 46) rfl z (saiA zeroS zeroP) rfl rfl 32 _ (HZ.out _ hb) (by kernel_rfl) rfl (by simp [Value.oneCell']) ?_) | (refine wpList_store_row rfl 32 (.tmp 6) (.tmp 57) rfl z (saiA zeroS zeroP) rfl rfl 32 _ (HZ.out _ hb) (by kernel_rfl) rfl (by simp [Value.oneCell']) ?_))
    refine bodyPost_ret (v := .tuple #[.agg (saiA zeroS zeroP), .int .i64 R]) (((HZ.out _ hb).row _).ret2 (k := 6) (u := 7) (by kernel_rfl) rfl rfl Tryz.underlying32 (by kernel_rfl) (by kernel_rfl)) rfl ?_
    exact HEND.out _ _ Q6.out hb
  have HBK := Lib.hid (bk_ok (HOE.out.symm.trans q6))
  obtain rfl : R = pe := by rw [HR3.out, if_neg (by rw [q6]; simp)]
  subst q6
  have HC := Lib.hid (HOW0.out _ (HSX.out _ hb) HOK.out)
  have hsz2 := hb.size
  go_upto_region 10 with (fail)
  go_cut [9] (fun q wx => ∃ (y : Nat) (p3 : SaiV) (w0 : World) (b0 : Nat), q = .pointer (some ⟨y, 0, none⟩) ∧ Blk wx y (saiA x p3) 216 ∧ SaiW w0 b0 wx w2.heap.size x p3 ∧ w0.heap.size ≤ y ∧ Below w2.heap.size w2 wx)
  case first =>
    go_wp2_with (first | (refine wpList_load_row rfl 32 (.tmp 3) rfl g rfl 32 _ (0, 0) _ (HG.out _ hb) Tryz.underlying32 rfl (by kernel_rfl) ?_) | (refine wpList_load_row rfl 37 (.tmp 4) rfl h rfl 37 _ (0, 0) _ (HH.out _ hb) Tryz.underlying37 rfl (by kernel_rfl) ?_) | (refine wpList_store_row rfl 32 (.tmp 6) (.tmp 46) rfl z (saiA zeroS zeroP) rfl rfl 32 _ (HZ.out _ hb) (by kernel_rfl) rfl (by simp [Value.oneCell']) ?_) | (refine wpList_store_row rfl 32 (.tmp 6) (.tmp 57) rfl z (saiA zeroS zeroP) rfl rfl 32 _ (HZ.out _ hb) (by kernel_rfl) rfl (by simp [Value.oneCell']) ?_))
    refine HC.out.mono ?_
    rintro e w3 ⟨p3, rfl, hO3, hb3⟩
    obtain ⟨w0, b0, hW3⟩ := hO3
    have HW3 := Lib.hid hW3
    clear hW3
    have HB3 := Lib.hid hb3
    clear hb3
    go_wp2_with fail
    go_meet
    exact ⟨_, p3, w0, b0, rfl, blk1 _ _, HW3.out.bel (bel1 _ _), by obtain ⟨_, _, a3, _⟩ := HW3.out; exact a3, HB3.out.trans ((bel1 _ _).mono HB3.out.size)⟩
  obtain ⟨y, p3, w0, b0, rfl, hYb, hW4, hw0, hb3⟩ := hcut
  obtain ⟨w4, hw4⟩ : ∃ V, V = wc := ⟨_, rfl⟩
  subst hw4
  have hsz4 := hb3.size
  replace hb := hb.trans (hb3.mono hb.size)
  have HC := Lib.hid (HPU0.out w0 b0 p3 _ y w4 hW4 hsz4 hYb hw0 HOK.out HBK.out)
  clear hW4 hYb hb3 HPU0
  go_wp2_with (first | (refine wpList_load_row rfl 32 (.tmp 3) rfl g rfl 32 _ (0, 0) _ (HG.out _ hb) Tryz.underlying32 rfl (by kernel_rfl) ?_) | (refine wpList_load_row rfl 37 (.tmp 4) rfl h rfl 37 _ (0, 0) _ (HH.out _ hb) Tryz.underlying37 rfl (by kernel_rfl) ?_) | (refine wpList_store_row rfl 32 (.tmp 6) (.tmp 46) rfl z (saiA zeroS zeroP) rfl rfl 32 _ (HZ.out _ hb) (by kernel_rfl) rfl (by simp [Value.oneCell']) ?_) | (refine wpList_store_row rfl 32 (.tmp 6) (.tmp 57) rfl z (saiA zeroS zeroP) rfl rfl 32 _ (HZ.out _ hb) (by kernel_rfl) rfl (by simp [Value.oneCell']) ?_))
  refine HC.out.mono ?_
  rintro e w5 ⟨rfl, hok, hb5⟩
  have hbE : Below w2.heap.size w4 w5 := hb5
  replace hb := hb.trans (hb5.mono (show W1.heap.size ≤ w2.heap.size from hsz2))
  clear hb5 HC
  have HOKK := Lib.hid hok
  clear hok
  by_cases q7 : R = 0
  rotate_left
  · have q7' : (R != 0) = true := by simpa using q7
    have Q7 := Lib.hid q7
    clear q7
    go_wp2_with (first | (refine wpList_load_row rfl 32 (.tmp 3) rfl g rfl 32 _ (0, 0) _ (HG.out _ hb) Tryz.underlying32 rfl (by kernel_rfl) ?_) | (refine wpList_load_row rfl 37 (.tmp 4) rfl h rfl 37 _ (0, 0) _ (HH.out _ hb) Tryz.underlying37 rfl (by kernel_rfl) ?_) | (refine wpList_store_row rfl 32 (.tmp 6) (.tmp 46) rfl z (saiA zeroS zeroP) rfl rfl 32 _ (HZ.out _ hb) (by kernel_rfl) rfl (by simp [Value.oneCell']) ?_) | (refine wpList_store_row rfl 32 (.tmp 6) (.tmp 57) rfl z (saiA zeroS zeroP) rfl rfl 32 _ (HZ.out _ hb) (by kernel_rfl) rfl (by simp [Value.oneCell']) ?_))
    refine bodyPost_ret (v := .tuple #[.agg (saiA zeroS zeroP), .int .i64 R]) (((HZ.out _ hb).row _).ret2 (k := 6) (u := 7) (by kernel_rfl) rfl rfl Tryz.underlying32 (by kernel_rfl) (by kernel_rfl)) rfl ?_
    exact HEND.out _ _ Q7.out hb
  obtain ⟨p9, hY9, hW9⟩ := HOKK.out q7
  subst q7
  have HY9 := Lib.hid hY9
  have HW9 := Lib.hid hW9
  clear hW9
  clear hY9
  go_wp2_with (first | (refine wpList_load_row rfl 32 (.tmp 61) rfl y rfl 216 _ (0, 0) _ HY9.out Tryz.underlying32 rfl (by kernel_rfl) ?_) | (refine wpList_store_row rfl 32 (.tmp 6) (.tmp 62) rfl z (saiA Y p9) rfl rfl 32 _ (HZ.out _ hb) (by kernel_rfl) rfl (by simp [Value.oneCell']) ?_))
  refine bodyPost_ret (v := .tuple #[.agg (saiA Y p9), .int .i64 0]) (((HZ.out _ hb).row _).ret2 (k := 6) (u := 7) (by kernel_rfl) rfl rfl Tryz.underlying32 (by kernel_rfl) (by kernel_rfl)) rfl ?_
  have hKz : Kept (fun k => k = z) w5 (w5.setRow z (saiA Y p9)) := (Kept.refl (fun k => k = z) w5).setRow (.inl rfl) _
  have hzW : z < W1.heap.size := (HZ.out W1 (Below.refl _ _)).lt
  have hbz := ((HT.out _ hb).trans (hKz.below (B := w.heap.size) (HT.out _ hb).size (fun k hk e => by omega)))
  have hO9 : SaiO w5 w2.heap.size Y p9 := ⟨w0, b0, HW9.out⟩
  exact ⟨⟨Y, p9, rfl, (okS_zero _).symm, (hO9.kept hKz (fun k hk e => by omega)).mono (by omega)⟩, hbz⟩
set_option maxRecDepth 100000 in
set_option maxHeartbeats 8000000 in
theorem Named_any (x : Sai) (p : SaiV) (b : Bkg) (A3 : Option Addr) (n3 c3 : Nat) (w : World) (hS : SaiR w x p) (hf : Sl entryC 3 w All A3 n3 c3 b.fol) (hI : BkIn b) :
    Calls Tryz.prog 21 #[.agg (saiA x p), .agg (bkgA b (.slice A3 n3 c3))] w fun e w' => ResS w' w.heap.size (sellE x b 1) (sellX x b) e ∧ Below w.heap.size w w' := by
  have HC0 := Lib.hid (fun X h1 h2 => sell_any x p b A3 n3 c3 1 X h1 h2 hI)
  obtain ⟨A, n, cap, B, m, cap2, D, nd, cd, E, ne, ce, C, nb, cb⟩ := p
  obtain ⟨id, kind, state, gst, lev, cab, cat, frm, upto, til, fol⟩ := b
  go_enter Tryz.func21, Tryz.ntmps21
  go_upto_region 0 with (fail)
  go_cut [2, 3, 4, 5] (fun p p2 p3 p4 wx => ∃ g h z, p = .pointer (some ⟨g, 0, none⟩) ∧ p2 = .pointer (some ⟨h, 0, none⟩) ∧ p3 = .pointer (some ⟨z, 0, none⟩) ∧ p4 = .int .i64 0 ∧ w.heap.size ≤ z ∧ Blk wx g (saiA x ⟨A, n, cap, B, m, cap2, D, nd, cd, E, ne, ce, C, nb, cb⟩) 32 ∧ Blk wx h (bkgA ⟨id, kind, state, gst, lev, cab, cat, frm, upto, til, fol⟩ (.slice A3 n3 c3)) 37 ∧ Blk wx z #[.int .i64 0, .int .i64 0, .slice none 0 0, .slice none 0 0, .slice none 0 0, .int .i64 0, .int .i64 0, .slice none 0 0, .int .i64 0, .int .i64 0, .int .i64 0, .slice none 0 0, .bool false] 32 ∧ Below w.heap.size w wx)
  case first => as_aux_lemma =>
    go_wp2_with fail
    go_meet
    exact ⟨_, _, _, rfl, rfl, rfl, rfl, by omega, blk3_0 _ _ _ _, blk3_1 _ _ _ _, blk3_2 _ _ _ _, bel3 _ _ _ _⟩
  obtain ⟨g, h, z, rfl, rfl, rfl, rfl, hz, hG, hH, hZ, hb⟩ := hcut
  have HC := Lib.hid (HC0.out _ (hS.bel hb) (hf.bel hb))
  go_wp2_with (first | (refine wpList_load_row rfl 32 (.tmp 2) rfl g rfl 32 _ (0, 0) _ hG Tryz.underlying32 rfl (by kernel_rfl) ?_) | (refine wpList_load_row rfl 37 (.tmp 3) rfl h rfl 37 _ (0, 0) _ hH Tryz.underlying37 rfl (by kernel_rfl) ?_))
  refine HC.out.mono ?_
  rintro e w2 ⟨⟨y, p', rfl, hy, hO⟩, hb2⟩
  have hZ2 := hZ.bel hb2
  have hzl := hZ.lt
  have hsz := hb.size
  replace hb := hb.trans (hb2.mono hb.size)
  have HZ2 := Lib.hid hZ2
  have HO := Lib.hid hO
  clear hO
  have HY := Lib.hid hy
  clear hy
  clear hG hH hZ hb2 HC
  go_wp2_with (refine wpList_store_row rfl 32 (.tmp 4) (.tmp 9) rfl z (saiA y p') rfl rfl 32 _ HZ2.out (by kernel_rfl) rfl (by simp [Value.oneCell']) ?_)
  refine bodyPost_ret (v := .tuple #[.agg (saiA y p'), .int .i64 _]) ((HZ2.out.row _).ret2 (k := 4) (u := 5) (by kernel_rfl) rfl rfl Tryz.underlying32 (by kernel_rfl) (by kernel_rfl)) rfl ?_
  have hKz : Kept (fun k => k = z) w2 (w2.setRow z (saiA y p')) := (Kept.refl (fun k => k = z) w2).setRow (.inl rfl) _
  exact ⟨⟨y, p', rfl, HY.out, (HO.out.kept hKz (fun k hk e => by omega)).mono hsz⟩, hb.trans (hKz.below (B := w.heap.size) hb.size (fun k hk e => by omega))⟩
set_option maxRecDepth 100000 in
set_option maxHeartbeats 8000000 in
theorem Promise_any (x : Sai) (p : SaiV) (b : Bkg) (A3 : Option Addr) (n3 c3 : Nat) (w : World) (hS : SaiR w x p) (hf : Sl entryC 3 w All A3 n3 c3 b.fol) (hI : BkIn b) :
    Calls Tryz.prog 22 #[.agg (saiA x p), .agg (bkgA b (.slice A3 n3 c3))] w fun e w' => ResS w' w.heap.size (sellE x b 2) (sellX x b) e ∧ Below w.heap.size w w' := by
  have HC0 := Lib.hid (fun X h1 h2 => sell_any x p b A3 n3 c3 2 X h1 h2 hI)
  obtain ⟨A, n, cap, B, m, cap2, D, nd, cd, E, ne, ce, C, nb, cb⟩ := p
  obtain ⟨id, kind, state, gst, lev, cab, cat, frm, upto, til, fol⟩ := b
  go_enter Tryz.func22, Tryz.ntmps22
  go_upto_region 0 with (fail)
  go_cut [2, 3, 4, 5] (fun p p2 p3 p4 wx => ∃ g h z, p = .pointer (some ⟨g, 0, none⟩) ∧ p2 = .pointer (some ⟨h, 0, none⟩) ∧ p3 = .pointer (some ⟨z, 0, none⟩) ∧ p4 = .int .i64 0 ∧ w.heap.size ≤ z ∧ Blk wx g (saiA x ⟨A, n, cap, B, m, cap2, D, nd, cd, E, ne, ce, C, nb, cb⟩) 32 ∧ Blk wx h (bkgA ⟨id, kind, state, gst, lev, cab, cat, frm, upto, til, fol⟩ (.slice A3 n3 c3)) 37 ∧ Blk wx z #[.int .i64 0, .int .i64 0, .slice none 0 0, .slice none 0 0, .slice none 0 0, .int .i64 0, .int .i64 0, .slice none 0 0, .int .i64 0, .int .i64 0, .int .i64 0, .slice none 0 0, .bool false] 32 ∧ Below w.heap.size w wx)
  case first => as_aux_lemma =>
    go_wp2_with fail
    go_meet
    exact ⟨_, _, _, rfl, rfl, rfl, rfl, by omega, blk3_0 _ _ _ _, blk3_1 _ _ _ _, blk3_2 _ _ _ _, bel3 _ _ _ _⟩
  obtain ⟨g, h, z, rfl, rfl, rfl, rfl, hz, hG, hH, hZ, hb⟩ := hcut
  have HC := Lib.hid (HC0.out _ (hS.bel hb) (hf.bel hb))
  go_wp2_with (first | (refine wpList_load_row rfl 32 (.tmp 2) rfl g rfl 32 _ (0, 0) _ hG Tryz.underlying32 rfl (by kernel_rfl) ?_) | (refine wpList_load_row rfl 37 (.tmp 3) rfl h rfl 37 _ (0, 0) _ hH Tryz.underlying37 rfl (by kernel_rfl) ?_))
  refine HC.out.mono ?_
  rintro e w2 ⟨⟨y, p', rfl, hy, hO⟩, hb2⟩
  have hZ2 := hZ.bel hb2
  have hzl := hZ.lt
  have hsz := hb.size
  replace hb := hb.trans (hb2.mono hb.size)
  have HZ2 := Lib.hid hZ2
  have HO := Lib.hid hO
  clear hO
  have HY := Lib.hid hy
  clear hy
  clear hG hH hZ hb2 HC
  go_wp2_with (refine wpList_store_row rfl 32 (.tmp 4) (.tmp 9) rfl z (saiA y p') rfl rfl 32 _ HZ2.out (by kernel_rfl) rfl (by simp [Value.oneCell']) ?_)
  refine bodyPost_ret (v := .tuple #[.agg (saiA y p'), .int .i64 _]) ((HZ2.out.row _).ret2 (k := 4) (u := 5) (by kernel_rfl) rfl rfl Tryz.underlying32 (by kernel_rfl) (by kernel_rfl)) rfl ?_
  have hKz : Kept (fun k => k = z) w2 (w2.setRow z (saiA y p')) := (Kept.refl (fun k => k = z) w2).setRow (.inl rfl) _
  exact ⟨⟨y, p', rfl, HY.out, (HO.out.kept hKz (fun k hk e => by omega)).mono hsz⟩, hb.trans (hKz.below (B := w.heap.size) hb.size (fun k hk e => by omega))⟩
end Go.Proofs.YtoilcdgpeilgaaaGreat
namespace Go.Proofs.YtoilcdgpeilgaaaGreat
open Go.RowKit Go.Shelf
def freeI (l : List Bkg) : Int := l.foldl (fun n b => if b.id = n then n + 1 else n) 1
theorem freeI_succ {l : List Bkg} {k : Nat} {b : Bkg} (h : l[k]? = some b) : freeI (l.take (k + 1)) = if b.id = freeI (l.take k) then freeI (l.take k) + 1 else freeI (l.take k) := by
  unfold freeI
  rw [take_snoc h, List.foldl_append]; rfl
theorem freeI_bd (l : List Bkg) : 1 ≤ freeI l ∧ freeI l ≤ 1 + l.length := by
  unfold freeI
  have key : ∀ (l : List Bkg) (n : Int), n ≤ l.foldl (fun n b => if b.id = n then n + 1 else n) n ∧ l.foldl (fun n b => if b.id = n then n + 1 else n) n ≤ n + l.length := by
    intro l
    induction l with
    | nil => intro n; simp
    | cons b l ih =>
      intro n
      rw [List.foldl_cons, List.length_cons]
      by_cases h : b.id = n
      · rw [if_pos h]; have := ih (n + 1); omega
      · rw [if_neg h]; have := ih n; omega
  have := key l 1
  omega
theorem freeI_law : ∀ (l : List Bkg) (n : Int), l.Pairwise (fun a b => a.id < b.id) → (∀ b ∈ l, n ≤ b.id) → (∀ t, n ≤ t → t < l.foldl (fun n b => if b.id = n then n + 1 else n) n → hasId l t = true) ∧ hasId l (l.foldl (fun n b => if b.id = n then n + 1 else n) n) = false
  | [], n, _, _ => ⟨fun t h1 h2 => by simp at h2; omega, rfl⟩
  | b :: l, n, hp, hn => by
    rw [List.pairwise_cons] at hp
    rw [List.foldl_cons]
    have hb := hn b (List.mem_cons_self ..)
    by_cases h : b.id = n
    · rw [if_pos h]
      obtain ⟨h1, h2⟩ := freeI_law l (n + 1) hp.2 (fun c hc => by have := hp.1 c hc; omega)
      have h3 : n + 1 ≤ l.foldl (fun n b => if b.id = n then n + 1 else n) (n + 1) := by
        clear h1 h2
        have key : ∀ (l : List Bkg) (n : Int), n ≤ l.foldl (fun n b => if b.id = n then n + 1 else n) n := by
          intro l
          induction l with
          | nil => intro n; simp
          | cons b l ih =>
            intro n
            rw [List.foldl_cons]
            by_cases h : b.id = n
            · rw [if_pos h]; have := ih (n + 1); omega
            · rw [if_neg h]; exact ih n
        exact key l _
      refine ⟨fun t t1 t2 => ?_, ?_⟩
      · unfold hasId
        rw [List.any_cons]
        by_cases ht : t = n
        · rw [decide_eq_true (by omega)]; rfl
        · have := h1 t (by omega) t2
          unfold hasId at this
          rw [this]; simp
      · unfold hasId at h2 ⊢
        rw [List.any_cons, h2, decide_eq_false (by omega)]; rfl
    · rw [if_neg h]
      have hn2 : ∀ c ∈ l, n + 1 ≤ c.id := fun c hc => by have := hp.1 c hc; omega
      have h0 : l.foldl (fun n b => if b.id = n then n + 1 else n) n = n := by
        clear hp hn hb h
        induction l with
        | nil => rfl
        | cons c l ih =>
          rw [List.foldl_cons, if_neg (by have := hn2 c (List.mem_cons_self ..); omega)]
          exact ih fun d hd => hn2 d (List.mem_cons_of_mem _ hd)
      rw [h0]
      refine ⟨fun t t1 t2 => absurd t2 (by omega), ?_⟩
      unfold hasId
      rw [List.any_cons, decide_eq_false h]
      simp only [Bool.false_or]
      refine List.any_eq_false.2 fun c hc => ?_
      have := hn2 c hc
      simp; omega
set_option maxRecDepth 100000 in
set_option maxHeartbeats 8000000 in
theorem free_any (x : Sai) (p : SaiV) (w : World) (hl : Sl bkgC 11 w All p.C p.nb p.cb x.bks) (h16 : x.bks.length ≤ 16) :
    Calls Tryz.prog 94 #[.agg (saiA x p)] w fun e w' => e = .returned (.int .i64 (freeI x.bks)) ∧ Below w.heap.size w w' := by
  obtain ⟨A, n, cap, B, m, cap2, D, nd, cd, E, ne, ce, C, nb, cb⟩ := p
  simp only at hl
  have hln : x.bks.length = nb := hl.len
  have HL := Lib.hid hl
  have HLN := Lib.hid hln
  have HL16 := Lib.hid (show nb ≤ 16 by omega)
  clear hl hln h16
  go_enter Tryz.func94, Tryz.ntmps94
  go_upto_region 0 with (fail)
  go_cut [1, 2] (fun p _ wx => ∃ g, p = .pointer (some ⟨g, 0, none⟩) ∧ Blk wx g (saiA x ⟨A, n, cap, B, m, cap2, D, nd, cd, E, ne, ce, C, nb, cb⟩) 32 ∧ Below w.heap.size w wx)
  case first => as_aux_lemma =>
    go_wp2_with fail
    go_meet
    exact ⟨_, rfl, blk1 _ _, bel1 _ _⟩
  obtain ⟨g, rfl, hG, hb⟩ := hcut
  have g11 : wc.cell? ⟨g, 11, none⟩ = some (.slice C nb cb) := hG.cell rfl
  clear hG
  go_wp2_with fail
  clear g11
  go_loopg [9, 3] nb (fun gk i c wr => ∃ k : Nat, k ≤ nb ∧ nb - k ≤ gk ∧ i = .int .i64 k ∧ c = .int .i64 (freeI (x.bks.take k)) ∧ Below w.heap.size w wr)
  case atStart => exact ⟨0, Nat.zero_le _, by omega, rfl, rfl, hb⟩
  case round =>
    clear hb
    obtain ⟨k, hk, hgk, rfl, rfl, hb⟩ := hrel
    obtain ⟨fr, hfr⟩ : ∃ f, f = freeI (x.bks.take k) := ⟨_, rfl⟩
    have hfb := freeI_bd (x.bks.take k)
    rw [← hfr] at hfb ⊢
    have hfb2 : fr ≤ 17 := by have h1 := List.length_take_le k x.bks; have := HL16.out; omega
    have hk16 : k ≤ 16 := by have := HL16.out; omega
    by_cases hlt : k < nb
    · skip
      obtain ⟨ab, off, ⟨id, kind, state, gst, lev, cab, cat, frm, upto, til, fol⟩, A3, n3, c3, hA, hx, hF, hI, hcel⟩ := (HL.out.bel hb).bkg hlt
      subst hA
      simp only at hF
      have y0 : wr.cell? ⟨ab, off + k * 11, none⟩ = some (.int .i64 id) := hcel 0 _ rfl
      have y1 : wr.cell? ⟨ab, off + k * 11 + 1, none⟩ = some (.int .i64 kind) := hcel 1 _ rfl
      have y2 : wr.cell? ⟨ab, off + k * 11 + 2, none⟩ = some (.int .i64 state) := hcel 2 _ rfl
      have y3 : wr.cell? ⟨ab, off + k * 11 + 3, none⟩ = some (.int .i64 gst) := hcel 3 _ rfl
      have y4 : wr.cell? ⟨ab, off + k * 11 + 4, none⟩ = some (.bool lev) := hcel 4 _ rfl
      have y5 : wr.cell? ⟨ab, off + k * 11 + 5, none⟩ = some (.int .i64 cab) := hcel 5 _ rfl
      have y6 : wr.cell? ⟨ab, off + k * 11 + 6, none⟩ = some (.int .i64 cat) := hcel 6 _ rfl
      have y7 : wr.cell? ⟨ab, off + k * 11 + 7, none⟩ = some (.int .i64 frm) := hcel 7 _ rfl
      have y8 : wr.cell? ⟨ab, off + k * 11 + 8, none⟩ = some (.int .i64 upto) := hcel 8 _ rfl
      have y9 : wr.cell? ⟨ab, off + k * 11 + 9, none⟩ = some (.int .i64 til) := hcel 9 _ rfl
      have y10 : wr.cell? ⟨ab, off + k * 11 + 10, none⟩ = some (.slice A3 n3 c3) := hcel 10 _ rfl
      clear hcel
      go_upto_region 4 with (fail)
      go_cut [5] (fun p wx => ∃ z, p = .pointer (some ⟨z, 0, none⟩) ∧ Blk wx z (bkgA ⟨id, kind, state, gst, lev, cab, cat, frm, upto, til, fol⟩ (.slice A3 n3 c3)) 37 ∧ Below wr.heap.size wr wx)
      case first => as_aux_lemma =>
        go_wp2_with fail
        go_meet
        exact ⟨_, rfl, blk1 _ _, bel1 _ _⟩
      obtain ⟨z, rfl, hZ, hbz⟩ := hcut
      clear y0 y1 y2 y3 y4 y5 y6 y7 y8 y9 y10
      replace hF := hF.bel hbz
      have HN := Lib.hid (freeI_succ hx)
      have z0 : wc.cell? ⟨z, 0, none⟩ = some (.int .i64 id) := hZ.cell rfl
      have HFR := Lib.hid hfr
      clear hfr
      clear hZ hF hx hI
      by_cases q : id = fr
      · subst q
        have hw : IntKind.i64.wrap (id + 1) = id + 1 := by rw [IntKind.wrap_i64]; omega
        go_wp2_with fail
        go_roundg (nb - (k + 1))
        case measure => omega
        case rel => exact ⟨k + 1, by omega, by omega, by go_num, by rw [HN.out, ← HFR.out, if_pos rfl], hb.trans (hbz.mono hb.size)⟩
      · have q' : (id == fr) = false := by simpa using q
        have Q := Lib.hid q
        clear q
        go_wp2_with fail
        go_roundg (nb - (k + 1))
        case measure => omega
        case rel => exact ⟨k + 1, by omega, by omega, by go_num, by rw [HN.out, ← HFR.out, if_neg Q.out], hb.trans (hbz.mono hb.size)⟩
    · obtain rfl : k = nb := by omega
      have HE := Lib.hid (show fr = freeI x.bks by rw [hfr, List.take_of_length_le (by rw [HLN.out]; exact Nat.le_refl _)])
      clear hfr
      go_wp2_with fail
      go_ret
      exact ⟨by rw [HE.out]; rfl, hb⟩
end Go.Proofs.YtoilcdgpeilgaaaGreat
