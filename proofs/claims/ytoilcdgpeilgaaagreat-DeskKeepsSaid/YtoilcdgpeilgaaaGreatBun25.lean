/-
  Words, laws and contracts: SellC, SellK.
-/
import Derived.Test.YtoilcdgpeilgaaaGreatBun24
import Derived.BigQuiet
set_option linter.unusedSimpArgs false
set_option linter.unusedVariables false
namespace Go.Proofs.YtoilcdgpeilgaaaGreat
open Go.RowKit Go.Shelf
def zeroS : Sai := ⟨⟨0, 0, [], []⟩, ⟨[], 0, 0, [], 0⟩, 0, 0, [], false⟩
abbrev zeroP : SaiV := ⟨none, 0, 0, none, 0, 0, none, 0, 0, none, 0, 0, none, 0, 0⟩
def okS (e : Int) (x : Sai) : Sai := if e = 0 then x else zeroS
theorem okS_zero (x : Sai) : okS 0 x = x := rfl
theorem okS_ne {e : Int} (h : ¬ e = 0) (x : Sai) : okS e x = zeroS := if_neg h
theorem zero_in : InI 0 := .of (by decide) (by decide)
theorem zeroS_own (w : World) (base : Nat) (h : base ≤ w.heap.size) : SaiO w base zeroS zeroP :=
  ⟨w, base, Nat.le_refl _, h, Nat.le_refl _, fun _ _ _ => rfl, ⟨⟨[], Own.nil _ _ _ _ _⟩, ⟨[], Own.nil _ _ _ _ _⟩, ⟨[], Own.nil _ _ _ _ _⟩, ⟨[], Own.nil _ _ _ _ _⟩, zero_in, zero_in, zero_in⟩, [], Own.nil _ _ _ _ _⟩
theorem Blk.ret2 {fn : Func} {k u : Tmp} {ty t : TypeId} (hf : fn.results = #[.cell k ty, .tmp u]) {tmps : Array Value} {w : World} {g : Nat} {cs : Array Value} {d : TypeDesc} (hg : Blk w g cs t) (hp : tmps.getD k undef = .pointer (some ⟨g, 0, none⟩)) {e : Value} (he : tmps.getD u undef = e)
    (hu : Tryz.prog.underlying ty = some d) (hd : (match d with | .struct _ | .array _ _ => true | _ => false) = true) (hi : (Tryz.prog.info? ty).map (·.size) = some cs.size) : (results fn tmps).run Tryz.prog w = .ok (.tuple #[.agg cs, e]) w := by
  have h' : w.heap[g]? = some (.cells cs t (0, 0)) := hg
  rw [results_cell_tmp (p := k) (u := u) (ty := ty) hf, hp, he]
  cases d <;> first | simp [asAddr, run_loadVar_row w g t ty cs (0, 0) _ h' hu rfl hi, Sem.run_pure] | simp at hd
noncomputable def sellE1 (x : Sai) (b : Bkg) (kind : Int) : Int := if b.kind ≠ kind ∨ b.state = 3 then 7 else if 0 < b.fol.length ∨ kind = 2 ∧ b.cab ≠ -1 then 1 else if ofE x.ship b ≠ 0 then ofE x.ship b else putE x b
noncomputable def sellE (x : Sai) (b : Bkg) (kind : Int) : Int := if saiE x ≠ 0 then saiE x else sellE1 x b kind
def sellX (x : Sai) (b : Bkg) : Sai := withS x (soldB x b)
def ResS (w' : World) (base : Nat) (E : Int) (X : Sai) (e : Ending) : Prop := ∃ y p', e = .returned (.tuple #[.agg (saiA y p'), .int .i64 E]) ∧ y = okS E X ∧ SaiO w' base y p'
set_option maxRecDepth 100000 in
set_option maxHeartbeats 16000000 in
theorem sell_any (x : Sai) (p : SaiV) (b : Bkg) (A3 : Option Addr) (n3 c3 : Nat) (knd : Int) (w : World) (hS : SaiR w x p) (hf : Sl entryC 3 w All A3 n3 c3 b.fol) (hI : BkIn b) :
    Calls Tryz.prog 87 #[.agg (saiA x p), .agg (bkgA b (.slice A3 n3 c3)), .int .i64 knd] w fun e w' => ResS w' w.heap.size (sellE x b knd) (sellX x b) e ∧ Below w.heap.size w w' := by
  have HCK0 := Lib.hid (fun X hX => saiCheck_any x p X hX)
  have HOW0 := Lib.hid (fun X h ho => stockOwn_any x p X h ho)
  have HPU0 := Lib.hid (fun w0 b0 p base z X h1 h2 h3 h4 ho hk => sput_any w0 b0 x p b A3 n3 c3 base z X h1 h2 h3 h4 ho hI hk)
  have HOF0 := Lib.hid (fun X hc hb ho hf => bookOf_any x.ship p.A p.n p.cap p.B p.m p.cap2 b A3 n3 c3 X hc hb ho hf)
  obtain ⟨r, hr⟩ : ∃ r, r = saiE x := ⟨_, rfl⟩
  obtain ⟨R, hR⟩ : ∃ r, r = sellE x b knd := ⟨_, rfl⟩
  obtain ⟨oe, hoe⟩ : ∃ r, r = ofE x.ship b := ⟨_, rfl⟩
  obtain ⟨pe, hpe⟩ : ∃ r, r = putE x b := ⟨_, rfl⟩
  obtain ⟨Y, hY⟩ : ∃ r, r = sellX x b := ⟨_, rfl⟩
  have hn3 := hf.len
  have HR := Lib.hid (show R = if r ≠ 0 then r else if b.kind ≠ knd ∨ b.state = 3 then 7 else if 0 < n3 ∨ knd = 2 ∧ b.cab ≠ -1 then 1 else if oe ≠ 0 then oe else pe by rw [hR, hr, hoe, hpe, ← hn3]; rfl)
  rw [← hr] at HCK0
  rw [← hoe] at HOF0
  rw [← hpe] at HPU0
  rw [← hR, ← hY]
  have HYE := Lib.hid (show withS x (soldB x b) = Y from hY.symm)
  rw [HYE.out] at HPU0
  have HRE := Lib.hid hr
  have HOE := Lib.hid hoe
  have HS := Lib.hid hS
  have HF := Lib.hid hf
  clear hr hR hoe hpe hY hn3
  obtain ⟨A, n, cap, B, m, cap2, D, nd, cd, E, ne, ce, C, nb, cb⟩ := p
  obtain ⟨id, kind, state, gst, lev, cab, cat, frm, upto, til, fol⟩ := b
  simp only at HOF0 HR
  clear hS hf hI
  go_enter Tryz.func87, Tryz.ntmps87
  go_upto_region 0 with (fail)
  go_cut [3, 4, 6, 7] (fun p p2 p3 p4 wx => ∃ g h z, p = .pointer (some ⟨g, 0, none⟩) ∧ p2 = .pointer (some ⟨h, 0, none⟩) ∧ p3 = .pointer (some ⟨z, 0, none⟩) ∧ p4 = .int .i64 0 ∧ w.heap.size ≤ g ∧ w.heap.size ≤ h ∧ w.heap.size ≤ z ∧ Blk wx g (saiA x ⟨A, n, cap, B, m, cap2, D, nd, cd, E, ne, ce, C, nb, cb⟩) 32 ∧ Blk wx h (bkgA ⟨id, kind, state, gst, lev, cab, cat, frm, upto, til, fol⟩ (.slice A3 n3 c3)) 37 ∧ Blk wx z #[.int .i64 0, .int .i64 0, .slice none 0 0, .slice none 0 0, .slice none 0 0, .int .i64 0, .int .i64 0, .slice none 0 0, .int .i64 0, .int .i64 0, .int .i64 0, .slice none 0 0, .bool false] 32 ∧ Below w.heap.size w wx)
  case first => as_aux_lemma =>
    go_wp2_with fail
    go_meet
    exact ⟨_, _, _, rfl, rfl, rfl, rfl, Nat.le_refl _, by omega, by omega, blk3_0 _ _ _ _, blk3_1 _ _ _ _, blk3_2 _ _ _ _, bel3 _ _ _ _⟩
  obtain ⟨g, h, z, rfl, rfl, rfl, rfl, hg, hh, hz, hG, hH, hZ, hb0⟩ := hcut
  obtain ⟨W1, hW1⟩ : ∃ V, V = wc := ⟨_, rfl⟩
  subst hW1
  have HT := Lib.hid (fun X (hX : Below W1.heap.size W1 X) => hb0.trans (hX.mono hb0.size))
  have HG := Lib.hid (fun X (hX : Below W1.heap.size W1 X) => hG.bel hX)
  have HH := Lib.hid (fun X (hX : Below W1.heap.size W1 X) => hH.bel hX)
  have HZ := Lib.hid (fun X (hX : Below W1.heap.size W1 X) => hZ.bel hX)
  have HSX := Lib.hid (fun X (hX : Below W1.heap.size W1 X) => HS.out.bel (HT.out X hX))
  have HFX := Lib.hid (fun X (hX : Below W1.heap.size W1 X) => HF.out.bel (HT.out X hX))
  have HEND := Lib.hid (show ∀ (E' : Int) X, ¬ E' = 0 → Below W1.heap.size W1 X → ResS (X.setRow z (saiA zeroS zeroP)) w.heap.size E' Y (.returned (.tuple #[.agg (saiA zeroS zeroP), .int .i64 E'])) ∧ Below w.heap.size w (X.setRow z (saiA zeroS zeroP)) from fun E' X h0 hX => by
    have hbz : Below w.heap.size w (X.setRow z (saiA zeroS zeroP)) := ((HT.out X hX).trans (((Kept.refl (fun k => k = z) X).setRow (.inl rfl) _).below (B := w.heap.size) (HT.out X hX).size (fun k hk e => by omega)))
    exact ⟨⟨zeroS, zeroP, rfl, (okS_ne h0 _).symm, zeroS_own _ _ hbz.size⟩, hbz⟩)
  have hb : Below W1.heap.size W1 W1 := Below.refl _ _
  have hszW := hb0.size
  clear hG hH hZ hb0
  have HC := Lib.hid (HCK0.out _ (HSX.out _ hb))
  go_wp2_with (first | (refine wpList_load_row rfl 32 (.tmp 3) rfl g rfl 32 _ (0, 0) _ (HG.out _ hb) Tryz.underlying32 rfl (by kernel_rfl) ?_) | (refine wpList_load_row rfl 37 (.tmp 4) rfl h rfl 37 _ (0, 0) _ (HH.out _ hb) Tryz.underlying37 rfl (by kernel_rfl) ?_) | (refine wpList_store_row rfl 32 (.tmp 6) (.tmp 46) rfl z (saiA zeroS zeroP) rfl rfl 32 _ (HZ.out _ hb) (by kernel_rfl) rfl (by simp [Value.oneCell']) ?_) | (refine wpList_store_row rfl 32 (.tmp 6) (.tmp 57) rfl z (saiA zeroS zeroP) rfl rfl 32 _ (HZ.out _ hb) (by kernel_rfl) rfl (by simp [Value.oneCell']) ?_))
  refine HC.out.mono ?_
  rintro e w1 ⟨rfl, hb1⟩
  replace hb := hb.trans (hb1.mono hb.size)
  clear hb1 HC HCK0
  by_cases q0 : r = 0
  rotate_left
  · obtain rfl : R = r := by rw [HR.out, if_pos q0]
    have q0' : (R != 0) = true := by simpa using q0
    have Q0 := Lib.hid q0
    clear q0
    go_wp2_with (first | (refine wpList_load_row rfl 32 (.tmp 3) rfl g rfl 32 _ (0, 0) _ (HG.out _ hb) Tryz.underlying32 rfl (by kernel_rfl) ?_) | (refine wpList_load_row rfl 37 (.tmp 4) rfl h rfl 37 _ (0, 0) _ (HH.out _ hb) Tryz.underlying37 rfl (by kernel_rfl) ?_) | (refine wpList_store_row rfl 32 (.tmp 6) (.tmp 46) rfl z (saiA zeroS zeroP) rfl rfl 32 _ (HZ.out _ hb) (by kernel_rfl) rfl (by simp [Value.oneCell']) ?_) | (refine wpList_store_row rfl 32 (.tmp 6) (.tmp 57) rfl z (saiA zeroS zeroP) rfl rfl 32 _ (HZ.out _ hb) (by kernel_rfl) rfl (by simp [Value.oneCell']) ?_))
    refine bodyPost_ret (v := .tuple #[.agg (saiA zeroS zeroP), .int .i64 R]) (((HZ.out _ hb).row _).ret2 (k := 6) (u := 7) (by kernel_rfl) rfl rfl Tryz.underlying32 (by kernel_rfl) (by kernel_rfl)) rfl ?_
    exact HEND.out _ _ Q0.out hb
  have HOK := Lib.hid (sai_ok (HRE.out.symm.trans q0))
  have HR1 := Lib.hid (HR.out.trans (if_neg (by rw [q0]; simp)))
  subst q0
  have h1 : w1.cell? ⟨h, 1, none⟩ = some (.int .i64 kind) := (HH.out _ hb).cell rfl
  have h2 : w1.cell? ⟨h, 2, none⟩ = some (.int .i64 state) := (HH.out _ hb).cell rfl
  have h5 : w1.cell? ⟨h, 5, none⟩ = some (.int .i64 cab) := (HH.out _ hb).cell rfl
  have h10 : w1.cell? ⟨h, 10, none⟩ = some (.slice A3 n3 c3) := (HH.out _ hb).cell rfl
  by_cases q1 : kind = knd
  rotate_left
  · obtain rfl : R = 7 := by rw [HR1.out, if_pos (.inl q1)]
    have q1' : (kind != knd) = true := by simpa using q1
    clear q1
    go_wp2_with (first | (refine wpList_load_row rfl 32 (.tmp 3) rfl g rfl 32 _ (0, 0) _ (HG.out _ hb) Tryz.underlying32 rfl (by kernel_rfl) ?_) | (refine wpList_load_row rfl 37 (.tmp 4) rfl h rfl 37 _ (0, 0) _ (HH.out _ hb) Tryz.underlying37 rfl (by kernel_rfl) ?_) | (refine wpList_store_row rfl 32 (.tmp 6) (.tmp 46) rfl z (saiA zeroS zeroP) rfl rfl 32 _ (HZ.out _ hb) (by kernel_rfl) rfl (by simp [Value.oneCell']) ?_) | (refine wpList_store_row rfl 32 (.tmp 6) (.tmp 57) rfl z (saiA zeroS zeroP) rfl rfl 32 _ (HZ.out _ hb) (by kernel_rfl) rfl (by simp [Value.oneCell']) ?_))
    refine bodyPost_ret (v := .tuple #[.agg (saiA zeroS zeroP), .int .i64 7]) (((HZ.out _ hb).row _).ret2 (k := 6) (u := 7) (by kernel_rfl) rfl rfl Tryz.underlying32 (by kernel_rfl) (by kernel_rfl)) rfl ?_
    exact HEND.out _ _ (by decide) hb
  by_cases q2 : state = 3
  · obtain rfl : R = 7 := by rw [HR1.out, if_pos (.inr q2)]
    subst q1 q2
    go_wp2_with (first | (refine wpList_load_row rfl 32 (.tmp 3) rfl g rfl 32 _ (0, 0) _ (HG.out _ hb) Tryz.underlying32 rfl (by kernel_rfl) ?_) | (refine wpList_load_row rfl 37 (.tmp 4) rfl h rfl 37 _ (0, 0) _ (HH.out _ hb) Tryz.underlying37 rfl (by kernel_rfl) ?_) | (refine wpList_store_row rfl 32 (.tmp 6) (.tmp 46) rfl z (saiA zeroS zeroP) rfl rfl 32 _ (HZ.out _ hb) (by kernel_rfl) rfl (by simp [Value.oneCell']) ?_) | (refine wpList_store_row rfl 32 (.tmp 6) (.tmp 57) rfl z (saiA zeroS zeroP) rfl rfl 32 _ (HZ.out _ hb) (by kernel_rfl) rfl (by simp [Value.oneCell']) ?_))
    refine bodyPost_ret (v := .tuple #[.agg (saiA zeroS zeroP), .int .i64 7]) (((HZ.out _ hb).row _).ret2 (k := 6) (u := 7) (by kernel_rfl) rfl rfl Tryz.underlying32 (by kernel_rfl) (by kernel_rfl)) rfl ?_
    exact HEND.out _ _ (by decide) hb
  have HR2 := Lib.hid (HR1.out.trans (if_neg (by simp [q1, q2])))
  have q2' : (state == 3) = false := by simpa using q2
  subst q1
  clear q2
  obtain ⟨tv, htv⟩ : ∃ tv, tv = (decide (0 < n3) || (decide (kind = 2) && decide (cab ≠ -1))) := ⟨_, rfl⟩
  have HTV := Lib.hid htv
  clear htv
  go_upto_region 6 with (fail)
  go_cut [30] (fun p wx => p = .bool tv ∧ wx = w1)
  case first => as_aux_lemma =>
    by_cases q3 : 0 < n3
    · obtain rfl : tv = true := by rw [HTV.out, decide_eq_true q3]; rfl
      have q3' : decide (0 < n3) = true := decide_eq_true q3
      clear q3
      go_wp2_with fail
      go_meet
      exact ⟨rfl, rfl⟩
    have q3' : decide (0 < n3) = false := decide_eq_false q3
    by_cases q4 : kind = 2
    · obtain rfl : tv = decide (cab ≠ -1) := by rw [HTV.out, decide_eq_false q3, decide_eq_true q4]; simp
      clear q3
      subst q4
      by_cases q5 : cab = -1
      · subst q5
        go_wp2_with fail
        go_meet
        exact ⟨by simp, rfl⟩
      · have q5' : (cab != -1) = true := by simpa using q5
        have q6 : decide (cab ≠ -1) = true := decide_eq_true q5
        have Q6 := Lib.hid q6
        clear q5 q6
        go_wp2_with fail
        go_meet
        exact ⟨by rw [Q6.out], rfl⟩
    · obtain rfl : tv = false := by rw [HTV.out, decide_eq_false q3, decide_eq_false q4]; rfl
      have q4' : (kind == 2) = false := by simpa using q4
      clear q3 q4
      go_wp2_with fail
      go_meet
      exact ⟨rfl, rfl⟩
  obtain ⟨rfl, rfl⟩ := hcut
  cases tv
  rotate_left
  · obtain rfl : R = 1 := by
      rw [HR2.out]
      have h := HTV.out
      refine if_pos ?_
      by_cases q3 : 0 < n3
      · exact .inl q3
      · rw [decide_eq_false q3] at h
        simp only [Bool.false_or] at h
        have h4 := Bool.and_eq_true_iff.1 h.symm
        exact .inr ⟨of_decide_eq_true h4.1, of_decide_eq_true h4.2⟩
    go_wp2_with (first | (refine wpList_load_row rfl 32 (.tmp 3) rfl g rfl 32 _ (0, 0) _ (HG.out _ hb) Tryz.underlying32 rfl (by kernel_rfl) ?_) | (refine wpList_load_row rfl 37 (.tmp 4) rfl h rfl 37 _ (0, 0) _ (HH.out _ hb) Tryz.underlying37 rfl (by kernel_rfl) ?_) | (refine wpList_store_row rfl 32 (.tmp 6) (.tmp 46) rfl z (saiA zeroS zeroP) rfl rfl 32 _ (HZ.out _ hb) (by kernel_rfl) rfl (by simp [Value.oneCell']) ?_) | (refine wpList_store_row rfl 32 (.tmp 6) (.tmp 57) rfl z (saiA zeroS zeroP) rfl rfl 32 _ (HZ.out _ hb) (by kernel_rfl) rfl (by simp [Value.oneCell']) ?_))
    refine bodyPost_ret (v := .tuple #[.agg (saiA zeroS zeroP), .int .i64 1]) (((HZ.out _ hb).row _).ret2 (k := 6) (u := 7) (by kernel_rfl) rfl rfl Tryz.underlying32 (by kernel_rfl) (by kernel_rfl)) rfl ?_
    exact HEND.out _ _ (by decide) hb
  have HR3 := Lib.hid (show R = if oe ≠ 0 then oe else pe from HR2.out.trans (if_neg (by
    have h := HTV.out
    intro h2
    rcases h2 with h2 | ⟨h2, h3⟩
    · rw [decide_eq_true h2] at h; cases h
    · rw [decide_eq_true h2, decide_eq_true h3] at h; simp at h)))
  have g0 : wc.cell? ⟨g, 0, none⟩ = some (.int .i64 x.ship.legs) := (HG.out _ hb).cell rfl
  have g1 : wc.cell? ⟨g, 1, none⟩ = some (.int .i64 x.ship.souls) := (HG.out _ hb).cell rfl
  have g2 : wc.cell? ⟨g, 2, none⟩ = some (.slice A n cap) := (HG.out _ hb).cell rfl
  have g3 : wc.cell? ⟨g, 3, none⟩ = some (.slice B m cap2) := (HG.out _ hb).cell rfl
  have HC := Lib.hid (HOF0.out _ (HSX.out _ hb).cats (HSX.out _ hb).cabs HOK.out.bs.ship (HFX.out _ hb))
  clear h1 h2 h5 h10
  go_wp2_with (first | (refine wpList_load_row rfl 32 (.tmp 3) rfl g rfl 32 _ (0, 0) _ (HG.out _ hb) Tryz.underlying32 rfl (by kernel_rfl) ?_) | (refine wpList_load_row rfl 37 (.tmp 4) rfl h rfl 37 _ (0, 0) _ (HH.out _ hb) Tryz.underlying37 rfl (by kernel_rfl) ?_) | (refine wpList_store_row rfl 32 (.tmp 6) (.tmp 46) rfl z (saiA zeroS zeroP) rfl rfl 32 _ (HZ.out _ hb) (by kernel_rfl) rfl (by simp [Value.oneCell']) ?_) | (refine wpList_store_row rfl 32 (.tmp 6) (.tmp 57) rfl z (saiA zeroS zeroP) rfl rfl 32 _ (HZ.out _ hb) (by kernel_rfl) rfl (by simp [Value.oneCell']) ?_))
  refine HC.out.mono ?_
  rintro e w2 ⟨rfl, hb1⟩
  replace hb := hb.trans (hb1.mono hb.size)
  clear hb1 HC HOF0 g0 g1 g2 g3
  by_cases q6 : oe = 0
  rotate_left
  · obtain rfl : R = oe := by rw [HR3.out, if_pos q6]
    have q6' : (R != 0) = true := by simpa using q6
    have Q6 := Lib.hid q6
    clear q6
    go_wp2_with (first | (refine wpList_load_row rfl 32 (.tmp 3) rfl g rfl 32 _ (0, 0) _ (HG.out _ hb) Tryz.underlying32 rfl (by kernel_rfl) ?_) | (refine wpList_load_row rfl 37 (.tmp 4) rfl h rfl 37 _ (0, 0) _ (HH.out _ hb) Tryz.underlying37 rfl (by kernel_rfl) ?_) | (refine wpList_store_row rfl 32 (.tmp 6) (.tmp 46) rfl z (saiA zeroS zeroP) rfl rfl 32 _ (HZ.out _ hb) (by kernel_rfl) rfl (by simp [Value.oneCell']) ?_) | (refine wpList_store_row rfl 32 (.tmp 6) (.tmp 57) rfl z (saiA zeroS zeroP) rfl rfl 32 _ (HZ.out _ hb) (by kernel_rfl) rfl (by simp [Value.oneCell']) ?_))
    refine bodyPost_ret (v := .tuple #[.agg (saiA zeroS zeroP), .int .i64 R]) (((HZ.out _ hb).row _).ret2 (k := 6) (u := 7) (by kernel_rfl) rfl rfl Tryz.underlying32 (by kernel_rfl) (by kernel_rfl)) rfl ?_
    exact HEND.out _ _ Q6.out hb
  have HBK := Lib.hid (bk_ok (HOE.out.symm.trans q6))
  obtain rfl : R = pe := by rw [HR3.out, if_neg (by rw [q6]; simp)]
  subst q6
  have HC := Lib.hid (HOW0.out _ (HSX.out _ hb) HOK.out)
  have hsz2 := hb.size
  go_upto_region 10 with (fail)
  go_cut [9] (fun q wx => ∃ (y : Nat) (p3 : SaiV) (w0 : World) (b0 : Nat), q = .pointer (some ⟨y, 0, none⟩) ∧ Blk wx y (saiA x p3) 216 ∧ SaiW w0 b0 wx w2.heap.size x p3 ∧ w0.heap.size ≤ y ∧ Below w2.heap.size w2 wx)
  case first =>
    go_wp2_with (first | (refine wpList_load_row rfl 32 (.tmp 3) rfl g rfl 32 _ (0, 0) _ (HG.out _ hb) Tryz.underlying32 rfl (by kernel_rfl) ?_) | (refine wpList_load_row rfl 37 (.tmp 4) rfl h rfl 37 _ (0, 0) _ (HH.out _ hb) Tryz.underlying37 rfl (by kernel_rfl) ?_) | (refine wpList_store_row rfl 32 (.tmp 6) (.tmp 46) rfl z (saiA zeroS zeroP) rfl rfl 32 _ (HZ.out _ hb) (by kernel_rfl) rfl (by simp [Value.oneCell']) ?_) | (refine wpList_store_row rfl 32 (.tmp 6) (.tmp 57) rfl z (saiA zeroS zeroP) rfl rfl 32 _ (HZ.out _ hb) (by kernel_rfl) rfl (by simp [Value.oneCell']) ?_))
    refine HC.out.mono ?_
    rintro e w3 ⟨p3, rfl, hO3, hb3⟩
    obtain ⟨w0, b0, hW3⟩ := hO3
    have HW3 := Lib.hid hW3
    clear hW3
    have HB3 := Lib.hid hb3
    clear hb3
    go_wp2_with fail
    go_meet
    exact ⟨_, p3, w0, b0, rfl, blk1 _ _, HW3.out.bel (bel1 _ _), by obtain ⟨_, _, a3, _⟩ := HW3.out; exact a3, HB3.out.trans ((bel1 _ _).mono HB3.out.size)⟩
  obtain ⟨y, p3, w0, b0, rfl, hYb, hW4, hw0, hb3⟩ := hcut
  obtain ⟨w4, hw4⟩ : ∃ V, V = wc := ⟨_, rfl⟩
  subst hw4
  have hsz4 := hb3.size
  replace hb := hb.trans (hb3.mono hb.size)
  have HC := Lib.hid (HPU0.out w0 b0 p3 _ y w4 hW4 hsz4 hYb hw0 HOK.out HBK.out)
  clear hW4 hYb hb3 HPU0
  go_wp2_with (first | (refine wpList_load_row rfl 32 (.tmp 3) rfl g rfl 32 _ (0, 0) _ (HG.out _ hb) Tryz.underlying32 rfl (by kernel_rfl) ?_) | (refine wpList_load_row rfl 37 (.tmp 4) rfl h rfl 37 _ (0, 0) _ (HH.out _ hb) Tryz.underlying37 rfl (by kernel_rfl) ?_) | (refine wpList_store_row rfl 32 (.tmp 6) (.tmp 46) rfl z (saiA zeroS zeroP) rfl rfl 32 _ (HZ.out _ hb) (by kernel_rfl) rfl (by simp [Value.oneCell']) ?_) | (refine wpList_store_row rfl 32 (.tmp 6) (.tmp 57) rfl z (saiA zeroS zeroP) rfl rfl 32 _ (HZ.out _ hb) (by kernel_rfl) rfl (by simp [Value.oneCell']) ?_))
  refine HC.out.mono ?_
  rintro e w5 ⟨rfl, hok, hb5⟩
  have hbE : Below w2.heap.size w4 w5 := hb5
  replace hb := hb.trans (hb5.mono (show W1.heap.size ≤ w2.heap.size from hsz2))
  clear hb5 HC
  have HOKK := Lib.hid hok
  clear hok
  by_cases q7 : R = 0
  rotate_left
  · have q7' : (R != 0) = true := by simpa using q7
    have Q7 := Lib.hid q7
    clear q7
    go_wp2_with (first | (refine wpList_load_row rfl 32 (.tmp 3) rfl g rfl 32 _ (0, 0) _ (HG.out _ hb) Tryz.underlying32 rfl (by kernel_rfl) ?_) | (refine wpList_load_row rfl 37 (.tmp 4) rfl h rfl 37 _ (0, 0) _ (HH.out _ hb) Tryz.underlying37 rfl (by kernel_rfl) ?_) | (refine wpList_store_row rfl 32 (.tmp 6) (.tmp 46) rfl z (saiA zeroS zeroP) rfl rfl 32 _ (HZ.out _ hb) (by kernel_rfl) rfl (by simp [Value.oneCell']) ?_) | (refine wpList_store_row rfl 32 (.tmp 6) (.tmp 57) rfl z (saiA zeroS zeroP) rfl rfl 32 _ (HZ.out _ hb) (by kernel_rfl) rfl (by simp [Value.oneCell']) ?_))
    refine bodyPost_ret (v := .tuple #[.agg (saiA zeroS zeroP), .int .i64 R]) (((HZ.out _ hb).row _).ret2 (k := 6) (u := 7) (by kernel_rfl) rfl rfl Tryz.underlying32 (by kernel_rfl) (by kernel_rfl)) rfl ?_
    exact HEND.out _ _ Q7.out hb
  obtain ⟨p9, hY9, hW9⟩ := HOKK.out q7
  subst q7
  have HY9 := Lib.hid hY9
  have HW9 := Lib.hid hW9
  clear hW9
  clear hY9
  go_wp2_with (first | (refine wpList_load_row rfl 32 (.tmp 61) rfl y rfl 216 _ (0, 0) _ HY9.out Tryz.underlying32 rfl (by kernel_rfl) ?_) | (refine wpList_store_row rfl 32 (.tmp 6) (.tmp 62) rfl z (saiA Y p9) rfl rfl 32 _ (HZ.out _ hb) (by kernel_rfl) rfl (by simp [Value.oneCell']) ?_))
  refine bodyPost_ret (v := .tuple #[.agg (saiA Y p9), .int .i64 0]) (((HZ.out _ hb).row _).ret2 (k := 6) (u := 7) (by kernel_rfl) rfl rfl Tryz.underlying32 (by kernel_rfl) (by kernel_rfl)) rfl ?_
  have hKz : Kept (fun k => k = z) w5 (w5.setRow z (saiA Y p9)) := (Kept.refl (fun k => k = z) w5).setRow (.inl rfl) _
  have hzW : z < W1.heap.size := (HZ.out W1 (Below.refl _ _)).lt
  have hbz := ((HT.out _ hb).trans (hKz.below (B := w.heap.size) (HT.out _ hb).size (fun k hk e => by omega)))
  have hO9 : SaiO w5 w2.heap.size Y p9 := ⟨w0, b0, HW9.out⟩
  exact ⟨⟨Y, p9, rfl, (okS_zero _).symm, (hO9.kept hKz (fun k hk e => by omega)).mono (by omega)⟩, hbz⟩
set_option maxRecDepth 100000 in
set_option maxHeartbeats 8000000 in
theorem Named_any (x : Sai) (p : SaiV) (b : Bkg) (A3 : Option Addr) (n3 c3 : Nat) (w : World) (hS : SaiR w x p) (hf : Sl entryC 3 w All A3 n3 c3 b.fol) (hI : BkIn b) :
    Calls Tryz.prog 21 #[.agg (saiA x p), .agg (bkgA b (.slice A3 n3 c3))] w fun e w' => ResS w' w.heap.size (sellE x b 1) (sellX x b) e ∧ Below w.heap.size w w' := by
  have HC0 := Lib.hid (fun X h1 h2 => sell_any x p b A3 n3 c3 1 X h1 h2 hI)
  obtain ⟨A, n, cap, B, m, cap2, D, nd, cd, E, ne, ce, C, nb, cb⟩ := p
  obtain ⟨id, kind, state, gst, lev, cab, cat, frm, upto, til, fol⟩ := b
  go_enter Tryz.func21, Tryz.ntmps21
  go_upto_region 0 with (fail)
  go_cut [2, 3, 4, 5] (fun p p2 p3 p4 wx => ∃ g h z, p = .pointer (some ⟨g, 0, none⟩) ∧ p2 = .pointer (some ⟨h, 0, none⟩) ∧ p3 = .pointer (some ⟨z, 0, none⟩) ∧ p4 = .int .i64 0 ∧ w.heap.size ≤ z ∧ Blk wx g (saiA x ⟨A, n, cap, B, m, cap2, D, nd, cd, E, ne, ce, C, nb, cb⟩) 32 ∧ Blk wx h (bkgA ⟨id, kind, state, gst, lev, cab, cat, frm, upto, til, fol⟩ (.slice A3 n3 c3)) 37 ∧ Blk wx z #[.int .i64 0, .int .i64 0, .slice none 0 0, .slice none 0 0, .slice none 0 0, .int .i64 0, .int .i64 0, .slice none 0 0, .int .i64 0, .int .i64 0, .int .i64 0, .slice none 0 0, .bool false] 32 ∧ Below w.heap.size w wx)
  case first => as_aux_lemma =>
    go_wp2_with fail
    go_meet
    exact ⟨_, _, _, rfl, rfl, rfl, rfl, by omega, blk3_0 _ _ _ _, blk3_1 _ _ _ _, blk3_2 _ _ _ _, bel3 _ _ _ _⟩
  obtain ⟨g, h, z, rfl, rfl, rfl, rfl, hz, hG, hH, hZ, hb⟩ := hcut
  have HC := Lib.hid (HC0.out _ (hS.bel hb) (hf.bel hb))
  go_wp2_with (first | (refine wpList_load_row rfl 32 (.tmp 2) rfl g rfl 32 _ (0, 0) _ hG Tryz.underlying32 rfl (by kernel_rfl) ?_) | (refine wpList_load_row rfl 37 (.tmp 3) rfl h rfl 37 _ (0, 0) _ hH Tryz.underlying37 rfl (by kernel_rfl) ?_))
  refine HC.out.mono ?_
  rintro e w2 ⟨⟨y, p', rfl, hy, hO⟩, hb2⟩
  have hZ2 := hZ.bel hb2
  have hzl := hZ.lt
  have hsz := hb.size
  replace hb := hb.trans (hb2.mono hb.size)
  have HZ2 := Lib.hid hZ2
  have HO := Lib.hid hO
  clear hO
  have HY := Lib.hid hy
  clear hy
  clear hG hH hZ hb2 HC
  go_wp2_with (refine wpList_store_row rfl 32 (.tmp 4) (.tmp 9) rfl z (saiA y p') rfl rfl 32 _ HZ2.out (by kernel_rfl) rfl (by simp [Value.oneCell']) ?_)
  refine bodyPost_ret (v := .tuple #[.agg (saiA y p'), .int .i64 _]) ((HZ2.out.row _).ret2 (k := 4) (u := 5) (by kernel_rfl) rfl rfl Tryz.underlying32 (by kernel_rfl) (by kernel_rfl)) rfl ?_
  have hKz : Kept (fun k => k = z) w2 (w2.setRow z (saiA y p')) := (Kept.refl (fun k => k = z) w2).setRow (.inl rfl) _
  exact ⟨⟨y, p', rfl, HY.out, (HO.out.kept hKz (fun k hk e => by omega)).mono hsz⟩, hb.trans (hKz.below (B := w.heap.size) hb.size (fun k hk e => by omega))⟩
end Go.Proofs.YtoilcdgpeilgaaaGreat
namespace Go.Proofs.YtoilcdgpeilgaaaGreat
open Go.RowKit Go.Shelf
theorem low_pos (l : List Bkg) (t : Int) : LowTo l t (posI l t) := fun q b hq hb => by
  have hl := (List.getElem?_eq_some_iff.1 hb).1
  have h := List.not_of_lt_findIdx (p := fun b : Bkg => decide (t ≤ b.id)) (xs := l) hq
  have hb2 := (List.getElem?_eq_some_iff.1 hb).2
  rw [hb2] at h
  have h3 : b.id < t := by simpa using h
  exact h3
theorem high_pos {l : List Bkg} (hr : Rise l) (t : Int) : HighFrom l t (posI l t) := fun q c hq hc => by
  have hl := (List.getElem?_eq_some_iff.1 hc).1
  have hp : posI l t < l.length := by omega
  have h := List.findIdx_getElem (p := fun b : Bkg => decide (t ≤ b.id)) (xs := l) (w := hp)
  have h2 := of_decide_eq_true h
  rcases Nat.lt_or_ge (posI l t) q with h3 | h3
  · have := hr _ _ _ _ h3 (List.getElem?_eq_getElem hp) hc
    have h4 : t ≤ (l[posI l t]'hp).id := h2
    omega
  · obtain rfl : q = posI l t := by omega
    rw [List.getElem?_eq_getElem hp] at hc
    injection hc with hc
    rw [← hc]
    exact h2
theorem high_ne {l : List Bkg} (hr : Rise l) {t : Int} (hn : hasId l t = false) : ∀ (q : Nat) (c : Bkg), posI l t ≤ q → l[q]? = some c → t < c.id := fun q c hq hc => by
  have h1 := high_pos hr t q c hq hc
  have h2 := List.any_eq_false.1 hn c (List.mem_of_getElem? hc)
  simp only [decide_eq_true_eq] at h2
  omega
theorem ins_rise {l : List Bkg} {b : Bkg} (hr : Rise l) (hn : hasId l b.id = false) : Rise (insS l b) := by
  rw [rise_pw]
  have hp := rise_pw.1 hr
  unfold insS
  rw [List.pairwise_append, List.pairwise_cons]
  refine ⟨hp.sublist (List.take_sublist _ _), ⟨fun c hc => ?_, hp.sublist (List.drop_sublist _ _)⟩, fun a ha c hc => ?_⟩
  · obtain ⟨q, hq⟩ := List.getElem?_of_mem hc
    rw [List.getElem?_drop] at hq
    exact high_ne hr hn _ c (by omega) hq
  · obtain ⟨i, hi⟩ := List.getElem?_of_mem ha
    rw [List.getElem?_take] at hi
    have hip : i < posI l b.id := by
      by_cases h : i < posI l b.id
      · exact h
      · rw [if_neg h] at hi; cases hi
    rw [if_pos hip] at hi
    have h1 := low_pos l b.id i a hip hi
    rcases List.mem_cons.1 hc with rfl | hc
    · exact h1
    · obtain ⟨q, hq⟩ := List.getElem?_of_mem hc
      rw [List.getElem?_drop] at hq
      have := high_ne hr hn _ c (by omega) hq
      omega
theorem with_ok {x : Sai} {b : Bkg} (hx : saiE x = 0) (hb : ofE x.ship b = 0) (hn : hasId x.bks b.id = false) (hl : x.bks.length < 16) (hbad : badB x.closed b = false) (hr : roomE (withS x b) = 0) : saiE (withS x b) = 0 := by
  have ho := sai_ok hx
  have hof := of_all (bks_zero hx).2
  have hri := ins_rise (rise_of ho.bs.rise) hn
  have hlen := len_ins x.bks b
  have hbk : bksE (withS x b) = 0 := by
    unfold bksE
    have hf : firstE (bkE1 (withS x b)) (withS x b).bks.length = 0 := firstE_none fun i hi => by
      have hib : i < (insS x.bks b).length := hi
      have hc := List.getElem?_eq_getElem hib
      rw [bkE1_at (x := withS x b) hc]
      have h0 : ofE (withS x b).ship ((insS x.bks b)[i]) = 0 := by
        show ofE x.ship _ = 0
        rcases mem_ins (List.getElem_mem hib) with h | h
        · rw [h]; exact hb
        · obtain ⟨q, hq⟩ := List.getElem?_of_mem h
          exact hof q _ hq
      rw [h0, if_neg (by simp), if_neg]
      rintro ⟨h1, h2⟩
      have h3 : i - 1 < (insS x.bks b).length := by omega
      have h4 := hri (i - 1) i _ _ (by omega) (List.getElem?_eq_getElem h3) hc
      have h5 : ((withS x b).bks.getD (i - 1) default) = (insS x.bks b)[i - 1] := by
        show (insS x.bks b).getD (i - 1) default = _
        rw [List.getD_eq_getElem?_getD, List.getElem?_eq_getElem h3]; rfl
      rw [h5] at h2
      omega
    rw [if_neg (by show ¬ 16 < (insS x.bks b).length; omega), hf, if_neg (by simp), if_neg]
    intro h
    obtain ⟨c, hc, h2⟩ := List.any_eq_true.1 h
    rcases mem_ins hc with rfl | hc
    · rw [show (withS x c).closed = x.closed from rfl, hbad] at h2; cases h2
    · have := List.any_eq_false.1 ho.bs.bad c hc
      exact this h2
  have hs : shipE x.ship = 0 := (bks_zero hx).1
  unfold saiE
  rw [show (withS x b).ship = x.ship from rfl, hs, if_neg (by simp), show (withS x b).fares = x.fares from rfl, ho.fares, if_neg (by simp), show (withS x b).day = x.day from rfl, show (withS x b).leaves = x.leaves from rfl, ho.day, ho.leaves, if_neg (by simp), hbk, if_neg (by simp), hr]
  rfl
theorem sold_law {x : Sai} {b : Bkg} {k : Int} (h : sellE x b k = 0) : saiE x = 0 ∧ b.fol = [] ∧ hasId x.bks b.id = false ∧ saiE (sellX x b) = 0 := by
  unfold sellE at h
  by_cases h0 : saiE x = 0
  · rw [if_neg (by simp [h0])] at h
    unfold sellE1 at h
    by_cases h1 : b.kind ≠ k ∨ b.state = 3
    · rw [if_pos h1] at h; omega
    rw [if_neg h1] at h
    by_cases h2 : 0 < b.fol.length ∨ k = 2 ∧ b.cab ≠ -1
    · rw [if_pos h2] at h; omega
    rw [if_neg h2] at h
    by_cases h3 : ofE x.ship b = 0
    · rw [if_neg (by simp [h3])] at h
      unfold putE at h
      by_cases h4 : put0 x b = true
      · rw [if_pos h4] at h; omega
      rw [if_neg h4] at h
      by_cases h5 : hasId x.bks b.id = true
      · rw [if_pos h5] at h; omega
      rw [if_neg h5] at h
      by_cases h6 : x.bks.length = 16
      · rw [if_pos h6] at h; omega
      rw [if_neg h6] at h
      have hn : hasId x.bks b.id = false := by cases q : hasId x.bks b.id; rfl; exact absurd q h5
      have ho := sai_ok h0
      have hfol : b.fol = [] := List.eq_nil_of_length_eq_zero (by omega)
      have hso := sold_ok ho (bk_ok h3)
      refine ⟨h0, hfol, hn, with_ok h0 ?_ hn (by have := ho.bs.len; omega) ?_ h⟩
      · have := ofE_fol (x := x.ship) (b := b) (f := (soldB x b).fol) (bk_ok h3).fol hso.fol
        rw [h3] at this
        exact this
      · simp only [not_or, not_and] at h1 h2
        unfold put0 at h4
        unfold badB
        by_cases hk : b.kind = 2
        · have hk2 : k = 2 := by omega
          have hcab : b.cab = -1 := by have := h2.2 hk2; omega
          have hcl : x.closed = false := by
            cases q : x.closed
            · rfl
            · rw [q, decide_eq_true hk] at h4; simp at h4
          show (decide (b.kind = 2) && (liveB (soldB x b) && (decide (b.cab < 0) == x.closed))) = false
          rw [hcl, hcab]
          simp
        · show (decide (b.kind = 2) && _) = false
          rw [decide_eq_false hk]; rfl
    · rw [if_pos h3] at h; exact absurd h h3
  · rw [if_pos h0] at h; exact absurd h h0
end Go.Proofs.YtoilcdgpeilgaaaGreat
