/-
  Words, laws and contracts: BookC, BookD, BookE, BookF.
-/
import Derived.Test.YtlablioefblmkaaGreatBun5
import Derived.Test.YtlablioefblmkaaGreatBun9
set_option linter.unusedSimpArgs false
set_option linter.unusedVariables false
namespace Go.Proofs.YtlablioefblmkaaGreat
open Go.RowKit Go.Shelf
theorem wrap_len {m : Nat} (h : m ≤ 9223372036854775807) : IntKind.i64.wrap ((m : Int) - 1) = (m : Int) - 1 := by rw [IntKind.wrap_i64]; omega
set_option maxRecDepth 100000 in
set_option maxHeartbeats 4000000 in
theorem named_any (x : Shp) (A : Option Addr) (n cap : Nat) (B : Option Addr) (m cap2 : Nat) (b : Bkg) (v : Value) (w : World) (hb : Sl cabC 4 w All B m cap2 x.cabs) :
    Calls Tryz.prog 131 #[.agg #[.int .i64 x.legs, .int .i64 x.souls, .slice A n cap, .slice B m cap2], .agg (bkgA b v)] w fun e w' => e = .returned (.int .i64 (namedE x b)) ∧ Below w.heap.size w w' := by
  obtain ⟨id, kind, state, gst, lev, cab, cat, frm, upto, til, fol⟩ := b
  obtain ⟨r, hr⟩ : ∃ r, r = namedE x ⟨id, kind, state, gst, lev, cab, cat, frm, upto, til, fol⟩ := ⟨_, rfl⟩
  rw [← hr]
  obtain ⟨q1, hq1⟩ : ∃ q, q = betB cab 0 ((m : Int) - 1) := ⟨_, rfl⟩
  have HR := Lib.hid (show r = if q1 = false then 3 else if cat ≠ 0 then 1 else if fitB (cabAt x cab) ⟨id, kind, state, gst, lev, cab, cat, frm, upto, til, fol⟩ = false then 4 else 0 by rw [hr, hq1, ← hb.len]; rfl)
  have hwr := wrap_len hb.bd
  have hw1 := fun W => bwithin_any cab 0 ((m : Int) - 1) W
  rw [← hq1] at hw1
  have HB := Lib.hid hb
  have HQ := Lib.hid hq1
  clear hq1
  clear hr hb
  go_enter Tryz.func131, Tryz.ntmps131
  go_upto_region 0 with (fail)
  go_cut [2, 3, 4] (fun p p2 _ wx => ∃ g h, p = .pointer (some ⟨g, 0, none⟩) ∧ p2 = .pointer (some ⟨h, 0, none⟩) ∧ Blk wx g #[.int .i64 x.legs, .int .i64 x.souls, .slice A n cap, .slice B m cap2] 25 ∧ Blk wx h (bkgA ⟨id, kind, state, gst, lev, cab, cat, frm, upto, til, fol⟩ v) 42 ∧ Below w.heap.size w wx)
  case first => as_aux_lemma =>
    go_wp2_with fail
    go_meet
    exact ⟨_, _, rfl, rfl, blk2_0 _ _ _, blk2_1 _ _ _, bel2 _ _ _⟩
  obtain ⟨g, h, rfl, rfl, hG, hH, hbw⟩ := hcut
  have g3 : wc.cell? ⟨g, 3, none⟩ = some (.slice B m cap2) := hG.cell rfl
  have k0 : wc.cell? ⟨h, 0, none⟩ = some (.int .i64 id) := hH.cell rfl
  have k1 : wc.cell? ⟨h, 1, none⟩ = some (.int .i64 kind) := hH.cell rfl
  have k2 : wc.cell? ⟨h, 2, none⟩ = some (.int .i64 state) := hH.cell rfl
  have k3 : wc.cell? ⟨h, 3, none⟩ = some (.int .i64 gst) := hH.cell rfl
  have k4 : wc.cell? ⟨h, 4, none⟩ = some (.bool lev) := hH.cell rfl
  have k5 : wc.cell? ⟨h, 5, none⟩ = some (.int .i64 cab) := hH.cell rfl
  have k6 : wc.cell? ⟨h, 6, none⟩ = some (.int .i64 cat) := hH.cell rfl
  have k7 : wc.cell? ⟨h, 7, none⟩ = some (.int .i64 frm) := hH.cell rfl
  have k8 : wc.cell? ⟨h, 8, none⟩ = some (.int .i64 upto) := hH.cell rfl
  have k9 : wc.cell? ⟨h, 9, none⟩ = some (.int .i64 til) := hH.cell rfl
  have k10 : wc.cell? ⟨h, 10, none⟩ = some (v) := hH.cell rfl
  cases q1
  · obtain rfl : r = 3 := by rw [HR.out, if_pos rfl]
    go_wp2_with fail
    refine (hw1 _).mono ?_
    rintro e w9 ⟨rfl, rfl⟩
    go_wp2_with fail
    go_ret
    exact ⟨rfl, hbw⟩
  have hcb := betB_iff.1 HQ.out.symm
  obtain ⟨k, rfl⟩ : ∃ k : Nat, cab = k := ⟨cab.toNat, by omega⟩
  have hk : k < m := by omega
  by_cases hcat : cat = 0
  · subst hcat
    obtain ⟨b, off, nm, ct, ber, lv, hB, hx, e0, e1, e2, e3⟩ := (HB.out.bel hbw).cab hk
    subst hB
    have hf : cabAt x k = ⟨nm, ct, ber, lv⟩ := hx
    have HF := Lib.hid (fun W => bFits_any ⟨nm, ct, ber, lv⟩ ⟨id, kind, state, gst, lev, k, 0, frm, upto, til, fol⟩ v W)
    obtain ⟨f, hff⟩ : ∃ f, f = fitB ⟨nm, ct, ber, lv⟩ ⟨id, kind, state, gst, lev, k, 0, frm, upto, til, fol⟩ := ⟨_, rfl⟩
    have HR2 := Lib.hid (show r = if f = false then 4 else 0 by rw [HR.out, if_neg (by simp), if_neg (by simp), hf, hff])
    rw [← hff] at HF
    clear HR hx hf hff HQ hcb
    have hk0 : (0 : Int) ≤ (k : Int) := Int.natCast_nonneg _
    have hk1 : (k : Int) < (m : Int) := by omega
    go_wp2_with fail
    refine (hw1 _).mono ?_
    rintro e w9 ⟨rfl, rfl⟩
    go_wp2_with fail
    go_upto_region 5 with (fail)
    go_cut [18] (fun t wx => t = .bool (!f) ∧ Below wc.heap.size wc wx)
    case first => as_aux_lemma =>
      go_region_with (go_at_call 184; refine (HF.out _).mono ?_; rintro e wn ⟨rfl, hbn⟩)
      all_goals
        go_wp2_with fail
        go_meet
        exact ⟨rfl, (Below.refl _ _).drew.trans hbn⟩
    obtain ⟨rfl, hb4⟩ := hcut
    cases f
    · obtain rfl : r = 4 := HR2.out
      go_wp2_with fail
      go_ret
      exact ⟨rfl, hbw.trans (hb4.mono hbw.size)⟩
    · obtain rfl : r = 0 := HR2.out
      go_wp2_with fail
      go_ret
      exact ⟨rfl, hbw.trans (hb4.mono hbw.size)⟩
  · obtain rfl : r = 1 := by rw [HR.out, if_neg (by simp), if_pos hcat]
    have h0' : (cat != 0) = true := by simpa using hcat
    clear hcat
    go_wp2_with fail
    refine (hw1 _).mono ?_
    rintro e w9 ⟨rfl, rfl⟩
    go_wp2_with fail
    go_ret
    exact ⟨rfl, hbw⟩
set_option maxRecDepth 100000 in
set_option maxHeartbeats 4000000 in
theorem promise_any (x : Shp) (A : Option Addr) (n cap : Nat) (B : Option Addr) (m cap2 : Nat) (b : Bkg) (v : Value) (w : World) (hc : Sl catC 2 w All A n cap x.cats) (hb : Sl cabC 4 w All B m cap2 x.cabs) (ho : OkShp x) :
    Calls Tryz.prog 132 #[.agg #[.int .i64 x.legs, .int .i64 x.souls, .slice A n cap, .slice B m cap2], .agg (bkgA b v)] w fun e w' => e = .returned (.int .i64 (promE x b)) ∧ Below w.heap.size w w' := by
  obtain ⟨id, kind, state, gst, lev, cab, cat, frm, upto, til, fol⟩ := b
  obtain ⟨r, hr⟩ : ∃ r, r = promE x ⟨id, kind, state, gst, lev, cab, cat, frm, upto, til, fol⟩ := ⟨_, rfl⟩
  rw [← hr]
  obtain ⟨q1, hq1⟩ : ∃ q, q = betB cat 0 ((n : Int) - 1) := ⟨_, rfl⟩
  obtain ⟨q2, hq2⟩ : ∃ q, q = decide ((⟨frm, upto⟩ : Span) ≠ ⟨0, x.legs⟩) := ⟨_, rfl⟩
  obtain ⟨q3, hq3⟩ : ∃ q, q = betB cab (-1) ((m : Int) - 1) := ⟨_, rfl⟩
  have HR := Lib.hid (show r = if q1 = false then 3 else if q2 = true then 4 else if q3 = false then 3 else if 0 ≤ cab ∧ eligB x ⟨id, kind, state, gst, lev, cab, cat, frm, upto, til, fol⟩ cab = false then 4 else 0 by
    rw [hr, hq1, hq2, hq3, ← hb.len, ← hc.len]
    unfold promE
    congr 1
    have hspan : (frm ≠ 0 ∨ upto ≠ x.legs) ↔ decide ((⟨frm, upto⟩ : Span) ≠ ⟨0, x.legs⟩) = true := by rw [decide_eq_true_iff]; simp only [ne_eq, Span.mk.injEq]; omega
    simp only [hspan])
  have hwr := wrap_len hb.bd
  have hwr2 := wrap_len hc.bd
  have hw1 := fun W => bwithin_any cat 0 ((n : Int) - 1) W
  have hw3 := fun W => bwithin_any cab (-1) ((m : Int) - 1) W
  have hne := fun W => span_ne ⟨frm, upto⟩ ⟨0, x.legs⟩ W
  simp only at hne
  rw [← hq1] at hw1
  rw [← hq2] at hne
  rw [← hq3] at hw3
  have HEL := Lib.hid (fun (k : Nat) W h1 h2 h3 h4 h5 => Eligible_any x A n cap B m cap2 ⟨id, kind, state, gst, lev, cab, cat, frm, upto, til, fol⟩ v k W h1 h2 ho h3 h4 h5)
  have HB := Lib.hid hb
  have HC := Lib.hid hc
  have HQ1 := Lib.hid hq1
  clear hq1
  have HQ3 := Lib.hid hq3
  clear hq3
  clear hr hb hc hq2
  go_enter Tryz.func132, Tryz.ntmps132
  go_upto_region 0 with (fail)
  go_cut [2, 3, 4] (fun p p2 _ wx => ∃ g h, p = .pointer (some ⟨g, 0, none⟩) ∧ p2 = .pointer (some ⟨h, 0, none⟩) ∧ Blk wx g #[.int .i64 x.legs, .int .i64 x.souls, .slice A n cap, .slice B m cap2] 25 ∧ Blk wx h (bkgA ⟨id, kind, state, gst, lev, cab, cat, frm, upto, til, fol⟩ v) 42 ∧ Below w.heap.size w wx)
  case first => as_aux_lemma =>
    go_wp2_with fail
    go_meet
    exact ⟨_, _, rfl, rfl, blk2_0 _ _ _, blk2_1 _ _ _, bel2 _ _ _⟩
  obtain ⟨g, h, rfl, rfl, hG, hH, hbw⟩ := hcut
  have g0 : wc.cell? ⟨g, 0, none⟩ = some (.int .i64 x.legs) := hG.cell rfl
  have g1 : wc.cell? ⟨g, 1, none⟩ = some (.int .i64 x.souls) := hG.cell rfl
  have g2 : wc.cell? ⟨g, 2, none⟩ = some (.slice A n cap) := hG.cell rfl
  have g3 : wc.cell? ⟨g, 3, none⟩ = some (.slice B m cap2) := hG.cell rfl
  have k0 : wc.cell? ⟨h, 0, none⟩ = some (.int .i64 id) := hH.cell rfl
  have k1 : wc.cell? ⟨h, 1, none⟩ = some (.int .i64 kind) := hH.cell rfl
  have k2 : wc.cell? ⟨h, 2, none⟩ = some (.int .i64 state) := hH.cell rfl
  have k3 : wc.cell? ⟨h, 3, none⟩ = some (.int .i64 gst) := hH.cell rfl
  have k4 : wc.cell? ⟨h, 4, none⟩ = some (.bool lev) := hH.cell rfl
  have k5 : wc.cell? ⟨h, 5, none⟩ = some (.int .i64 cab) := hH.cell rfl
  have k6 : wc.cell? ⟨h, 6, none⟩ = some (.int .i64 cat) := hH.cell rfl
  have k7 : wc.cell? ⟨h, 7, none⟩ = some (.int .i64 frm) := hH.cell rfl
  have k8 : wc.cell? ⟨h, 8, none⟩ = some (.int .i64 upto) := hH.cell rfl
  have k9 : wc.cell? ⟨h, 9, none⟩ = some (.int .i64 til) := hH.cell rfl
  have k10 : wc.cell? ⟨h, 10, none⟩ = some (v) := hH.cell rfl
  go_wp2_with fail
  refine (hw1 _).mono ?_
  rintro e w9 ⟨rfl, rfl⟩
  cases q1
  · obtain rfl : r = 3 := by rw [HR.out, if_pos rfl]
    go_wp2_with fail
    go_ret
    exact ⟨rfl, hbw⟩
  have hcb := betB_iff.1 HQ1.out.symm
  cases q2
  rotate_left
  · obtain rfl : r = 4 := by rw [HR.out, if_neg (by simp), if_pos rfl]
    clear hcb
    go_wp2_with fail
    go_ret
    exact ⟨rfl, hbw⟩
  go_wp2_with fail
  refine (hw3 _).mono ?_
  rintro e w9 ⟨rfl, rfl⟩
  cases q3
  · obtain rfl : r = 3 := by rw [HR.out, if_neg (by simp), if_neg (by simp), if_pos rfl]
    clear hcb
    go_wp2_with fail
    go_ret
    exact ⟨rfl, hbw⟩
  have hcm := betB_iff.1 HQ3.out.symm
  by_cases h0 : 0 ≤ cab
  · obtain ⟨k, rfl⟩ : ∃ k : Nat, cab = k := ⟨cab.toNat, by omega⟩
    have HCALL := Lib.hid (HEL.out k wc (HC.out.bel hbw) (HB.out.bel hbw) (by omega) hcb.1 (by have := hcb.2; omega))
    obtain ⟨f, hf⟩ : ∃ f, f = eligB x ⟨id, kind, state, gst, lev, k, cat, frm, upto, til, fol⟩ k := ⟨_, rfl⟩
    have HR2 := Lib.hid (show r = if f = false then 4 else 0 by
      rw [HR.out, if_neg (by simp), if_neg (by simp), if_neg (by simp), ← hf]
      cases f <;> simp <;> omega)
    rw [← hf] at HCALL
    clear HR hf hcb hcm HQ1 HQ3
    go_wp2_with fail
    refine HCALL.out.mono ?_
    rintro e wn ⟨rfl, hb4⟩
    cases f
    · obtain rfl : r = 4 := HR2.out
      go_wp2_with fail
      go_ret
      exact ⟨rfl, hbw.trans (hb4.mono hbw.size)⟩
    · obtain rfl : r = 0 := HR2.out
      go_wp2_with fail
      go_ret
      exact ⟨rfl, hbw.trans (hb4.mono hbw.size)⟩
  · obtain rfl : r = 0 := by rw [HR.out, if_neg (by simp), if_neg (by simp), if_neg (by simp), if_neg (fun h => h0 h.1)]
    have h1 : cab < 0 := by omega
    clear hcb hcm
    go_wp2_with fail
    go_ret
    exact ⟨rfl, hbw⟩
end Go.Proofs.YtlablioefblmkaaGreat
namespace Go.Proofs.YtlablioefblmkaaGreat
open Go.RowKit Go.Shelf
theorem of_line (x : Shp) (id kind state gst : Int) (lev : Bool) (cab cat frm upto til : Int) (fol : List Entry) : ofE x ⟨id, kind, state, gst, lev, cab, cat, frm, upto, til, fol⟩ = if (betB kind 1 2 && betB state 1 3) = false then 7 else if (betB id 1 999999 && betB gst 1 4) = false then 3 else if spanE ⟨frm, upto⟩ x.legs ≠ 0 then spanE ⟨frm, upto⟩ x.legs
  else if kindE x ⟨id, kind, state, gst, lev, cab, cat, frm, upto, til, fol⟩ ≠ 0 then kindE x ⟨id, kind, state, gst, lev, cab, cat, frm, upto, til, fol⟩ else if betB til 0 9999 = false then 3 else if til ≠ 0 ∧ state ≠ 1 then 1 else checkFolio fol := rfl
set_option maxRecDepth 100000 in
set_option maxHeartbeats 8000000 in
theorem bookOf_any (x : Shp) (A : Option Addr) (n cap : Nat) (B : Option Addr) (m cap2 : Nat) (b : Bkg) (A3 : Option Addr) (n3 c3 : Nat) (w : World) (hc : Sl catC 2 w All A n cap x.cats) (hb : Sl cabC 4 w All B m cap2 x.cabs) (ho : OkShp x) (hf : Sl entryC 3 w All A3 n3 c3 b.fol) :
    Calls Tryz.prog 63 #[.agg #[.int .i64 x.legs, .int .i64 x.souls, .slice A n cap, .slice B m cap2], .agg (bkgA b (.slice A3 n3 c3))] w fun e w' => e = .returned (.int .i64 (ofE x b)) ∧ Below w.heap.size w w' := by
  obtain ⟨id, kind, state, gst, lev, cab, cat, frm, upto, til, fol⟩ := b
  simp only at hf
  obtain ⟨r, hr⟩ : ∃ r, r = ofE x ⟨id, kind, state, gst, lev, cab, cat, frm, upto, til, fol⟩ := ⟨_, rfl⟩
  rw [← hr]
  rw [of_line] at hr
  have hk1 := fun W => bwithin_any kind 1 2 W
  have hk2 := fun W => bwithin_any state 1 3 W
  have hi1 := fun W => bwithin_any id 1 999999 W
  have hi2 := fun W => bwithin_any gst 1 4 W
  have ht1 := fun W => bwithin_any til 0 9999 W
  have hsp := fun W => spanCheck_any frm upto x.legs W
  have HNA := Lib.hid (fun W h => named_any x A n cap B m cap2 ⟨id, kind, state, gst, lev, cab, cat, frm, upto, til, fol⟩ (.slice A3 n3 c3) W h)
  have HPR := Lib.hid (fun W h1 h2 => promise_any x A n cap B m cap2 ⟨id, kind, state, gst, lev, cab, cat, frm, upto, til, fol⟩ (.slice A3 n3 c3) W h1 h2 ho)
  have HFO := Lib.hid (fun W h => Check_any A3 n3 c3 fol W h)
  obtain ⟨k1, e1⟩ : ∃ q, q = betB kind 1 2 := ⟨_, rfl⟩
  obtain ⟨k2, e2⟩ : ∃ q, q = betB state 1 3 := ⟨_, rfl⟩
  obtain ⟨i1, e3⟩ : ∃ q, q = betB id 1 999999 := ⟨_, rfl⟩
  obtain ⟨i2, e4⟩ : ∃ q, q = betB gst 1 4 := ⟨_, rfl⟩
  obtain ⟨t1, e5⟩ : ∃ q, q = betB til 0 9999 := ⟨_, rfl⟩
  obtain ⟨se, e6⟩ : ∃ q, q = spanE ⟨frm, upto⟩ x.legs := ⟨_, rfl⟩
  obtain ⟨fe, e7⟩ : ∃ q, q = checkFolio fol := ⟨_, rfl⟩
  rw [← e1] at hk1
  rw [← e2] at hk2
  rw [← e3] at hi1
  rw [← e4] at hi2
  rw [← e5] at ht1
  rw [← e6] at hsp
  rw [← e7] at HFO
  rw [← e1, ← e2, ← e3, ← e4, ← e5, ← e6, ← e7] at hr
  have HR := Lib.hid hr
  clear hr
  have HK2 := Lib.hid e2
  clear e2
  have HB := Lib.hid hb
  have HC := Lib.hid hc
  have HF := Lib.hid hf
  clear hb hc hf e1 e3 e4 e5 e6 e7
  go_enter Tryz.func63, Tryz.ntmps63
  go_upto_region 0 with (fail)
  go_cut [2, 3, 4] (fun p p2 _ wx => ∃ g h, p = .pointer (some ⟨g, 0, none⟩) ∧ p2 = .pointer (some ⟨h, 0, none⟩) ∧ Blk wx g #[.int .i64 x.legs, .int .i64 x.souls, .slice A n cap, .slice B m cap2] 25 ∧ Blk wx h (bkgA ⟨id, kind, state, gst, lev, cab, cat, frm, upto, til, fol⟩ (.slice A3 n3 c3)) 42 ∧ Below w.heap.size w wx)
  case first => as_aux_lemma =>
    go_wp2_with fail
    go_meet
    exact ⟨_, _, rfl, rfl, blk2_0 _ _ _, blk2_1 _ _ _, bel2 _ _ _⟩
  obtain ⟨g, h, rfl, rfl, hG, hH, hbw⟩ := hcut
  have g0 : wc.cell? ⟨g, 0, none⟩ = some (.int .i64 x.legs) := hG.cell rfl
  have g1 : wc.cell? ⟨g, 1, none⟩ = some (.int .i64 x.souls) := hG.cell rfl
  have g2 : wc.cell? ⟨g, 2, none⟩ = some (.slice A n cap) := hG.cell rfl
  have g3 : wc.cell? ⟨g, 3, none⟩ = some (.slice B m cap2) := hG.cell rfl
  have z0 : wc.cell? ⟨h, 0, none⟩ = some (.int .i64 id) := hH.cell rfl
  have z1 : wc.cell? ⟨h, 1, none⟩ = some (.int .i64 kind) := hH.cell rfl
  have z2 : wc.cell? ⟨h, 2, none⟩ = some (.int .i64 state) := hH.cell rfl
  have z3 : wc.cell? ⟨h, 3, none⟩ = some (.int .i64 gst) := hH.cell rfl
  have z4 : wc.cell? ⟨h, 4, none⟩ = some (.bool lev) := hH.cell rfl
  have z5 : wc.cell? ⟨h, 5, none⟩ = some (.int .i64 cab) := hH.cell rfl
  have z6 : wc.cell? ⟨h, 6, none⟩ = some (.int .i64 cat) := hH.cell rfl
  have z7 : wc.cell? ⟨h, 7, none⟩ = some (.int .i64 frm) := hH.cell rfl
  have z8 : wc.cell? ⟨h, 8, none⟩ = some (.int .i64 upto) := hH.cell rfl
  have z9 : wc.cell? ⟨h, 9, none⟩ = some (.int .i64 til) := hH.cell rfl
  have z10 : wc.cell? ⟨h, 10, none⟩ = some ((.slice A3 n3 c3)) := hH.cell rfl
  go_wp2_with fail
  refine (hk1 _).mono ?_
  rintro e w9 ⟨rfl, rfl⟩
  cases k1
  · obtain rfl : r = 7 := HR.out.trans (if_pos (by simp))
    go_wp2_with fail
    go_ret
    exact ⟨rfl, hbw⟩
  go_wp2_with fail
  refine (hk2 _).mono ?_
  rintro e w9 ⟨rfl, rfl⟩
  cases k2
  · obtain rfl : r = 7 := HR.out.trans (if_pos (by simp))
    go_wp2_with fail
    go_ret
    exact ⟨rfl, hbw⟩
  have HR1 := Lib.hid (HR.out.trans (if_neg (by simp)))
  clear HR
  go_wp2_with fail
  refine (hi1 _).mono ?_
  rintro e w9 ⟨rfl, rfl⟩
  cases i1
  · obtain rfl : r = 3 := HR1.out.trans (if_pos (by simp))
    go_wp2_with fail
    go_ret
    exact ⟨rfl, hbw⟩
  go_wp2_with fail
  refine (hi2 _).mono ?_
  rintro e w9 ⟨rfl, rfl⟩
  cases i2
  · obtain rfl : r = 3 := HR1.out.trans (if_pos (by simp))
    go_wp2_with fail
    go_ret
    exact ⟨rfl, hbw⟩
  have HR2 := Lib.hid (HR1.out.trans (if_neg (by simp)))
  clear HR1
  go_wp2_with fail
  refine (hsp _).mono ?_
  rintro e w2 ⟨rfl, hb2⟩
  replace hG := hG.bel hb2
  replace hH := hH.bel hb2
  replace hbw := hbw.trans (hb2.mono hbw.size)
  clear hb2 g0 g1 g2 g3 z0 z1 z2 z3 z4 z5 z6 z7 z8 z9 z10
  by_cases hse : se = 0
  rotate_left
  · obtain rfl : r = se := by rw [HR2.out, if_pos hse]
    have h0' : (r != 0) = true := by simpa using hse
    clear hse
    go_wp2_with fail
    go_ret
    exact ⟨rfl, hbw⟩
  subst hse
  have HR3 := Lib.hid (HR2.out.trans (if_neg (by simp)))
  clear HR2
  have g0 : w2.cell? ⟨g, 0, none⟩ = some (.int .i64 x.legs) := hG.cell rfl
  have g1 : w2.cell? ⟨g, 1, none⟩ = some (.int .i64 x.souls) := hG.cell rfl
  have g2 : w2.cell? ⟨g, 2, none⟩ = some (.slice A n cap) := hG.cell rfl
  have g3 : w2.cell? ⟨g, 3, none⟩ = some (.slice B m cap2) := hG.cell rfl
  have z0 : w2.cell? ⟨h, 0, none⟩ = some (.int .i64 id) := hH.cell rfl
  have z1 : w2.cell? ⟨h, 1, none⟩ = some (.int .i64 kind) := hH.cell rfl
  have z2 : w2.cell? ⟨h, 2, none⟩ = some (.int .i64 state) := hH.cell rfl
  have z3 : w2.cell? ⟨h, 3, none⟩ = some (.int .i64 gst) := hH.cell rfl
  have z4 : w2.cell? ⟨h, 4, none⟩ = some (.bool lev) := hH.cell rfl
  have z5 : w2.cell? ⟨h, 5, none⟩ = some (.int .i64 cab) := hH.cell rfl
  have z6 : w2.cell? ⟨h, 6, none⟩ = some (.int .i64 cat) := hH.cell rfl
  have z7 : w2.cell? ⟨h, 7, none⟩ = some (.int .i64 frm) := hH.cell rfl
  have z8 : w2.cell? ⟨h, 8, none⟩ = some (.int .i64 upto) := hH.cell rfl
  have z9 : w2.cell? ⟨h, 9, none⟩ = some (.int .i64 til) := hH.cell rfl
  have z10 : w2.cell? ⟨h, 10, none⟩ = some ((.slice A3 n3 c3)) := hH.cell rfl
  have HCALL := Lib.hid (HNA.out w2 (HB.out.bel hbw))
  go_wp2_with fail
  refine HCALL.out.mono ?_
  rintro e w3 ⟨rfl, hb2⟩
  replace hG := hG.bel hb2
  replace hH := hH.bel hb2
  replace hbw := hbw.trans (hb2.mono hbw.size)
  clear hb2 g0 g1 g2 g3 z0 z1 z2 z3 z4 z5 z6 z7 z8 z9 z10 HCALL HNA
  have g0 : w3.cell? ⟨g, 0, none⟩ = some (.int .i64 x.legs) := hG.cell rfl
  have g1 : w3.cell? ⟨g, 1, none⟩ = some (.int .i64 x.souls) := hG.cell rfl
  have g2 : w3.cell? ⟨g, 2, none⟩ = some (.slice A n cap) := hG.cell rfl
  have g3 : w3.cell? ⟨g, 3, none⟩ = some (.slice B m cap2) := hG.cell rfl
  have z0 : w3.cell? ⟨h, 0, none⟩ = some (.int .i64 id) := hH.cell rfl
  have z1 : w3.cell? ⟨h, 1, none⟩ = some (.int .i64 kind) := hH.cell rfl
  have z2 : w3.cell? ⟨h, 2, none⟩ = some (.int .i64 state) := hH.cell rfl
  have z3 : w3.cell? ⟨h, 3, none⟩ = some (.int .i64 gst) := hH.cell rfl
  have z4 : w3.cell? ⟨h, 4, none⟩ = some (.bool lev) := hH.cell rfl
  have z5 : w3.cell? ⟨h, 5, none⟩ = some (.int .i64 cab) := hH.cell rfl
  have z6 : w3.cell? ⟨h, 6, none⟩ = some (.int .i64 cat) := hH.cell rfl
  have z7 : w3.cell? ⟨h, 7, none⟩ = some (.int .i64 frm) := hH.cell rfl
  have z8 : w3.cell? ⟨h, 8, none⟩ = some (.int .i64 upto) := hH.cell rfl
  have z9 : w3.cell? ⟨h, 9, none⟩ = some (.int .i64 til) := hH.cell rfl
  have z10 : w3.cell? ⟨h, 10, none⟩ = some ((.slice A3 n3 c3)) := hH.cell rfl
  obtain ⟨ke, hke⟩ : ∃ q, q = kindE x ⟨id, kind, state, gst, lev, cab, cat, frm, upto, til, fol⟩ := ⟨_, rfl⟩
  have HR4 := Lib.hid (HR3.out)
  rw [← hke] at HR4
  obtain ⟨kn, hkn⟩ : ∃ q, q = namedE x ⟨id, kind, state, gst, lev, cab, cat, frm, upto, til, fol⟩ := ⟨_, rfl⟩
  rw [← hkn]
  have HKE := Lib.hid hke
  clear hke
  have HKN := Lib.hid hkn
  clear hkn
  clear HR3
  go_upto_if 42 with (fail)
  obtain ⟨w4, hw4⟩ : ∃ W, W = w3 := ⟨_, rfl⟩
  subst hw4
  go_cut [6] (fun p wx => p = .int .i64 ke ∧ Below w4.heap.size w4 wx)
  case first => as_aux_lemma =>
    by_cases hkd : kind = 2
    · subst hkd
      have hke : ke = promE x ⟨id, 2, state, gst, lev, cab, cat, frm, upto, til, fol⟩ := HKE.out
      have HCALL := Lib.hid (HPR.out _ (HC.out.bel hbw) (HB.out.bel hbw))
      rw [← hke] at HCALL
      clear hke
      go_wp2_with fail
      refine HCALL.out.mono ?_
      rintro e w5 ⟨rfl, hb5⟩
      go_wp2_with fail
      go_meet
      exact ⟨rfl, hb5⟩
    · obtain rfl : ke = kn := by rw [HKE.out, HKN.out]; unfold kindE; rw [if_neg hkd]
      have h0' : (kind == 2) = false := by simpa using hkd
      clear hkd
      go_wp2_with fail
      go_meet
      exact ⟨rfl, Below.refl _ _⟩
  obtain ⟨rfl, hb5⟩ := hcut
  replace hG := hG.bel hb5
  replace hH := hH.bel hb5
  replace hbw := hbw.trans (hb5.mono hbw.size)
  clear hb5 g0 g1 g2 g3 z0 z1 z2 z3 z4 z5 z6 z7 z8 z9 z10 HKE HKN HPR
  by_cases hk0 : ke = 0
  rotate_left
  · obtain rfl : r = ke := by rw [HR4.out, if_pos hk0]
    have h0' : (r != 0) = true := by simpa using hk0
    clear hk0
    go_wp2_with fail
    go_ret
    exact ⟨rfl, hbw⟩
  subst hk0
  have HR5 := Lib.hid (HR4.out.trans (if_neg (by simp)))
  clear HR4
  have z2 : wc.cell? ⟨h, 2, none⟩ = some (.int .i64 state) := hH.cell rfl
  have z9 : wc.cell? ⟨h, 9, none⟩ = some (.int .i64 til) := hH.cell rfl
  have z10 : wc.cell? ⟨h, 10, none⟩ = some (.slice A3 n3 c3) := hH.cell rfl
  go_wp2_with fail
  refine (ht1 _).mono ?_
  rintro e w9 ⟨rfl, rfl⟩
  cases t1
  · obtain rfl : r = 3 := HR5.out.trans (if_pos (by simp))
    go_wp2_with fail
    go_ret
    exact ⟨rfl, hbw⟩
  have HR6 := Lib.hid (HR5.out.trans (if_neg (by simp)))
  clear HR5
  have HCALL := Lib.hid (HFO.out _ (HF.out.bel hbw))
  by_cases h1 : til = 0
  · obtain rfl : r = fe := by rw [HR6.out, if_neg (fun h => h.1 h1)]
    subst h1
    go_wp2_with fail
    refine HCALL.out.mono ?_
    rintro e w6 ⟨rfl, hb6⟩
    go_wp2_with fail
    go_ret
    exact ⟨rfl, hbw.trans (hb6.mono hbw.size)⟩
  have h1' : (til != 0) = true := by simpa using h1
  by_cases h2 : state = 1
  · obtain rfl : r = fe := by rw [HR6.out, if_neg (fun h => h.2 h2)]
    subst h2
    clear h1
    go_wp2_with fail
    refine HCALL.out.mono ?_
    rintro e w6 ⟨rfl, hb6⟩
    go_wp2_with fail
    go_ret
    exact ⟨rfl, hbw.trans (hb6.mono hbw.size)⟩
  · obtain rfl : r = 1 := by rw [HR6.out, if_pos ⟨h1, h2⟩]
    have h2' : (state != 1) = true := by simpa using h2
    clear h1 h2
    go_wp2_with fail
    go_ret
    exact ⟨rfl, hbw⟩
set_option maxRecDepth 100000 in
set_option maxHeartbeats 8000000 in
theorem bookCheck_any (x : Shp) (A : Option Addr) (n cap : Nat) (B : Option Addr) (m cap2 : Nat) (b : Bkg) (A3 : Option Addr) (n3 c3 : Nat) (w : World) (hc : Sl catC 2 w All A n cap x.cats) (hb : Sl cabC 4 w All B m cap2 x.cabs) (hf : Sl entryC 3 w All A3 n3 c3 b.fol) :
    Calls Tryz.prog 85 #[.agg #[.int .i64 x.legs, .int .i64 x.souls, .slice A n cap, .slice B m cap2], .agg (bkgA b (.slice A3 n3 c3))] w fun e w' => e = .returned (.int .i64 (if shipE x ≠ 0 then shipE x else ofE x b)) ∧ Below w.heap.size w w' := by
  obtain ⟨id, kind, state, gst, lev, cab, cat, frm, upto, til, fol⟩ := b
  simp only at hf
  have HS := Lib.hid (fun W h1 h2 => shipCheck_any x A n cap B m cap2 W h1 h2)
  have HO := Lib.hid (fun W h1 h2 h3 h4 => bookOf_any x A n cap B m cap2 ⟨id, kind, state, gst, lev, cab, cat, frm, upto, til, fol⟩ A3 n3 c3 W h1 h2 h3 h4)
  obtain ⟨r, hr⟩ : ∃ r, r = if shipE x ≠ 0 then shipE x else ofE x ⟨id, kind, state, gst, lev, cab, cat, frm, upto, til, fol⟩ := ⟨_, rfl⟩
  rw [← hr]
  obtain ⟨u, hu⟩ : ∃ q, q = shipE x := ⟨_, rfl⟩
  obtain ⟨o, hoo⟩ : ∃ q, q = ofE x ⟨id, kind, state, gst, lev, cab, cat, frm, upto, til, fol⟩ := ⟨_, rfl⟩
  rw [← hu] at HS hr
  rw [← hoo] at HO hr
  have HR := Lib.hid hr
  clear hr
  have HU := Lib.hid hu
  clear hu
  have HB := Lib.hid hb
  have HC := Lib.hid hc
  have HF := Lib.hid hf
  clear hb hc hf hoo
  go_enter Tryz.func85, Tryz.ntmps85
  go_upto_region 0 with (fail)
  go_cut [2, 3, 4] (fun p p2 _ wx => ∃ g h, p = .pointer (some ⟨g, 0, none⟩) ∧ p2 = .pointer (some ⟨h, 0, none⟩) ∧ Blk wx g #[.int .i64 x.legs, .int .i64 x.souls, .slice A n cap, .slice B m cap2] 25 ∧ Blk wx h (bkgA ⟨id, kind, state, gst, lev, cab, cat, frm, upto, til, fol⟩ (.slice A3 n3 c3)) 42 ∧ Below w.heap.size w wx)
  case first => as_aux_lemma =>
    go_wp2_with fail
    go_meet
    exact ⟨_, _, rfl, rfl, blk2_0 _ _ _, blk2_1 _ _ _, bel2 _ _ _⟩
  obtain ⟨g, h, rfl, rfl, hG, hH, hbw⟩ := hcut
  have g0 : wc.cell? ⟨g, 0, none⟩ = some (.int .i64 x.legs) := hG.cell rfl
  have g1 : wc.cell? ⟨g, 1, none⟩ = some (.int .i64 x.souls) := hG.cell rfl
  have g2 : wc.cell? ⟨g, 2, none⟩ = some (.slice A n cap) := hG.cell rfl
  have g3 : wc.cell? ⟨g, 3, none⟩ = some (.slice B m cap2) := hG.cell rfl
  have HCALL := Lib.hid (HS.out wc (HC.out.bel hbw) (HB.out.bel hbw))
  go_wp2_with fail
  refine HCALL.out.mono ?_
  rintro e w2 ⟨rfl, hb2⟩
  replace hG := hG.bel hb2
  replace hH := hH.bel hb2
  replace hbw := hbw.trans (hb2.mono hbw.size)
  clear hb2 g0 g1 g2 g3 HCALL HS
  by_cases hu : u = 0
  rotate_left
  · obtain rfl : r = u := by rw [HR.out, if_pos hu]
    have h0' : (r != 0) = true := by simpa using hu
    clear hu
    go_wp2_with fail
    go_ret
    exact ⟨rfl, hbw⟩
  subst hu
  have HR2 := Lib.hid (HR.out.trans (if_neg (by simp)))
  obtain rfl : r = o := HR2.out
  have g0 : w2.cell? ⟨g, 0, none⟩ = some (.int .i64 x.legs) := hG.cell rfl
  have g1 : w2.cell? ⟨g, 1, none⟩ = some (.int .i64 x.souls) := hG.cell rfl
  have g2 : w2.cell? ⟨g, 2, none⟩ = some (.slice A n cap) := hG.cell rfl
  have g3 : w2.cell? ⟨g, 3, none⟩ = some (.slice B m cap2) := hG.cell rfl
  have z0 : w2.cell? ⟨h, 0, none⟩ = some (.int .i64 id) := hH.cell rfl
  have z1 : w2.cell? ⟨h, 1, none⟩ = some (.int .i64 kind) := hH.cell rfl
  have z2 : w2.cell? ⟨h, 2, none⟩ = some (.int .i64 state) := hH.cell rfl
  have z3 : w2.cell? ⟨h, 3, none⟩ = some (.int .i64 gst) := hH.cell rfl
  have z4 : w2.cell? ⟨h, 4, none⟩ = some (.bool lev) := hH.cell rfl
  have z5 : w2.cell? ⟨h, 5, none⟩ = some (.int .i64 cab) := hH.cell rfl
  have z6 : w2.cell? ⟨h, 6, none⟩ = some (.int .i64 cat) := hH.cell rfl
  have z7 : w2.cell? ⟨h, 7, none⟩ = some (.int .i64 frm) := hH.cell rfl
  have z8 : w2.cell? ⟨h, 8, none⟩ = some (.int .i64 upto) := hH.cell rfl
  have z9 : w2.cell? ⟨h, 9, none⟩ = some (.int .i64 til) := hH.cell rfl
  have z10 : w2.cell? ⟨h, 10, none⟩ = some ((.slice A3 n3 c3)) := hH.cell rfl
  have HCALL := Lib.hid (HO.out w2 (HC.out.bel hbw) (HB.out.bel hbw) (shp_ok HU.out.symm) (HF.out.bel hbw))
  go_wp2_with fail
  refine HCALL.out.mono ?_
  rintro e w3 ⟨rfl, hb3⟩
  go_wp2_with fail
  go_ret
  exact ⟨rfl, hbw.trans (hb3.mono hbw.size)⟩
end Go.Proofs.YtlablioefblmkaaGreat
namespace Go.Proofs.YtlablioefblmkaaGreat
open Go.RowKit Go.Shelf
set_option maxRecDepth 100000 in
set_option maxHeartbeats 8000000 in
theorem CheckBooking_any (x : Shp) (A : Option Addr) (n cap : Nat) (B : Option Addr) (m cap2 : Nat) (b : Bkg) (A3 : Option Addr) (n3 c3 : Nat) (w : World) (hc : Sl catC 2 w All A n cap x.cats) (hb : Sl cabC 4 w All B m cap2 x.cabs) (ho : OkShp x) (hf : Sl entryC 3 w All A3 n3 c3 b.fol) :
    Calls Tryz.prog 18 #[.agg #[.int .i64 x.legs, .int .i64 x.souls, .slice A n cap, .slice B m cap2], .agg (bkgA b (.slice A3 n3 c3))] w fun e w' => e = .returned (.int .i64 (ofE x b)) ∧ Below w.heap.size w w' := by
  obtain ⟨id, kind, state, gst, lev, cab, cat, frm, upto, til, fol⟩ := b
  simp only at hf
  obtain ⟨r, hr⟩ : ∃ r, r = ofE x ⟨id, kind, state, gst, lev, cab, cat, frm, upto, til, fol⟩ := ⟨_, rfl⟩
  rw [← hr]
  rw [of_line] at hr
  have hk1 := fun W => between_any kind 1 2 W
  have hk2 := fun W => between_any state 1 3 W
  have hi1 := fun W => between_any id 1 999999 W
  have hi2 := fun W => between_any gst 1 4 W
  have ht1 := fun W => between_any til 0 9999 W
  have hsp := fun W => CheckSpan_any frm upto x.legs W
  have HEL := Lib.hid (fun (k : Nat) W h1 h2 h3 h4 h5 => IsEligible_any x A n cap B m cap2 ⟨id, kind, state, gst, lev, cab, cat, frm, upto, til, fol⟩ (.slice A3 n3 c3) k W h1 h2 ho h3 h4 h5)
  have HFO := Lib.hid (fun W h => CheckFolio_any A3 n3 c3 fol W h)
  obtain ⟨k1, e1⟩ : ∃ q, q = betB kind 1 2 := ⟨_, rfl⟩
  obtain ⟨k2, e2⟩ : ∃ q, q = betB state 1 3 := ⟨_, rfl⟩
  obtain ⟨i1, e3⟩ : ∃ q, q = betB id 1 999999 := ⟨_, rfl⟩
  obtain ⟨i2, e4⟩ : ∃ q, q = betB gst 1 4 := ⟨_, rfl⟩
  obtain ⟨t1, e5⟩ : ∃ q, q = betB til 0 9999 := ⟨_, rfl⟩
  obtain ⟨se, e6⟩ : ∃ q, q = spanE ⟨frm, upto⟩ x.legs := ⟨_, rfl⟩
  obtain ⟨fe, e7⟩ : ∃ q, q = checkFolio fol := ⟨_, rfl⟩
  obtain ⟨ke, e8⟩ : ∃ q, q = kindE x ⟨id, kind, state, gst, lev, cab, cat, frm, upto, til, fol⟩ := ⟨_, rfl⟩
  rw [← e1] at hk1
  rw [← e2] at hk2
  rw [← e3] at hi1
  rw [← e4] at hi2
  rw [← e5] at ht1
  rw [← e6] at hsp
  rw [← e7] at HFO
  rw [← e1, ← e2, ← e3, ← e4, ← e5, ← e6, ← e7, ← e8] at hr
  have HR := Lib.hid hr
  clear hr
  have HK1 := Lib.hid e1
  have HKE := Lib.hid e8
  clear e8
  have HB := Lib.hid hb
  have HC := Lib.hid hc
  have HF := Lib.hid hf
  have hmx := hb.bd
  have hnx := hc.bd
  clear hb hc hf e1 e2 e3 e4 e5 e6 e7
  go_enter Tryz.func18, Tryz.ntmps18
  go_upto_region 0 with (fail)
  go_cut [2, 3, 4] (fun p p2 _ wx => ∃ g h, p = .pointer (some ⟨g, 0, none⟩) ∧ p2 = .pointer (some ⟨h, 0, none⟩) ∧ Blk wx g #[.int .i64 x.legs, .int .i64 x.souls, .slice A n cap, .slice B m cap2] 25 ∧ Blk wx h (bkgA ⟨id, kind, state, gst, lev, cab, cat, frm, upto, til, fol⟩ (.slice A3 n3 c3)) 42 ∧ Below w.heap.size w wx)
  case first => as_aux_lemma =>
    go_wp2_with fail
    go_meet
    exact ⟨_, _, rfl, rfl, blk2_0 _ _ _, blk2_1 _ _ _, bel2 _ _ _⟩
  obtain ⟨g, h, rfl, rfl, hG, hH, hbw⟩ := hcut
  have g0 : wc.cell? ⟨g, 0, none⟩ = some (.int .i64 x.legs) := hG.cell rfl
  have g1 : wc.cell? ⟨g, 1, none⟩ = some (.int .i64 x.souls) := hG.cell rfl
  have g2 : wc.cell? ⟨g, 2, none⟩ = some (.slice A n cap) := hG.cell rfl
  have g3 : wc.cell? ⟨g, 3, none⟩ = some (.slice B m cap2) := hG.cell rfl
  have z0 : wc.cell? ⟨h, 0, none⟩ = some (.int .i64 id) := hH.cell rfl
  have z1 : wc.cell? ⟨h, 1, none⟩ = some (.int .i64 kind) := hH.cell rfl
  have z2 : wc.cell? ⟨h, 2, none⟩ = some (.int .i64 state) := hH.cell rfl
  have z3 : wc.cell? ⟨h, 3, none⟩ = some (.int .i64 gst) := hH.cell rfl
  have z4 : wc.cell? ⟨h, 4, none⟩ = some (.bool lev) := hH.cell rfl
  have z5 : wc.cell? ⟨h, 5, none⟩ = some (.int .i64 cab) := hH.cell rfl
  have z6 : wc.cell? ⟨h, 6, none⟩ = some (.int .i64 cat) := hH.cell rfl
  have z7 : wc.cell? ⟨h, 7, none⟩ = some (.int .i64 frm) := hH.cell rfl
  have z8 : wc.cell? ⟨h, 8, none⟩ = some (.int .i64 upto) := hH.cell rfl
  have z9 : wc.cell? ⟨h, 9, none⟩ = some (.int .i64 til) := hH.cell rfl
  have z10 : wc.cell? ⟨h, 10, none⟩ = some ((.slice A3 n3 c3)) := hH.cell rfl
  go_wp2_with fail
  refine (hk1 _).mono ?_
  rintro e w9 ⟨rfl, rfl⟩
  cases k1
  · obtain rfl : r = 7 := HR.out.trans (if_pos (by simp))
    go_wp2_with fail
    go_ret
    exact ⟨rfl, hbw⟩
  go_wp2_with fail
  refine (hk2 _).mono ?_
  rintro e w9 ⟨rfl, rfl⟩
  cases k2
  · obtain rfl : r = 7 := HR.out.trans (if_pos (by simp))
    go_wp2_with fail
    go_ret
    exact ⟨rfl, hbw⟩
  have HR1 := Lib.hid (HR.out.trans (if_neg (by simp)))
  clear HR
  go_wp2_with fail
  refine (hi1 _).mono ?_
  rintro e w9 ⟨rfl, rfl⟩
  cases i1
  · obtain rfl : r = 3 := HR1.out.trans (if_pos (by simp))
    go_wp2_with fail
    go_ret
    exact ⟨rfl, hbw⟩
  go_wp2_with fail
  refine (hi2 _).mono ?_
  rintro e w9 ⟨rfl, rfl⟩
  cases i2
  · obtain rfl : r = 3 := HR1.out.trans (if_pos (by simp))
    go_wp2_with fail
    go_ret
    exact ⟨rfl, hbw⟩
  have HR2 := Lib.hid (HR1.out.trans (if_neg (by simp)))
  clear HR1
  go_wp2_with fail
  refine (hsp _).mono ?_
  rintro e w2 ⟨rfl, hb2⟩
  replace hG := hG.bel hb2
  replace hH := hH.bel hb2
  replace hbw := hbw.trans (hb2.mono hbw.size)
  clear hb2 g0 g1 g2 g3 z0 z1 z2 z3 z4 z5 z6 z7 z8 z9 z10
  by_cases hse : se = 0
  rotate_left
  · obtain rfl : r = se := by rw [HR2.out, if_pos hse]
    have h0' : (r != 0) = true := by simpa using hse
    clear hse
    go_wp2_with fail
    go_ret
    exact ⟨rfl, hbw⟩
  subst hse
  have HR3 := Lib.hid (HR2.out.trans (if_neg (by simp)))
  clear HR2
  have g0 : w2.cell? ⟨g, 0, none⟩ = some (.int .i64 x.legs) := hG.cell rfl
  have g1 : w2.cell? ⟨g, 1, none⟩ = some (.int .i64 x.souls) := hG.cell rfl
  have g2 : w2.cell? ⟨g, 2, none⟩ = some (.slice A n cap) := hG.cell rfl
  have g3 : w2.cell? ⟨g, 3, none⟩ = some (.slice B m cap2) := hG.cell rfl
  have z0 : w2.cell? ⟨h, 0, none⟩ = some (.int .i64 id) := hH.cell rfl
  have z1 : w2.cell? ⟨h, 1, none⟩ = some (.int .i64 kind) := hH.cell rfl
  have z2 : w2.cell? ⟨h, 2, none⟩ = some (.int .i64 state) := hH.cell rfl
  have z3 : w2.cell? ⟨h, 3, none⟩ = some (.int .i64 gst) := hH.cell rfl
  have z4 : w2.cell? ⟨h, 4, none⟩ = some (.bool lev) := hH.cell rfl
  have z5 : w2.cell? ⟨h, 5, none⟩ = some (.int .i64 cab) := hH.cell rfl
  have z6 : w2.cell? ⟨h, 6, none⟩ = some (.int .i64 cat) := hH.cell rfl
  have z7 : w2.cell? ⟨h, 7, none⟩ = some (.int .i64 frm) := hH.cell rfl
  have z8 : w2.cell? ⟨h, 8, none⟩ = some (.int .i64 upto) := hH.cell rfl
  have z9 : w2.cell? ⟨h, 9, none⟩ = some (.int .i64 til) := hH.cell rfl
  have z10 : w2.cell? ⟨h, 10, none⟩ = some ((.slice A3 n3 c3)) := hH.cell rfl
  go_upto_if 40 with (fail)
  obtain ⟨w4, hw4⟩ : ∃ W, W = w2 := ⟨_, rfl⟩
  subst hw4
  go_cut [] (fun wx => ke = 0 ∧ Below w4.heap.size w4 wx)
  case first => as_aux_lemma =>
    have fin : ∀ q, ke = q → q ≠ 0 → r = q := fun q h1 h2 => by rw [HR3.out, h1, if_pos h2]
    have FIN := Lib.hid fin
    clear fin
    have hkb := betB_iff.1 HK1.out.symm
    by_cases hkd : kind = 1
    · subst hkd
      have HN := Lib.hid (show ke = if betB cab 0 ((m : Int) - 1) = false then 3 else if cat ≠ 0 then 1 else if fitB (cabAt x cab) ⟨id, 1, state, gst, lev, cab, cat, frm, upto, til, fol⟩ = false then 4 else 0 by rw [HKE.out, ← HB.out.len]; rfl)
      clear HKE hkb
      by_cases hc0 : cab < 0
      · obtain rfl : r = 3 := FIN.out 3 (by rw [HN.out, if_pos (betB_false (.inl hc0))]) (by decide)
        go_wp2_with fail
        go_ret
        exact ⟨rfl, hbw⟩
      by_cases hc1 : (m : Int) ≤ cab
      · obtain rfl : r = 3 := FIN.out 3 (by rw [HN.out, if_pos (betB_false (.inr (by omega)))]) (by decide)
        go_wp2_with fail
        go_ret
        exact ⟨rfl, hbw⟩
      obtain ⟨k, rfl⟩ : ∃ k : Nat, cab = k := ⟨cab.toNat, by omega⟩
      have hk : k < m := by omega
      by_cases hcat : cat = 0
      · subst hcat
        obtain ⟨b, off, nm, ct, ber, lv, hB, hx, e0, e1, e2, e3⟩ := (HB.out.bel hbw).cab hk
        subst hB
        have hf : cabAt x k = ⟨nm, ct, ber, lv⟩ := hx
        have HD := Lib.hid (fun W => DoesFit_any ⟨nm, ct, ber, lv⟩ ⟨id, 1, state, gst, lev, k, 0, frm, upto, til, fol⟩ (.slice A3 n3 c3) W)
        obtain ⟨f, hff⟩ : ∃ f, f = fitB ⟨nm, ct, ber, lv⟩ ⟨id, 1, state, gst, lev, k, 0, frm, upto, til, fol⟩ := ⟨_, rfl⟩
        have HR4 := Lib.hid (show ke = if f = false then 4 else 0 by rw [HN.out, if_neg (by rw [betB_true (by omega) (by omega)]; simp), if_neg (by simp), hf, hff])
        rw [← hff] at HD
        have hk0 : (0 : Int) ≤ (k : Int) := Int.natCast_nonneg _
        have hk1' : (k : Int) < (m : Int) := by omega
        clear hx hf hff hc0 hc1 HN
        go_upto_region 14 with (fail)
        go_cut [61] (fun t wx => t = .bool (!f) ∧ Below w4.heap.size w4 wx)
        case first => as_aux_lemma =>
          go_region_with (go_at_call 74; refine (HD.out _).mono ?_; rintro e wn ⟨rfl, hbn⟩)
          all_goals
            go_wp2_with fail
            go_meet
            exact ⟨rfl, (Below.refl _ _).drew.trans hbn⟩
        obtain ⟨rfl, hb4⟩ := hcut
        cases f
        · obtain rfl : r = 4 := FIN.out 4 HR4.out (by decide)
          go_wp2_with fail
          go_ret
          exact ⟨rfl, hbw.trans (hb4.mono hbw.size)⟩
        · skip
          go_wp2_with fail
          go_meet
          exact ⟨HR4.out, hb4⟩
      · obtain rfl : r = 1 := FIN.out 1 (by rw [HN.out, if_neg (by rw [betB_true (by omega) (by omega)]; simp), if_pos hcat]) (by decide)
        have h0' : (cat != 0) = true := by simpa using hcat
        clear hcat hc0 hc1
        go_wp2_with fail
        go_ret
        exact ⟨rfl, hbw⟩
    · have hkd2 : kind = 2 := by omega
      subst hkd2
      have HN := Lib.hid (show ke = if betB cat 0 ((n : Int) - 1) = false then 3 else if frm ≠ 0 ∨ upto ≠ x.legs then 4 else if betB cab (-1) ((m : Int) - 1) = false then 3 else if 0 ≤ cab ∧ eligB x ⟨id, 2, state, gst, lev, cab, cat, frm, upto, til, fol⟩ cab = false then 4 else 0 by
        rw [HKE.out, ← HB.out.len, ← HC.out.len]; rfl)
      clear HKE hkb hkd
      by_cases hc0 : cat < 0
      · obtain rfl : r = 3 := FIN.out 3 (by rw [HN.out, if_pos (betB_false (.inl hc0))]) (by decide)
        go_wp2_with fail
        go_ret
        exact ⟨rfl, hbw⟩
      by_cases hc1 : (n : Int) ≤ cat
      · obtain rfl : r = 3 := FIN.out 3 (by rw [HN.out, if_pos (betB_false (.inr (by omega)))]) (by decide)
        go_wp2_with fail
        go_ret
        exact ⟨rfl, hbw⟩
      have HN1 := Lib.hid (HN.out.trans (if_neg (by rw [betB_true (by omega) (by omega)]; simp)))
      clear HN
      by_cases hfr : frm = 0
      rotate_left
      · obtain rfl : r = 4 := FIN.out 4 (by rw [HN1.out, if_pos (.inl hfr)]) (by decide)
        have h0' : (frm != 0) = true := by simpa using hfr
        clear hfr
        go_wp2_with fail
        go_ret
        exact ⟨rfl, hbw⟩
      subst hfr
      by_cases hup : upto = x.legs
      rotate_left
      · obtain rfl : r = 4 := FIN.out 4 (by rw [HN1.out, if_pos (.inr hup)]) (by decide)
        have h0' : (upto != x.legs) = true := by simpa using hup
        clear hup
        go_wp2_with fail
        go_ret
        exact ⟨rfl, hbw⟩
      subst hup
      have HN2 := Lib.hid (HN1.out.trans (if_neg (by simp)))
      clear HN1
      by_cases hm0 : cab < -1
      · obtain rfl : r = 3 := FIN.out 3 (by rw [HN2.out, if_pos (betB_false (.inl hm0))]) (by decide)
        go_wp2_with fail
        go_ret
        exact ⟨rfl, hbw⟩
      by_cases hm1 : (m : Int) ≤ cab
      · obtain rfl : r = 3 := FIN.out 3 (by rw [HN2.out, if_pos (betB_false (.inr (by omega)))]) (by decide)
        go_wp2_with fail
        go_ret
        exact ⟨rfl, hbw⟩
      have HN3 := Lib.hid (HN2.out.trans (if_neg (by rw [betB_true (by omega) (by omega)]; simp)))
      clear HN2
      by_cases h0 : 0 ≤ cab
      · obtain ⟨k, rfl⟩ : ∃ k : Nat, cab = k := ⟨cab.toNat, by omega⟩
        have HCALL := Lib.hid (HEL.out k w4 (HC.out.bel hbw) (HB.out.bel hbw) (by omega) (by omega) (by omega))
        obtain ⟨f, hf⟩ : ∃ f, f = eligB x ⟨id, 2, state, gst, lev, k, cat, 0, x.legs, til, fol⟩ k := ⟨_, rfl⟩
        have HR4 := Lib.hid (show ke = if f = false then 4 else 0 by
          rw [HN3.out, ← hf]
          cases f <;> simp <;> omega)
        rw [← hf] at HCALL
        clear hf HN3
        go_wp2_with fail
        refine HCALL.out.mono ?_
        rintro e wn ⟨rfl, hb4⟩
        cases f
        · obtain rfl : r = 4 := FIN.out 4 HR4.out (by decide)
          go_wp2_with fail
          go_ret
          exact ⟨rfl, hbw.trans (hb4.mono hbw.size)⟩
        · skip
          go_wp2_with fail
          go_meet
          exact ⟨HR4.out, hb4⟩
      · have h1 : cab < 0 := by omega
        go_wp2_with fail
        go_meet
        exact ⟨by rw [HN3.out, if_neg (fun h => by have := h.1; omega)], Below.refl _ _⟩
  obtain ⟨rfl, hb5⟩ := hcut
  replace hG := hG.bel hb5
  replace hH := hH.bel hb5
  replace hbw := hbw.trans (hb5.mono hbw.size)
  clear hb5 g0 g1 g2 g3 z0 z1 z2 z3 z4 z5 z6 z7 z8 z9 z10 HKE HEL
  have HR5 := Lib.hid (HR3.out.trans (if_neg (by simp)))
  clear HR3
  have z2 : wc.cell? ⟨h, 2, none⟩ = some (.int .i64 state) := hH.cell rfl
  have z8 : wc.cell? ⟨h, 8, none⟩ = some (.int .i64 upto) := hH.cell rfl
  have z9 : wc.cell? ⟨h, 9, none⟩ = some (.int .i64 til) := hH.cell rfl
  have z10 : wc.cell? ⟨h, 10, none⟩ = some (.slice A3 n3 c3) := hH.cell rfl
  go_wp2_with fail
  refine (ht1 _).mono ?_
  rintro e w9 ⟨rfl, rfl⟩
  cases t1
  · obtain rfl : r = 3 := HR5.out.trans (if_pos (by simp))
    go_wp2_with fail
    go_ret
    exact ⟨rfl, hbw⟩
  have HR6 := Lib.hid (HR5.out.trans (if_neg (by simp)))
  clear HR5
  have HCALL := Lib.hid (HFO.out _ (HF.out.bel hbw))
  by_cases h1 : til = 0
  · obtain rfl : r = fe := by rw [HR6.out, if_neg (fun h => h.1 h1)]
    subst h1
    go_wp2_with fail
    refine HCALL.out.mono ?_
    rintro e w6 ⟨rfl, hb6⟩
    go_wp2_with fail
    go_ret
    exact ⟨rfl, hbw.trans (hb6.mono hbw.size)⟩
  have h1' : (til != 0) = true := by simpa using h1
  by_cases h2 : state = 1
  · obtain rfl : r = fe := by rw [HR6.out, if_neg (fun h => h.2 h2)]
    subst h2
    clear h1
    go_wp2_with fail
    refine HCALL.out.mono ?_
    rintro e w6 ⟨rfl, hb6⟩
    go_wp2_with fail
    go_ret
    exact ⟨rfl, hbw.trans (hb6.mono hbw.size)⟩
  · obtain rfl : r = 1 := by rw [HR6.out, if_pos ⟨h1, h2⟩]
    have h2' : (state != 1) = true := by simpa using h2
    clear h1 h2
    go_wp2_with fail
    go_ret
    exact ⟨rfl, hbw⟩
end Go.Proofs.YtlablioefblmkaaGreat
namespace Go.Proofs.YtlablioefblmkaaGreat
open Go.RowKit Go.Shelf
theorem Sl.bkg {w : World} {S : Nat → Prop} {A : Option Addr} {n cap : Nat} {l : List Bkg} (h : Sl bkgC 11 w S A n cap l) {k : Nat} (hk : k < n) : ∃ (b off : Nat) (x : Bkg) (A3 : Option Addr) (n3 c3 : Nat), A = some ⟨b, off, none⟩ ∧ l[k]? = some x ∧ Sl entryC 3 w S A3 n3 c3 x.fol ∧ BkIn x ∧
    ∀ j u, (bkgA x (.slice A3 n3 c3)).toList[j]? = some u → w.cell? ⟨b, off + k * 11 + j, none⟩ = some u := by
  have hl := h.len
  obtain ⟨b, off, cs, hA, _, hc, hlen, hcell⟩ := h.rd k (l[k]'(by omega)) (List.getElem?_eq_getElem (by omega))
  obtain ⟨A3, n3, c3, rfl, hF, hI⟩ := hc
  exact ⟨b, off, _, A3, n3, c3, hA, List.getElem?_eq_getElem (by omega), hF, hI, hcell⟩
theorem ofE_at {x : Shp} {l : List Bkg} {k : Nat} {y : Bkg} (h : l[k]? = some y) : (fun i => ofE x (l.getD i default)) k = ofE x y := by
  simp only [List.getD_eq_getElem?_getD, h, Option.getD_some]
set_option maxRecDepth 100000 in
set_option maxHeartbeats 8000000 in
theorem bookAll_any (x : Shp) (A : Option Addr) (n cap : Nat) (B : Option Addr) (m cap2 : Nat) (C : Option Addr) (nb cb : Nat) (l : List Bkg) (w : World) (hc : Sl catC 2 w All A n cap x.cats) (hb : Sl cabC 4 w All B m cap2 x.cabs) (hl : Sl bkgC 11 w All C nb cb l) :
    Calls Tryz.prog 87 #[.agg #[.int .i64 x.legs, .int .i64 x.souls, .slice A n cap, .slice B m cap2], .slice C nb cb] w fun e w' => e = .returned (.int .i64 (allE x l)) ∧ Below w.heap.size w w' := by
  have HS := Lib.hid (fun W h1 h2 => shipCheck_any x A n cap B m cap2 W h1 h2)
  have HO := Lib.hid (fun b A3 n3 c3 W h1 h2 h3 h4 => bookOf_any x A n cap B m cap2 b A3 n3 c3 W h1 h2 h3 h4)
  obtain ⟨r, hr⟩ : ∃ r, r = allE x l := ⟨_, rfl⟩
  rw [← hr]
  obtain ⟨u, hu⟩ : ∃ q, q = shipE x := ⟨_, rfl⟩
  replace hr : r = if u ≠ 0 then u else firstE (fun i => ofE x (l.getD i default)) nb := by rw [hr, hu, ← hl.len]; rfl
  rw [← hu] at HS
  have HR := Lib.hid hr
  clear hr
  have HU := Lib.hid hu
  clear hu
  have hbd := hl.bd
  have HB := Lib.hid hb
  have HC := Lib.hid hc
  have HL := Lib.hid hl
  clear hb hc hl
  go_enter Tryz.func87, Tryz.ntmps87
  go_upto_region 0 with (fail)
  go_cut [2, 4] (fun p _ wx => ∃ g, p = .pointer (some ⟨g, 0, none⟩) ∧ Blk wx g #[.int .i64 x.legs, .int .i64 x.souls, .slice A n cap, .slice B m cap2] 25 ∧ Below w.heap.size w wx)
  case first => as_aux_lemma =>
    go_wp2_with fail
    go_meet
    exact ⟨_, rfl, blk1 _ _, bel1 _ _⟩
  obtain ⟨g, rfl, hG, hbw⟩ := hcut
  have g0 : wc.cell? ⟨g, 0, none⟩ = some (.int .i64 x.legs) := hG.cell rfl
  have g1 : wc.cell? ⟨g, 1, none⟩ = some (.int .i64 x.souls) := hG.cell rfl
  have g2 : wc.cell? ⟨g, 2, none⟩ = some (.slice A n cap) := hG.cell rfl
  have g3 : wc.cell? ⟨g, 3, none⟩ = some (.slice B m cap2) := hG.cell rfl
  have HCALL := Lib.hid (HS.out wc (HC.out.bel hbw) (HB.out.bel hbw))
  go_wp2_with fail
  refine HCALL.out.mono ?_
  rintro e w2 ⟨rfl, hb2⟩
  replace hG := hG.bel hb2
  replace hbw := hbw.trans (hb2.mono hbw.size)
  clear hb2 g0 g1 g2 g3 HCALL HS
  by_cases hu : u = 0
  rotate_left
  · obtain rfl : r = u := by rw [HR.out, if_pos hu]
    have h0' : (r != 0) = true := by simpa using hu
    clear hu
    go_wp2_with fail
    go_ret
    exact ⟨rfl, hbw⟩
  subst hu
  have HR2 := Lib.hid (HR.out.trans (if_neg (by simp)))
  have HOK := Lib.hid (shp_ok HU.out.symm)
  clear HR HU
  have HG := Lib.hid hG
  clear hG
  have HBW := Lib.hid hbw
  clear hbw
  obtain ⟨W0, hW0⟩ : ∃ W, W = w2 := ⟨_, rfl⟩
  subst hW0
  go_wp2_with fail
  go_loopg [16] nb (fun gk i wr => ∃ k : Nat, k ≤ nb ∧ nb - k ≤ gk ∧ i = .int .i64 k ∧ Aside (firstE (fun i => ofE x (l.getD i default)) k = 0) ∧ Below W0.heap.size W0 wr)
  case atStart => exact ⟨0, Nat.zero_le _, by omega, rfl, rfl, Below.refl _ _⟩
  case round =>
    obtain ⟨k, hk, hgk, rfl, HE, hb⟩ := hrel
    by_cases hlt : k < nb
    · have hbo := HBW.out.trans (hb.mono HBW.out.size)
      obtain ⟨ab, off, ⟨id, kind, state, gst, lev, cab, cat, frm, upto, til, fol⟩, A3, n3, c3, hA, hx, hF, hI, hcel⟩ := (HL.out.bel hbo).bkg hlt
      subst hA
      simp only at hF
      have y0 : wr.cell? ⟨ab, off + k * 11, none⟩ = some (.int .i64 id) := hcel 0 _ rfl
      have y1 : wr.cell? ⟨ab, off + k * 11 + 1, none⟩ = some (.int .i64 kind) := hcel 1 _ rfl
      have y2 : wr.cell? ⟨ab, off + k * 11 + 2, none⟩ = some (.int .i64 state) := hcel 2 _ rfl
      have y3 : wr.cell? ⟨ab, off + k * 11 + 3, none⟩ = some (.int .i64 gst) := hcel 3 _ rfl
      have y4 : wr.cell? ⟨ab, off + k * 11 + 4, none⟩ = some (.bool lev) := hcel 4 _ rfl
      have y5 : wr.cell? ⟨ab, off + k * 11 + 5, none⟩ = some (.int .i64 cab) := hcel 5 _ rfl
      have y6 : wr.cell? ⟨ab, off + k * 11 + 6, none⟩ = some (.int .i64 cat) := hcel 6 _ rfl
      have y7 : wr.cell? ⟨ab, off + k * 11 + 7, none⟩ = some (.int .i64 frm) := hcel 7 _ rfl
      have y8 : wr.cell? ⟨ab, off + k * 11 + 8, none⟩ = some (.int .i64 upto) := hcel 8 _ rfl
      have y9 : wr.cell? ⟨ab, off + k * 11 + 9, none⟩ = some (.int .i64 til) := hcel 9 _ rfl
      have y10 : wr.cell? ⟨ab, off + k * 11 + 10, none⟩ = some (.slice A3 n3 c3) := hcel 10 _ rfl
      clear hcel
      go_upto_region 6 with (fail)
      go_cut [7] (fun p wx => ∃ z, p = .pointer (some ⟨z, 0, none⟩) ∧ Blk wx z (bkgA ⟨id, kind, state, gst, lev, cab, cat, frm, upto, til, fol⟩ (.slice A3 n3 c3)) 42 ∧ Below wr.heap.size wr wx)
      case first => as_aux_lemma =>
        go_wp2_with fail
        go_meet
        exact ⟨_, rfl, blk1 _ _, bel1 _ _⟩
      obtain ⟨z, rfl, hZ, hbz⟩ := hcut
      clear y0 y1 y2 y3 y4 y5 y6 y7 y8 y9 y10
      replace hF := hF.bel hbz
      replace hb := hb.trans (hbz.mono hb.size)
      replace hbo := hbo.trans (hbz.mono hbo.size)
      clear hbz
      have hG := HG.out.bel hb
      have g0 : wc.cell? ⟨g, 0, none⟩ = some (.int .i64 x.legs) := hG.cell rfl
      have g1 : wc.cell? ⟨g, 1, none⟩ = some (.int .i64 x.souls) := hG.cell rfl
      have g2 : wc.cell? ⟨g, 2, none⟩ = some (.slice A n cap) := hG.cell rfl
      have g3 : wc.cell? ⟨g, 3, none⟩ = some (.slice B m cap2) := hG.cell rfl
      have z0 : wc.cell? ⟨z, 0, none⟩ = some (.int .i64 id) := hZ.cell rfl
      have z1 : wc.cell? ⟨z, 1, none⟩ = some (.int .i64 kind) := hZ.cell rfl
      have z2 : wc.cell? ⟨z, 2, none⟩ = some (.int .i64 state) := hZ.cell rfl
      have z3 : wc.cell? ⟨z, 3, none⟩ = some (.int .i64 gst) := hZ.cell rfl
      have z4 : wc.cell? ⟨z, 4, none⟩ = some (.bool lev) := hZ.cell rfl
      have z5 : wc.cell? ⟨z, 5, none⟩ = some (.int .i64 cab) := hZ.cell rfl
      have z6 : wc.cell? ⟨z, 6, none⟩ = some (.int .i64 cat) := hZ.cell rfl
      have z7 : wc.cell? ⟨z, 7, none⟩ = some (.int .i64 frm) := hZ.cell rfl
      have z8 : wc.cell? ⟨z, 8, none⟩ = some (.int .i64 upto) := hZ.cell rfl
      have z9 : wc.cell? ⟨z, 9, none⟩ = some (.int .i64 til) := hZ.cell rfl
      have z10 : wc.cell? ⟨z, 10, none⟩ = some ((.slice A3 n3 c3)) := hZ.cell rfl
      have hfin := ofE_at (x := x) hx
      obtain ⟨q, hq⟩ : ∃ q, q = ofE x ⟨id, kind, state, gst, lev, cab, cat, frm, upto, til, fol⟩ := ⟨_, rfl⟩
      have HCALL := Lib.hid (HO.out ⟨id, kind, state, gst, lev, cab, cat, frm, upto, til, fol⟩ A3 n3 c3 wc (HC.out.bel hbo) (HB.out.bel hbo) HOK.out hF)
      rw [← hq] at HCALL hfin
      have HFIN := Lib.hid hfin
      clear hfin
      clear hx hF hI hG hZ hq
      go_wp2_with fail
      refine HCALL.out.mono ?_
      rintro e w3 ⟨rfl, hb3⟩
      by_cases hq0 : q = 0
      · subst hq0
        go_wp2_with fail
        go_roundg (nb - (k + 1))
        case measure => omega
        case rel => exact ⟨k + 1, by omega, by omega, by go_num, firstE_succ HE HFIN.out, hb.trans (hb3.mono hb.size)⟩
      · obtain rfl : r = q := by rw [HR2.out, firstE_at HE (by rw [HFIN.out]; exact hq0) hlt, HFIN.out]
        have h0' : (r != 0) = true := by simpa using hq0
        clear hq0
        go_wp2_with fail
        go_ret
        exact ⟨rfl, hbo.trans (hb3.mono hbo.size)⟩
    · obtain rfl : k = nb := by omega
      obtain rfl : r = 0 := by rw [HR2.out]; exact HE
      go_wp2_with fail
      go_ret
      exact ⟨rfl, HBW.out.trans (hb.mono HBW.out.size)⟩
end Go.Proofs.YtlablioefblmkaaGreat
