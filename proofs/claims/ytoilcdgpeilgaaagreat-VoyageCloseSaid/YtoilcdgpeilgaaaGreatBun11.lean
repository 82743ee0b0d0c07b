/-
  Words, laws and contracts: BookD, BookE, BookF, BookS, BookG.
-/
import Derived.Test.YtoilcdgpeilgaaaGreatBun6
import Derived.Test.YtoilcdgpeilgaaaGreatBun10
import Derived.Shelf.SlSortCmp.WholeK
import Derived.Shelf.SlSortCmp.NoneTotal
set_option linter.unusedSimpArgs false
set_option linter.unusedVariables false
namespace Go.Proofs.YtoilcdgpeilgaaaGreat
open Go.RowKit Go.Shelf
theorem of_line (x : Shp) (id kind state gst : Int) (lev : Bool) (cab cat frm upto til : Int) (fol : List Entry) : ofE x ⟨id, kind, state, gst, lev, cab, cat, frm, upto, til, fol⟩ = if (betB kind 1 2 && betB state 1 3) = false then 7 else if (betB id 1 999999 && betB gst 1 4) = false then 3 else if spanE ⟨frm, upto⟩ x.legs ≠ 0 then spanE ⟨frm, upto⟩ x.legs
  else if kindE x ⟨id, kind, state, gst, lev, cab, cat, frm, upto, til, fol⟩ ≠ 0 then kindE x ⟨id, kind, state, gst, lev, cab, cat, frm, upto, til, fol⟩ else if betB til 0 9999 = false then 3 else if til ≠ 0 ∧ state ≠ 1 then 1 else checkFolio fol := rfl
set_option maxRecDepth 100000 in
set_option maxHeartbeats 8000000 in
theorem bookOf_any (x : Shp) (A : Option Addr) (n cap : Nat) (B : Option Addr) (m cap2 : Nat) (b : Bkg) (A3 : Option Addr) (n3 c3 : Nat) (w : World) (hc : Sl catC 2 w All A n cap x.cats) (hb : Sl cabC 4 w All B m cap2 x.cabs) (ho : OkShp x) (hf : Sl entryC 3 w All A3 n3 c3 b.fol) :
    Calls Tryz.prog 104 #[.agg #[.int .i64 x.legs, .int .i64 x.souls, .slice A n cap, .slice B m cap2], .agg (bkgA b (.slice A3 n3 c3))] w fun e w' => e = .returned (.int .i64 (ofE x b)) ∧ Below w.heap.size w w' := by
  obtain ⟨id, kind, state, gst, lev, cab, cat, frm, upto, til, fol⟩ := b
  simp only at hf
  obtain ⟨r, hr⟩ : ∃ r, r = ofE x ⟨id, kind, state, gst, lev, cab, cat, frm, upto, til, fol⟩ := ⟨_, rfl⟩
  rw [← hr]
  rw [of_line] at hr
  have hk1 := fun W => bwithin_any kind 1 2 W
  have hk2 := fun W => bwithin_any state 1 3 W
  have hi1 := fun W => bwithin_any id 1 999999 W
  have hi2 := fun W => bwithin_any gst 1 4 W
  have ht1 := fun W => bwithin_any til 0 9999 W
  have hsp := fun W => spanCheck_any frm upto x.legs W
  have HNA := Lib.hid (fun W h => named_any x A n cap B m cap2 ⟨id, kind, state, gst, lev, cab, cat, frm, upto, til, fol⟩ (.slice A3 n3 c3) W h)
  have HPR := Lib.hid (fun W h1 h2 => promise_any x A n cap B m cap2 ⟨id, kind, state, gst, lev, cab, cat, frm, upto, til, fol⟩ (.slice A3 n3 c3) W h1 h2 ho)
  have HFO := Lib.hid (fun W h => Check_any A3 n3 c3 fol W h)
  obtain ⟨k1, e1⟩ : ∃ q, q = betB kind 1 2 := ⟨_, rfl⟩
  obtain ⟨k2, e2⟩ : ∃ q, q = betB state 1 3 := ⟨_, rfl⟩
  obtain ⟨i1, e3⟩ : ∃ q, q = betB id 1 999999 := ⟨_, rfl⟩
  obtain ⟨i2, e4⟩ : ∃ q, q = betB gst 1 4 := ⟨_, rfl⟩
  obtain ⟨t1, e5⟩ : ∃ q, q = betB til 0 9999 := ⟨_, rfl⟩
  obtain ⟨se, e6⟩ : ∃ q, q = spanE ⟨frm, upto⟩ x.legs := ⟨_, rfl⟩
  obtain ⟨fe, e7⟩ : ∃ q, q = checkFolio fol := ⟨_, rfl⟩
  rw [← e1] at hk1
  rw [← e2] at hk2
  rw [← e3] at hi1
  rw [← e4] at hi2
  rw [← e5] at ht1
  rw [← e6] at hsp
  rw [← e7] at HFO
  rw [← e1, ← e2, ← e3, ← e4, ← e5, ← e6, ← e7] at hr
  have HR := Lib.hid hr
  clear hr
  have HK2 := Lib.hid e2
  clear e2
  have HB := Lib.hid hb
  have HC := Lib.hid hc
  have HF := Lib.hid hf
  clear hb hc hf e1 e3 e4 e5 e6 e7
  go_enter Tryz.func104, Tryz.ntmps104
  go_upto_region 0 with (fail)
  go_cut [2, 3, 4] (fun p p2 _ wx => ∃ g h, p = .pointer (some ⟨g, 0, none⟩) ∧ p2 = .pointer (some ⟨h, 0, none⟩) ∧ Blk wx g #[.int .i64 x.legs, .int .i64 x.souls, .slice A n cap, .slice B m cap2] 25 ∧ Blk wx h (bkgA ⟨id, kind, state, gst, lev, cab, cat, frm, upto, til, fol⟩ (.slice A3 n3 c3)) 37 ∧ Below w.heap.size w wx)
  case first => as_aux_lemma =>
    go_wp2_with fail
    go_meet
    exact ⟨_, _, rfl, rfl, blk2_0 _ _ _, blk2_1 _ _ _, bel2 _ _ _⟩
  obtain ⟨g, h, rfl, rfl, hG, hH, hbw⟩ := hcut
  have g0 : wc.cell? ⟨g, 0, none⟩ = some (.int .i64 x.legs) := hG.cell rfl
  have g1 : wc.cell? ⟨g, 1, none⟩ = some (.int .i64 x.souls) := hG.cell rfl
  have g2 : wc.cell? ⟨g, 2, none⟩ = some (.slice A n cap) := hG.cell rfl
  have g3 : wc.cell? ⟨g, 3, none⟩ = some (.slice B m cap2) := hG.cell rfl
  have z0 : wc.cell? ⟨h, 0, none⟩ = some (.int .i64 id) := hH.cell rfl
  have z1 : wc.cell? ⟨h, 1, none⟩ = some (.int .i64 kind) := hH.cell rfl
  have z2 : wc.cell? ⟨h, 2, none⟩ = some (.int .i64 state) := hH.cell rfl
  have z3 : wc.cell? ⟨h, 3, none⟩ = some (.int .i64 gst) := hH.cell rfl
  have z4 : wc.cell? ⟨h, 4, none⟩ = some (.bool lev) := hH.cell rfl
  have z5 : wc.cell? ⟨h, 5, none⟩ = some (.int .i64 cab) := hH.cell rfl
  have z6 : wc.cell? ⟨h, 6, none⟩ = some (.int .i64 cat) := hH.cell rfl
  have z7 : wc.cell? ⟨h, 7, none⟩ = some (.int .i64 frm) := hH.cell rfl
  have z8 : wc.cell? ⟨h, 8, none⟩ = some (.int .i64 upto) := hH.cell rfl
  have z9 : wc.cell? ⟨h, 9, none⟩ = some (.int .i64 til) := hH.cell rfl
  have z10 : wc.cell? ⟨h, 10, none⟩ = some ((.slice A3 n3 c3)) := hH.cell rfl
  go_wp2_with fail
  refine (hk1 _).mono ?_
  rintro e w9 ⟨rfl, rfl⟩
  cases k1
  · obtain rfl : r = 7 := HR.out.trans (if_pos (by simp))
    go_wp2_with fail
    go_ret
    exact ⟨rfl, hbw⟩
  go_wp2_with fail
  refine (hk2 _).mono ?_
  rintro e w9 ⟨rfl, rfl⟩
  cases k2
  · obtain rfl : r = 7 := HR.out.trans (if_pos (by simp))
    go_wp2_with fail
    go_ret
    exact ⟨rfl, hbw⟩
  have HR1 := Lib.hid (HR.out.trans (if_neg (by simp)))
  clear HR
  go_wp2_with fail
  refine (hi1 _).mono ?_
  rintro e w9 ⟨rfl, rfl⟩
  cases i1
  · obtain rfl : r = 3 := HR1.out.trans (if_pos (by simp))
    go_wp2_with fail
    go_ret
    exact ⟨rfl, hbw⟩
  go_wp2_with fail
  refine (hi2 _).mono ?_
  rintro e w9 ⟨rfl, rfl⟩
  cases i2
  · obtain rfl : r = 3 := HR1.out.trans (if_pos (by simp))
    go_wp2_with fail
    go_ret
    exact ⟨rfl, hbw⟩
  have HR2 := Lib.hid (HR1.out.trans (if_neg (by simp)))
  clear HR1
  go_wp2_with fail
  refine (hsp _).mono ?_
  rintro e w2 ⟨rfl, hb2⟩
  replace hG := hG.bel hb2
  replace hH := hH.bel hb2
  replace hbw := hbw.trans (hb2.mono hbw.size)
  clear hb2 g0 g1 g2 g3 z0 z1 z2 z3 z4 z5 z6 z7 z8 z9 z10
  by_cases hse : se = 0
  rotate_left
  · obtain rfl : r = se := by rw [HR2.out, if_pos hse]
    have h0' : (r != 0) = true := by simpa using hse
    clear hse
    go_wp2_with fail
    go_ret
    exact ⟨rfl, hbw⟩
  subst hse
  have HR3 := Lib.hid (HR2.out.trans (if_neg (by simp)))
  clear HR2
  have g0 : w2.cell? ⟨g, 0, none⟩ = some (.int .i64 x.legs) := hG.cell rfl
  have g1 : w2.cell? ⟨g, 1, none⟩ = some (.int .i64 x.souls) := hG.cell rfl
  have g2 : w2.cell? ⟨g, 2, none⟩ = some (.slice A n cap) := hG.cell rfl
  have g3 : w2.cell? ⟨g, 3, none⟩ = some (.slice B m cap2) := hG.cell rfl
  have z0 : w2.cell? ⟨h, 0, none⟩ = some (.int .i64 id) := hH.cell rfl
  have z1 : w2.cell? ⟨h, 1, none⟩ = some (.int .i64 kind) := hH.cell rfl
  have z2 : w2.cell? ⟨h, 2, none⟩ = some (.int .i64 state) := hH.cell rfl
  have z3 : w2.cell? ⟨h, 3, none⟩ = some (.int .i64 gst) := hH.cell rfl
  have z4 : w2.cell? ⟨h, 4, none⟩ = some (.bool lev) := hH.cell rfl
  have z5 : w2.cell? ⟨h, 5, none⟩ = some (.int .i64 cab) := hH.cell rfl
  have z6 : w2.cell? ⟨h, 6, none⟩ = some (.int .i64 cat) := hH.cell rfl
  have z7 : w2.cell? ⟨h, 7, none⟩ = some (.int .i64 frm) := hH.cell rfl
  have z8 : w2.cell? ⟨h, 8, none⟩ = some (.int .i64 upto) := hH.cell rfl
  have z9 : w2.cell? ⟨h, 9, none⟩ = some (.int .i64 til) := hH.cell rfl
  have z10 : w2.cell? ⟨h, 10, none⟩ = some ((.slice A3 n3 c3)) := hH.cell rfl
  have HCALL := Lib.hid (HNA.out w2 (HB.out.bel hbw))
  go_wp2_with fail
  refine HCALL.out.mono ?_
  rintro e w3 ⟨rfl, hb2⟩
  replace hG := hG.bel hb2
  replace hH := hH.bel hb2
  replace hbw := hbw.trans (hb2.mono hbw.size)
  clear hb2 g0 g1 g2 g3 z0 z1 z2 z3 z4 z5 z6 z7 z8 z9 z10 HCALL HNA
  have g0 : w3.cell? ⟨g, 0, none⟩ = some (.int .i64 x.legs) := hG.cell rfl
  have g1 : w3.cell? ⟨g, 1, none⟩ = some (.int .i64 x.souls) := hG.cell rfl
  have g2 : w3.cell? ⟨g, 2, none⟩ = some (.slice A n cap) := hG.cell rfl
  have g3 : w3.cell? ⟨g, 3, none⟩ = some (.slice B m cap2) := hG.cell rfl
  have z0 : w3.cell? ⟨h, 0, none⟩ = some (.int .i64 id) := hH.cell rfl
  have z1 : w3.cell? ⟨h, 1, none⟩ = some (.int .i64 kind) := hH.cell rfl
  have z2 : w3.cell? ⟨h, 2, none⟩ = some (.int .i64 state) := hH.cell rfl
  have z3 : w3.cell? ⟨h, 3, none⟩ = some (.int .i64 gst) := hH.cell rfl
  have z4 : w3.cell? ⟨h, 4, none⟩ = some (.bool lev) := hH.cell rfl
  have z5 : w3.cell? ⟨h, 5, none⟩ = some (.int .i64 cab) := hH.cell rfl
  have z6 : w3.cell? ⟨h, 6, none⟩ = some (.int .i64 cat) := hH.cell rfl
  have z7 : w3.cell? ⟨h, 7, none⟩ = some (.int .i64 frm) := hH.cell rfl
  have z8 : w3.cell? ⟨h, 8, none⟩ = some (.int .i64 upto) := hH.cell rfl
  have z9 : w3.cell? ⟨h, 9, none⟩ = some (.int .i64 til) := hH.cell rfl
  have z10 : w3.cell? ⟨h, 10, none⟩ = some ((.slice A3 n3 c3)) := hH.cell rfl
  obtain ⟨ke, hke⟩ : ∃ q, q = kindE x ⟨id, kind, state, gst, lev, cab, cat, frm, upto, til, fol⟩ := ⟨_, rfl⟩
  have HR4 := Lib.hid (HR3.out)
  rw [← hke] at HR4
  obtain ⟨kn, hkn⟩ : ∃ q, q = namedE x ⟨id, kind, state, gst, lev, cab, cat, frm, upto, til, fol⟩ := ⟨_, rfl⟩
  rw [← hkn]
  have HKE := Lib.hid hke
  clear hke
  have HKN := Lib.hid hkn
  clear hkn
  clear HR3
  go_upto_if 42 with (fail)
  obtain ⟨w4, hw4⟩ : ∃ W, W = w3 := ⟨_, rfl⟩
  subst hw4
  go_cut [6] (fun p wx => p = .int .i64 ke ∧ Below w4.heap.size w4 wx)
  case first => as_aux_lemma =>
    by_cases hkd : kind = 2
    · subst hkd
      have hke : ke = promE x ⟨id, 2, state, gst, lev, cab, cat, frm, upto, til, fol⟩ := HKE.out
      have HCALL := Lib.hid (HPR.out _ (HC.out.bel hbw) (HB.out.bel hbw))
      rw [← hke] at HCALL
      clear hke
      go_wp2_with fail
      refine HCALL.out.mono ?_
      rintro e w5 ⟨rfl, hb5⟩
      go_wp2_with fail
      go_meet
      exact ⟨rfl, hb5⟩
    · obtain rfl : ke = kn := by rw [HKE.out, HKN.out]; unfold kindE; rw [if_neg hkd]
      have h0' : (kind == 2) = false := by simpa using hkd
      clear hkd
      go_wp2_with fail
      go_meet
      exact ⟨rfl, Below.refl _ _⟩
  obtain ⟨rfl, hb5⟩ := hcut
  replace hG := hG.bel hb5
  replace hH := hH.bel hb5
  replace hbw := hbw.trans (hb5.mono hbw.size)
  clear hb5 g0 g1 g2 g3 z0 z1 z2 z3 z4 z5 z6 z7 z8 z9 z10 HKE HKN HPR
  by_cases hk0 : ke = 0
  rotate_left
  · obtain rfl : r = ke := by rw [HR4.out, if_pos hk0]
    have h0' : (r != 0) = true := by simpa using hk0
    clear hk0
    go_wp2_with fail
    go_ret
    exact ⟨rfl, hbw⟩
  subst hk0
  have HR5 := Lib.hid (HR4.out.trans (if_neg (by simp)))
  clear HR4
  have z2 : wc.cell? ⟨h, 2, none⟩ = some (.int .i64 state) := hH.cell rfl
  have z9 : wc.cell? ⟨h, 9, none⟩ = some (.int .i64 til) := hH.cell rfl
  have z10 : wc.cell? ⟨h, 10, none⟩ = some (.slice A3 n3 c3) := hH.cell rfl
  go_wp2_with fail
  refine (ht1 _).mono ?_
  rintro e w9 ⟨rfl, rfl⟩
  cases t1
  · obtain rfl : r = 3 := HR5.out.trans (if_pos (by simp))
    go_wp2_with fail
    go_ret
    exact ⟨rfl, hbw⟩
  have HR6 := Lib.hid (HR5.out.trans (if_neg (by simp)))
  clear HR5
  have HCALL := Lib.hid (HFO.out _ (HF.out.bel hbw))
  by_cases h1 : til = 0
  · obtain rfl : r = fe := by rw [HR6.out, if_neg (fun h => h.1 h1)]
    subst h1
    go_wp2_with fail
    refine HCALL.out.mono ?_
    rintro e w6 ⟨rfl, hb6⟩
    go_wp2_with fail
    go_ret
    exact ⟨rfl, hbw.trans (hb6.mono hbw.size)⟩
  have h1' : (til != 0) = true := by simpa using h1
  by_cases h2 : state = 1
  · obtain rfl : r = fe := by rw [HR6.out, if_neg (fun h => h.2 h2)]
    subst h2
    clear h1
    go_wp2_with fail
    refine HCALL.out.mono ?_
    rintro e w6 ⟨rfl, hb6⟩
    go_wp2_with fail
    go_ret
    exact ⟨rfl, hbw.trans (hb6.mono hbw.size)⟩
  · obtain rfl : r = 1 := by rw [HR6.out, if_pos ⟨h1, h2⟩]
    have h2' : (state != 1) = true := by simpa using h2
    clear h1 h2
    go_wp2_with fail
    go_ret
    exact ⟨rfl, hbw⟩
end Go.Proofs.YtoilcdgpeilgaaaGreat
namespace Go.Proofs.YtoilcdgpeilgaaaGreat
open Go.RowKit Go.Shelf
set_option maxRecDepth 100000 in
set_option maxHeartbeats 8000000 in
theorem CheckBooking_any (x : Shp) (A : Option Addr) (n cap : Nat) (B : Option Addr) (m cap2 : Nat) (b : Bkg) (A3 : Option Addr) (n3 c3 : Nat) (w : World) (hc : Sl catC 2 w All A n cap x.cats) (hb : Sl cabC 4 w All B m cap2 x.cabs) (ho : OkShp x) (hf : Sl entryC 3 w All A3 n3 c3 b.fol) :
    Calls Tryz.prog 108 #[.agg #[.int .i64 x.legs, .int .i64 x.souls, .slice A n cap, .slice B m cap2], .agg (bkgA b (.slice A3 n3 c3))] w fun e w' => e = .returned (.int .i64 (ofE x b)) ∧ Below w.heap.size w w' := by
  obtain ⟨id, kind, state, gst, lev, cab, cat, frm, upto, til, fol⟩ := b
  simp only at hf
  obtain ⟨r, hr⟩ : ∃ r, r = ofE x ⟨id, kind, state, gst, lev, cab, cat, frm, upto, til, fol⟩ := ⟨_, rfl⟩
  rw [← hr]
  rw [of_line] at hr
  have hk1 := fun W => between_any kind 1 2 W
  have hk2 := fun W => between_any state 1 3 W
  have hi1 := fun W => between_any id 1 999999 W
  have hi2 := fun W => between_any gst 1 4 W
  have ht1 := fun W => between_any til 0 9999 W
  have hsp := fun W => CheckSpan_any frm upto x.legs W
  have HEL := Lib.hid (fun (k : Nat) W h1 h2 h3 h4 h5 => IsEligible_any x A n cap B m cap2 ⟨id, kind, state, gst, lev, cab, cat, frm, upto, til, fol⟩ (.slice A3 n3 c3) k W h1 h2 ho h3 h4 h5)
  have HFO := Lib.hid (fun W h => CheckFolio_any A3 n3 c3 fol W h)
  obtain ⟨k1, e1⟩ : ∃ q, q = betB kind 1 2 := ⟨_, rfl⟩
  obtain ⟨k2, e2⟩ : ∃ q, q = betB state 1 3 := ⟨_, rfl⟩
  obtain ⟨i1, e3⟩ : ∃ q, q = betB id 1 999999 := ⟨_, rfl⟩
  obtain ⟨i2, e4⟩ : ∃ q, q = betB gst 1 4 := ⟨_, rfl⟩
  obtain ⟨t1, e5⟩ : ∃ q, q = betB til 0 9999 := ⟨_, rfl⟩
  obtain ⟨se, e6⟩ : ∃ q, q = spanE ⟨frm, upto⟩ x.legs := ⟨_, rfl⟩
  obtain ⟨fe, e7⟩ : ∃ q, q = checkFolio fol := ⟨_, rfl⟩
  obtain ⟨ke, e8⟩ : ∃ q, q = kindE x ⟨id, kind, state, gst, lev, cab, cat, frm, upto, til, fol⟩ := ⟨_, rfl⟩
  rw [← e1] at hk1
  rw [← e2] at hk2
  rw [← e3] at hi1
  rw [← e4] at hi2
  rw [← e5] at ht1
  rw [← e6] at hsp
  rw [← e7] at HFO
  rw [← e1, ← e2, ← e3, ← e4, ← e5, ← e6, ← e7, ← e8] at hr
  have HR := Lib.hid hr
  clear hr
  have HK1 := Lib.hid e1
  have HKE := Lib.hid e8
  clear e8
  have HB := Lib.hid hb
  have HC := Lib.hid hc
  have HF := Lib.hid hf
  have hmx := hb.bd
  have hnx := hc.bd
  clear hb hc hf e1 e2 e3 e4 e5 e6 e7
  go_enter Tryz.func108, Tryz.ntmps108
  go_upto_region 0 with (fail)
  go_cut [2, 3, 4] (fun p p2 _ wx => ∃ g h, p = .pointer (some ⟨g, 0, none⟩) ∧ p2 = .pointer (some ⟨h, 0, none⟩) ∧ Blk wx g #[.int .i64 x.legs, .int .i64 x.souls, .slice A n cap, .slice B m cap2] 25 ∧ Blk wx h (bkgA ⟨id, kind, state, gst, lev, cab, cat, frm, upto, til, fol⟩ (.slice A3 n3 c3)) 37 ∧ Below w.heap.size w wx)
  case first => as_aux_lemma =>
    go_wp2_with fail
    go_meet
    exact ⟨_, _, rfl, rfl, blk2_0 _ _ _, blk2_1 _ _ _, bel2 _ _ _⟩
  obtain ⟨g, h, rfl, rfl, hG, hH, hbw⟩ := hcut
  have g0 : wc.cell? ⟨g, 0, none⟩ = some (.int .i64 x.legs) := hG.cell rfl
  have g1 : wc.cell? ⟨g, 1, none⟩ = some (.int .i64 x.souls) := hG.cell rfl
  have g2 : wc.cell? ⟨g, 2, none⟩ = some (.slice A n cap) := hG.cell rfl
  have g3 : wc.cell? ⟨g, 3, none⟩ = some (.slice B m cap2) := hG.cell rfl
  have z0 : wc.cell? ⟨h, 0, none⟩ = some (.int .i64 id) := hH.cell rfl
  have z1 : wc.cell? ⟨h, 1, none⟩ = some (.int .i64 kind) := hH.cell rfl
  have z2 : wc.cell? ⟨h, 2, none⟩ = some (.int .i64 state) := hH.cell rfl
  have z3 : wc.cell? ⟨h, 3, none⟩ = some (.int .i64 gst) := hH.cell rfl
  have z4 : wc.cell? ⟨h, 4, none⟩ = some (.bool lev) := hH.cell rfl
  have z5 : wc.cell? ⟨h, 5, none⟩ = some (.int .i64 cab) := hH.cell rfl
  have z6 : wc.cell? ⟨h, 6, none⟩ = some (.int .i64 cat) := hH.cell rfl
  have z7 : wc.cell? ⟨h, 7, none⟩ = some (.int .i64 frm) := hH.cell rfl
  have z8 : wc.cell? ⟨h, 8, none⟩ = some (.int .i64 upto) := hH.cell rfl
  have z9 : wc.cell? ⟨h, 9, none⟩ = some (.int .i64 til) := hH.cell rfl
  have z10 : wc.cell? ⟨h, 10, none⟩ = some ((.slice A3 n3 c3)) := hH.cell rfl
  go_wp2_with fail
  refine (hk1 _).mono ?_
  rintro e w9 ⟨rfl, rfl⟩
  cases k1
  · obtain rfl : r = 7 := HR.out.trans (if_pos (by simp))
    go_wp2_with fail
    go_ret
    exact ⟨rfl, hbw⟩
  go_wp2_with fail
  refine (hk2 _).mono ?_
  rintro e w9 ⟨rfl, rfl⟩
  cases k2
  · obtain rfl : r = 7 := HR.out.trans (if_pos (by simp))
    go_wp2_with fail
    go_ret
    exact ⟨rfl, hbw⟩
  have HR1 := Lib.hid (HR.out.trans (if_neg (by simp)))
  clear HR
  go_wp2_with fail
  refine (hi1 _).mono ?_
  rintro e w9 ⟨rfl, rfl⟩
  cases i1
  · obtain rfl : r = 3 := HR1.out.trans (if_pos (by simp))
    go_wp2_with fail
    go_ret
    exact ⟨rfl, hbw⟩
  go_wp2_with fail
  refine (hi2 _).mono ?_
  rintro e w9 ⟨rfl, rfl⟩
  cases i2
  · obtain rfl : r = 3 := HR1.out.trans (if_pos (by simp))
    go_wp2_with fail
    go_ret
    exact ⟨rfl, hbw⟩
  have HR2 := Lib.hid (HR1.out.trans (if_neg (by simp)))
  clear HR1
  go_wp2_with fail
  refine (hsp _).mono ?_
  rintro e w2 ⟨rfl, hb2⟩
  replace hG := hG.bel hb2
  replace hH := hH.bel hb2
  replace hbw := hbw.trans (hb2.mono hbw.size)
  clear hb2 g0 g1 g2 g3 z0 z1 z2 z3 z4 z5 z6 z7 z8 z9 z10
  by_cases hse : se = 0
  rotate_left
  · obtain rfl : r = se := by rw [HR2.out, if_pos hse]
    have h0' : (r != 0) = true := by simpa using hse
    clear hse
    go_wp2_with fail
    go_ret
    exact ⟨rfl, hbw⟩
  subst hse
  have HR3 := Lib.hid (HR2.out.trans (if_neg (by simp)))
  clear HR2
  have g0 : w2.cell? ⟨g, 0, none⟩ = some (.int .i64 x.legs) := hG.cell rfl
  have g1 : w2.cell? ⟨g, 1, none⟩ = some (.int .i64 x.souls) := hG.cell rfl
  have g2 : w2.cell? ⟨g, 2, none⟩ = some (.slice A n cap) := hG.cell rfl
  have g3 : w2.cell? ⟨g, 3, none⟩ = some (.slice B m cap2) := hG.cell rfl
  have z0 : w2.cell? ⟨h, 0, none⟩ = some (.int .i64 id) := hH.cell rfl
  have z1 : w2.cell? ⟨h, 1, none⟩ = some (.int .i64 kind) := hH.cell rfl
  have z2 : w2.cell? ⟨h, 2, none⟩ = some (.int .i64 state) := hH.cell rfl
  have z3 : w2.cell? ⟨h, 3, none⟩ = some (.int .i64 gst) := hH.cell rfl
  have z4 : w2.cell? ⟨h, 4, none⟩ = some (.bool lev) := hH.cell rfl
  have z5 : w2.cell? ⟨h, 5, none⟩ = some (.int .i64 cab) := hH.cell rfl
  have z6 : w2.cell? ⟨h, 6, none⟩ = some (.int .i64 cat) := hH.cell rfl
  have z7 : w2.cell? ⟨h, 7, none⟩ = some (.int .i64 frm) := hH.cell rfl
  have z8 : w2.cell? ⟨h, 8, none⟩ = some (.int .i64 upto) := hH.cell rfl
  have z9 : w2.cell? ⟨h, 9, none⟩ = some (.int .i64 til) := hH.cell rfl
  have z10 : w2.cell? ⟨h, 10, none⟩ = some ((.slice A3 n3 c3)) := hH.cell rfl
  go_upto_if 40 with (fail)
  obtain ⟨w4, hw4⟩ : ∃ W, W = w2 := ⟨_, rfl⟩
  subst hw4
  go_cut [] (fun wx => ke = 0 ∧ Below w4.heap.size w4 wx)
  case first => as_aux_lemma =>
    have fin : ∀ q, ke = q → q ≠ 0 → r = q := fun q h1 h2 => by rw [HR3.out, h1, if_pos h2]
    have FIN := Lib.hid fin
    clear fin
    have hkb := betB_iff.1 HK1.out.symm
    by_cases hkd : kind = 1
    · subst hkd
      have HN := Lib.hid (show ke = if betB cab 0 ((m : Int) - 1) = false then 3 else if cat ≠ 0 then 1 else if fitB (cabAt x cab) ⟨id, 1, state, gst, lev, cab, cat, frm, upto, til, fol⟩ = false then 4 else 0 by rw [HKE.out, ← HB.out.len]; rfl)
      clear HKE hkb
      by_cases hc0 : cab < 0
      · obtain rfl : r = 3 := FIN.out 3 (by rw [HN.out, if_pos (betB_false (.inl hc0))]) (by decide)
        go_wp2_with fail
        go_ret
        exact ⟨rfl, hbw⟩
      by_cases hc1 : (m : Int) ≤ cab
      · obtain rfl : r = 3 := FIN.out 3 (by rw [HN.out, if_pos (betB_false (.inr (by omega)))]) (by decide)
        go_wp2_with fail
        go_ret
        exact ⟨rfl, hbw⟩
      obtain ⟨k, rfl⟩ : ∃ k : Nat, cab = k := ⟨cab.toNat, by omega⟩
      have hk : k < m := by omega
      by_cases hcat : cat = 0
      · subst hcat
        obtain ⟨b, off, nm, ct, ber, lv, hB, hx, e0, e1, e2, e3⟩ := (HB.out.bel hbw).cab hk
        subst hB
        have hf : cabAt x k = ⟨nm, ct, ber, lv⟩ := hx
        have HD := Lib.hid (fun W => DoesFit_any ⟨nm, ct, ber, lv⟩ ⟨id, 1, state, gst, lev, k, 0, frm, upto, til, fol⟩ (.slice A3 n3 c3) W)
        obtain ⟨f, hff⟩ : ∃ f, f = fitB ⟨nm, ct, ber, lv⟩ ⟨id, 1, state, gst, lev, k, 0, frm, upto, til, fol⟩ := ⟨_, rfl⟩
        have HR4 := Lib.hid (show ke = if f = false then 4 else 0 by rw [HN.out, if_neg (by rw [betB_true (by omega) (by omega)]; simp), if_neg (by simp), hf, hff])
        rw [← hff] at HD
        have hk0 : (0 : Int) ≤ (k : Int) := Int.natCast_nonneg _
        have hk1' : (k : Int) < (m : Int) := by omega
        clear hx hf hff hc0 hc1 HN
        go_upto_region 14 with (fail)
        go_cut [61] (fun t wx => t = .bool (!f) ∧ Below w4.heap.size w4 wx)
        case first => as_aux_lemma =>
          go_region_with (go_at_call 189; refine (HD.out _).mono ?_; rintro e wn ⟨rfl, hbn⟩)
          all_goals
            go_wp2_with fail
            go_meet
            exact ⟨rfl, (Below.refl _ _).drew.trans hbn⟩
        obtain ⟨rfl, hb4⟩ := hcut
        cases f
        · obtain rfl : r = 4 := FIN.out 4 HR4.out (by decide)
          go_wp2_with fail
          go_ret
          exact ⟨rfl, hbw.trans (hb4.mono hbw.size)⟩
        · skip
          go_wp2_with fail
          go_meet
          exact ⟨HR4.out, hb4⟩
      · obtain rfl : r = 1 := FIN.out 1 (by rw [HN.out, if_neg (by rw [betB_true (by omega) (by omega)]; simp), if_pos hcat]) (by decide)
        have h0' : (cat != 0) = true := by simpa using hcat
        clear hcat hc0 hc1
        go_wp2_with fail
        go_ret
        exact ⟨rfl, hbw⟩
    · have hkd2 : kind = 2 := by omega
      subst hkd2
      have HN := Lib.hid (show ke = if betB cat 0 ((n : Int) - 1) = false then 3 else if frm ≠ 0 ∨ upto ≠ x.legs then 4 else if betB cab (-1) ((m : Int) - 1) = false then 3 else if 0 ≤ cab ∧ eligB x ⟨id, 2, state, gst, lev, cab, cat, frm, upto, til, fol⟩ cab = false then 4 else 0 by
        rw [HKE.out, ← HB.out.len, ← HC.out.len]; rfl)
      clear HKE hkb hkd
      by_cases hc0 : cat < 0
      · obtain rfl : r = 3 := FIN.out 3 (by rw [HN.out, if_pos (betB_false (.inl hc0))]) (by decide)
        go_wp2_with fail
        go_ret
        exact ⟨rfl, hbw⟩
      by_cases hc1 : (n : Int) ≤ cat
      · obtain rfl : r = 3 := FIN.out 3 (by rw [HN.out, if_pos (betB_false (.inr (by omega)))]) (by decide)
        go_wp2_with fail
        go_ret
        exact ⟨rfl, hbw⟩
      have HN1 := Lib.hid (HN.out.trans (if_neg (by rw [betB_true (by omega) (by omega)]; simp)))
      clear HN
      by_cases hfr : frm = 0
      rotate_left
      · obtain rfl : r = 4 := FIN.out 4 (by rw [HN1.out, if_pos (.inl hfr)]) (by decide)
        have h0' : (frm != 0) = true := by simpa using hfr
        clear hfr
        go_wp2_with fail
        go_ret
        exact ⟨rfl, hbw⟩
      subst hfr
      by_cases hup : upto = x.legs
      rotate_left
      · obtain rfl : r = 4 := FIN.out 4 (by rw [HN1.out, if_pos (.inr hup)]) (by decide)
        have h0' : (upto != x.legs) = true := by simpa using hup
        clear hup
        go_wp2_with fail
        go_ret
        exact ⟨rfl, hbw⟩
      subst hup
      have HN2 := Lib.hid (HN1.out.trans (if_neg (by simp)))
      clear HN1
      by_cases hm0 : cab < -1
      · obtain rfl : r = 3 := FIN.out 3 (by rw [HN2.out, if_pos (betB_false (.inl hm0))]) (by decide)
        go_wp2_with fail
        go_ret
        exact ⟨rfl, hbw⟩
      by_cases hm1 : (m : Int) ≤ cab
      · obtain rfl : r = 3 := FIN.out 3 (by rw [HN2.out, if_pos (betB_false (.inr (by omega)))]) (by decide)
        go_wp2_with fail
        go_ret
        exact ⟨rfl, hbw⟩
      have HN3 := Lib.hid (HN2.out.trans (if_neg (by rw [betB_true (by omega) (by omega)]; simp)))
      clear HN2
      by_cases h0 : 0 ≤ cab
      · obtain ⟨k, rfl⟩ : ∃ k : Nat, cab = k := ⟨cab.toNat, by omega⟩
        have HCALL := Lib.hid (HEL.out k w4 (HC.out.bel hbw) (HB.out.bel hbw) (by omega) (by omega) (by omega))
        obtain ⟨f, hf⟩ : ∃ f, f = eligB x ⟨id, 2, state, gst, lev, k, cat, 0, x.legs, til, fol⟩ k := ⟨_, rfl⟩
        have HR4 := Lib.hid (show ke = if f = false then 4 else 0 by
          rw [HN3.out, ← hf]
          cases f <;> simp <;> omega)
        rw [← hf] at HCALL
        clear hf HN3
        go_wp2_with fail
        refine HCALL.out.mono ?_
        rintro e wn ⟨rfl, hb4⟩
        cases f
        · obtain rfl : r = 4 := FIN.out 4 HR4.out (by decide)
          go_wp2_with fail
          go_ret
          exact ⟨rfl, hbw.trans (hb4.mono hbw.size)⟩
        · skip
          go_wp2_with fail
          go_meet
          exact ⟨HR4.out, hb4⟩
      · have h1 : cab < 0 := by omega
        go_wp2_with fail
        go_meet
        exact ⟨by rw [HN3.out, if_neg (fun h => by have := h.1; omega)], Below.refl _ _⟩
  obtain ⟨rfl, hb5⟩ := hcut
  replace hG := hG.bel hb5
  replace hH := hH.bel hb5
  replace hbw := hbw.trans (hb5.mono hbw.size)
  clear hb5 g0 g1 g2 g3 z0 z1 z2 z3 z4 z5 z6 z7 z8 z9 z10 HKE HEL
  have HR5 := Lib.hid (HR3.out.trans (if_neg (by simp)))
  clear HR3
  have z2 : wc.cell? ⟨h, 2, none⟩ = some (.int .i64 state) := hH.cell rfl
  have z8 : wc.cell? ⟨h, 8, none⟩ = some (.int .i64 upto) := hH.cell rfl
  have z9 : wc.cell? ⟨h, 9, none⟩ = some (.int .i64 til) := hH.cell rfl
  have z10 : wc.cell? ⟨h, 10, none⟩ = some (.slice A3 n3 c3) := hH.cell rfl
  go_wp2_with fail
  refine (ht1 _).mono ?_
  rintro e w9 ⟨rfl, rfl⟩
  cases t1
  · obtain rfl : r = 3 := HR5.out.trans (if_pos (by simp))
    go_wp2_with fail
    go_ret
    exact ⟨rfl, hbw⟩
  have HR6 := Lib.hid (HR5.out.trans (if_neg (by simp)))
  clear HR5
  have HCALL := Lib.hid (HFO.out _ (HF.out.bel hbw))
  by_cases h1 : til = 0
  · obtain rfl : r = fe := by rw [HR6.out, if_neg (fun h => h.1 h1)]
    subst h1
    go_wp2_with fail
    refine HCALL.out.mono ?_
    rintro e w6 ⟨rfl, hb6⟩
    go_wp2_with fail
    go_ret
    exact ⟨rfl, hbw.trans (hb6.mono hbw.size)⟩
  have h1' : (til != 0) = true := by simpa using h1
  by_cases h2 : state = 1
  · obtain rfl : r = fe := by rw [HR6.out, if_neg (fun h => h.2 h2)]
    subst h2
    clear h1
    go_wp2_with fail
    refine HCALL.out.mono ?_
    rintro e w6 ⟨rfl, hb6⟩
    go_wp2_with fail
    go_ret
    exact ⟨rfl, hbw.trans (hb6.mono hbw.size)⟩
  · obtain rfl : r = 1 := by rw [HR6.out, if_pos ⟨h1, h2⟩]
    have h2' : (state != 1) = true := by simpa using h2
    clear h1 h2
    go_wp2_with fail
    go_ret
    exact ⟨rfl, hbw⟩
end Go.Proofs.YtoilcdgpeilgaaaGreat
namespace Go.Proofs.YtoilcdgpeilgaaaGreat
open Go.RowKit Go.Shelf
theorem Sl.bkg {w : World} {S : Nat → Prop} {A : Option Addr} {n cap : Nat} {l : List Bkg} (h : Sl bkgC 11 w S A n cap l) {k : Nat} (hk : k < n) : ∃ (b off : Nat) (x : Bkg) (A3 : Option Addr) (n3 c3 : Nat), A = some ⟨b, off, none⟩ ∧ l[k]? = some x ∧ Sl entryC 3 w S A3 n3 c3 x.fol ∧ BkIn x ∧
    ∀ j u, (bkgA x (.slice A3 n3 c3)).toList[j]? = some u → w.cell? ⟨b, off + k * 11 + j, none⟩ = some u := by
  have hl := h.len
  obtain ⟨b, off, cs, hA, _, hc, hlen, hcell⟩ := h.rd k (l[k]'(by omega)) (List.getElem?_eq_getElem (by omega))
  obtain ⟨A3, n3, c3, rfl, hF, hI⟩ := hc
  exact ⟨b, off, _, A3, n3, c3, hA, List.getElem?_eq_getElem (by omega), hF, hI, hcell⟩
end Go.Proofs.YtoilcdgpeilgaaaGreat
namespace Go.Proofs.YtoilcdgpeilgaaaGreat
open Go.RowKit Go.Shelf Go.Lib
open Go.Sort hiding Below Holds
theorem TakenCmp_any (x y : SmSpan) (W : World) : Calls Tryz.prog 223 #[.agg #[.int .i64 x.1.frm, .int .i64 x.1.upto], .agg #[.int .i64 y.1.frm, .int .i64 y.1.upto]] W fun e w' => e = .returned (.int .i64 (cmpSm x y)) ∧ ∃ q os', w' = Go.Sort.grow (W.drewN q) os' := by
  obtain ⟨⟨a, b⟩, h1, h2⟩ := x
  obtain ⟨⟨c, d⟩, h3, h4⟩ := y
  simp only at h1 h2 h3 h4
  have hs : wrap64 (a - c) = a - c := by unfold wrap64; omega
  go_enter Tryz.func223, Tryz.ntmps223
  go_wp2_with fail
  go_ret
  exact ⟨rfl, 0, _, by rw [Go.Sort.alloc_eq_grow, Go.Sort.alloc_eq_grow, Go.Sort.grow_grow]; rfl⟩
theorem Sort_taken {base g n cap : Nat} {l : List Span} {xs : List Value} {w : World} (h : Own spanC 2 34 w base (.slice (some ⟨g, 0, none⟩) n cap) l xs) (h12 : l.length ≤ 140737488355328) (hs : ∀ x ∈ l, -1000 ≤ x.frm ∧ x.frm ≤ 1000) :
    Calls Tryz.prog 222 #[.slice (some ⟨g, 0, none⟩) n cap, .func (.func 223) #[] #[]] w fun e w' => e = .returned (.tuple #[]) ∧
      ∃ l' xs', l'.Perm l ∧ l'.Pairwise (fun x y => x.frm ≤ y.frm) ∧ Own spanC 2 34 w' base (.slice (some ⟨g, 0, none⟩) n cap) l' xs' ∧ Kept (fun j => j = g) w w' := by
  obtain ⟨la, hla⟩ : ∃ la : List SmSpan, la.map Subtype.val = l := ⟨l.pmap (fun x hx => ⟨x, hx⟩) hs, by rw [List.map_pmap]; simp⟩
  have hlen : la.length = l.length := by rw [← hla]; simp
  have hrow := h.row
  have hn : n = l.length := by
    rcases hrow.2 with ⟨hv, _⟩ | ⟨g', cap', cur, hv, _⟩
    · cases hv
    · injection hv
  subst hn
  obtain ⟨cur, hb, hgg, hnc, hcm, hcs, htake⟩ : ∃ cur, base ≤ g ∧ w.heap[g]? = some (.cells cur 34 (0, 0)) ∧ l.length ≤ cap ∧ cap ≤ maxLen ∧ cur.size = cap * 2 ∧ cur.toList.take (l.length * 2) = xs := by
    rcases hrow.2 with ⟨hv, _⟩ | ⟨g', cap', cur, hv, r⟩
    · cases hv
    · simp only [Value.slice.injEq, Option.some.injEq, Addr.mk.injEq, and_true, true_and] at hv
      obtain ⟨rfl, rfl⟩ := hv
      exact ⟨cur, r⟩
  have hH : HoldsK encSm 2 w g 0 la.toArray := fun j hj => by
    rw [size_flatK] at hj
    have hj2 : j < la.length * 2 := by simpa using hj
    have hi : j / 2 < l.length := by omega
    obtain ⟨cs, hcc, hl, hcell, hfr⟩ := h.cells (List.getElem?_eq_getElem hi)
    obtain ⟨rfl, _⟩ := hcc
    refine ⟨?_, hfr _⟩
    have hji : j / 2 * 2 + j % 2 = j := by omega
    have hx : (la.toArray[j / 2]!).1 = l[j / 2] := by
      have h1 : j / 2 < la.length := by omega
      rw [getElem!_pos _ _ (by simpa using h1)]
      simp only [List.getElem_toArray]
      have : (la.map Subtype.val)[j / 2]'(by simpa using h1) = l[j / 2] := by simp only [hla]
      rw [List.getElem_map] at this
      exact this
    have hf := flat_at la.toArray (j / 2) (j % 2) (by simp; omega) (by omega)
    rw [hji] at hf
    show w.cell? ⟨g, 0 + j, none⟩ = some ((flatK encSm 2 la.toArray)[j]!)
    rw [Nat.zero_add, hf]
    unfold encSm encSp
    rw [hx]
    have hc := hcell (j % 2) (([Value.int .i64 (l[j / 2]).frm, .int .i64 (l[j / 2]).upto])[j % 2]!) (by
      have : j % 2 = 0 ∨ j % 2 = 1 := by omega
      rcases this with e | e <;> rw [e] <;> rfl)
    rw [hji] at hc
    exact hc
  have hcm := AnyQ.slices_SortFunc Tryz.sortSpan 2 Tryz.isAgg34 Tryz.sizeOf34 encSm (fun _ => rfl) (fun x v hv => by simp [encSm, encSp] at hv; rcases hv with rfl | rfl <;> rfl) cmpSm swoSm 223 #[] g 0 cap la.toArray w (enters_of Tryz.func223 (by kernel_rfl) rfl)
    (fun _ _ _ _ x y => TakenCmp_any x y _) hH (lt_of_block hgg) (by simp; omega)
  have e1 : la.toArray.size = l.length := by simpa using hlen
  rw [e1] at hcm
  refine Calls.mono hcm ?_
  rintro e w' ⟨rfl, d', q, os, ⟨hsz, _, hperm⟩, hsort, rfl⟩
  have hds : d'.size = l.length := by rw [hsz]; exact e1
  have hp : (d'.toList.map Subtype.val).Perm l := by
    rw [← hla]
    refine List.Perm.map _ ?_
    have h1 : (d'.extract 0 l.length).toList = d'.toList := by rw [← hds]; simp
    have h2 : (la.toArray.extract 0 l.length).toList = la := by rw [← hlen]; simp
    rw [h1, h2] at hperm
    exact hperm
  have hpl := hp.length_eq
  have hin : ∀ x ∈ l, InI x.frm ∧ InI x.upto := fun x hx => by
    obtain ⟨i, hi⟩ := List.getElem?_of_mem hx
    obtain ⟨_, hcc, _⟩ := h.cells hi
    exact hcc.2
  have hfl : (flatK encSm 2 d').size = l.length * 2 := by rw [size_flatK, hds]
  have hget : ∀ i (hi : i < d'.size) j, j < 2 → (flatK encSm 2 d').toList[i * 2 + j]? = some ((encSm d'[i])[j]!) := fun i hi j hj => by
    have hlt : i * 2 + j < (flatK encSm 2 d').size := by rw [hfl]; omega
    have := flat_at d' i j hi hj
    rw [getElem!_pos (flatK encSm 2 d') _ hlt, getElem!_pos d' i hi] at this
    rw [← this]
    simp
  refine ⟨rfl, d'.toList.map Subtype.val, (flatK encSm 2 d').toList, hp, ?_, ⟨⟨?_, .inr ⟨g, cap, _, ?_, hb, sortWorld_at hgg, ?_, ‹_›, ?_, ?_⟩⟩, ?_⟩, sortWorld_kept⟩
  · rw [List.pairwise_map, List.pairwise_iff_getElem]
    intro i j hi hj hij
    have h1 : i < d'.size := by simpa using hi
    have h2 : j < d'.size := by simpa using hj
    have := hsort i j (Nat.zero_le _) hij (by omega)
    rw [getElem!_pos d' i h1, getElem!_pos d' j h2] at this
    have : ¬ cmpSm d'[j] d'[i] < 0 := of_decide_eq_false this
    unfold cmpSm at this
    simp only [Array.getElem_toList]
    omega
  · rw [Array.length_toList, hfl, hpl]
  · rw [hpl]
  · rw [hpl]; exact hnc
  · simp [Go.Sort.putCells, hcs]
  · rw [hpl]
    refine List.ext_getElem? fun i => ?_
    rw [List.getElem?_take]
    by_cases hi : i < l.length * 2
    · rw [if_pos hi]
      have hlt : i < (flatK encSm 2 d').size := by rw [hfl]; exact hi
      have hlt2 : i < cur.size := by rw [hcs]; omega
      simp only [Go.Sort.putCells, Array.getElem?_toList, Array.getElem?_mapIdx]
      rw [Array.getElem?_eq_getElem hlt2, Array.getElem?_eq_getElem hlt]
      simp only [Option.map_some, Nat.zero_le, true_and, Nat.zero_add, Nat.sub_zero, if_pos hlt, id]
      rw [getElem!_pos (flatK encSm 2 d') _ hlt]
    · rw [if_neg hi, List.getElem?_eq_none (by rw [Array.length_toList, hfl]; omega)]
  · intro i x hx
    have hi : i < d'.size := by have := (List.getElem?_eq_some_iff.1 hx).1; simpa using this
    rw [List.getElem?_map, Array.getElem?_toList, Array.getElem?_eq_getElem hi] at hx
    simp only [Option.map_some, Option.some.injEq] at hx
    have hm : x ∈ l := hp.subset (List.mem_map.2 ⟨d'[i], by simp, hx⟩)
    refine ⟨[.int .i64 x.frm, .int .i64 x.upto], ⟨rfl, hin x hm⟩, rfl, fun j u hu => ?_⟩
    have hj : j < 2 := (List.getElem?_eq_some_iff.1 hu).1
    rw [hget i hi j hj, ← hu]
    unfold encSm encSp
    rw [hx]
    have : j = 0 ∨ j = 1 := by omega
    rcases this with rfl | rfl <;> rfl
theorem Sort_taken_none (p : Option Addr) (cap : Nat) (fv : Value) (w : World) : Calls Tryz.prog 222 #[.slice p 0 cap, fv] w fun e w' => e = .returned (.tuple #[]) ∧ w' = w :=
  AnyF.slices_SortFunc_none Tryz.sortSpan p cap fv w
end Go.Proofs.YtoilcdgpeilgaaaGreat
namespace Go.Proofs.YtoilcdgpeilgaaaGreat
open Go.RowKit Go.Shelf
set_option maxRecDepth 100000 in
theorem Live_any (b : Bkg) (v : Value) (w : World) : Calls Tryz.prog 124 #[.agg (bkgA b v)] w fun e w' => e = .returned (.bool (liveB b)) ∧ Below w.heap.size w w' := by
  obtain ⟨id, kind, state, gst, lev, cab, cat, frm, upto, til, fol⟩ := b
  by_cases h : state = 3
  · have HR := Lib.hid (show liveB ⟨id, kind, state, gst, lev, cab, cat, frm, upto, til, fol⟩ = false by unfold liveB; rw [decide_eq_true h]; rfl)
    subst h
    go_enter Tryz.func124, Tryz.ntmps124
    go_wp2_with fail
    go_ret
    exact ⟨retB (by rw [HR.out]), bel1 _ _⟩
  · have HR := Lib.hid (show liveB ⟨id, kind, state, gst, lev, cab, cat, frm, upto, til, fol⟩ = true by unfold liveB; rw [decide_eq_false h]; rfl)
    have h0' : (state != 3) = true := by simpa using h
    clear h
    go_enter Tryz.func124, Tryz.ntmps124
    go_wp2_with fail
    go_ret
    exact ⟨retB (by rw [HR.out]), bel1 _ _⟩
set_option maxRecDepth 100000 in
set_option maxHeartbeats 1000000 in
theorem Has_any (b : Bkg) (v : Value) (c : Int) (w : World) : Calls Tryz.prog 221 #[.agg (bkgA b v), .int .i64 c] w fun e w' => e = .returned (.bool (hasB c b)) ∧ Below w.heap.size w w' := by
  obtain ⟨id, kind, state, gst, lev, cab, cat, frm, upto, til, fol⟩ := b
  obtain ⟨r, hr⟩ : ∃ r, r = hasB c ⟨id, kind, state, gst, lev, cab, cat, frm, upto, til, fol⟩ := ⟨_, rfl⟩
  rw [← hr]
  have hL := fun W => Live_any ⟨id, kind, state, gst, lev, cab, cat, frm, upto, til, fol⟩ v W
  obtain ⟨q, hq⟩ : ∃ q, q = liveB ⟨id, kind, state, gst, lev, cab, cat, frm, upto, til, fol⟩ := ⟨_, rfl⟩
  rw [← hq] at hL
  have HR := Lib.hid (show r = (q && decide (cab = c)) by rw [hr, hq]; rfl)
  have HL := Lib.hid hL
  clear hL
  clear hr hq
  go_enter Tryz.func221, Tryz.ntmps221
  go_upto_region 0 with (fail)
  go_cut [2, 4] (fun p _ wx => ∃ h, p = .pointer (some ⟨h, 0, none⟩) ∧ Blk wx h (bkgA ⟨id, kind, state, gst, lev, cab, cat, frm, upto, til, fol⟩ v) 37 ∧ Below w.heap.size w wx)
  case first => as_aux_lemma =>
    go_wp2_with fail
    go_meet
    exact ⟨_, rfl, blk1 _ _, bel1 _ _⟩
  obtain ⟨h, rfl, hH, hbw⟩ := hcut
  have z0 : wc.cell? ⟨h, 0, none⟩ = some (.int .i64 id) := hH.cell rfl
  have z1 : wc.cell? ⟨h, 1, none⟩ = some (.int .i64 kind) := hH.cell rfl
  have z2 : wc.cell? ⟨h, 2, none⟩ = some (.int .i64 state) := hH.cell rfl
  have z3 : wc.cell? ⟨h, 3, none⟩ = some (.int .i64 gst) := hH.cell rfl
  have z4 : wc.cell? ⟨h, 4, none⟩ = some (.bool lev) := hH.cell rfl
  have z5 : wc.cell? ⟨h, 5, none⟩ = some (.int .i64 cab) := hH.cell rfl
  have z6 : wc.cell? ⟨h, 6, none⟩ = some (.int .i64 cat) := hH.cell rfl
  have z7 : wc.cell? ⟨h, 7, none⟩ = some (.int .i64 frm) := hH.cell rfl
  have z8 : wc.cell? ⟨h, 8, none⟩ = some (.int .i64 upto) := hH.cell rfl
  have z9 : wc.cell? ⟨h, 9, none⟩ = some (.int .i64 til) := hH.cell rfl
  have z10 : wc.cell? ⟨h, 10, none⟩ = some (v) := hH.cell rfl
  go_wp2_with fail
  refine (HL.out _).mono ?_
  rintro e w2 ⟨rfl, hb2⟩
  replace hH := hH.bel hb2
  replace hbw := hbw.trans (hb2.mono hbw.size)
  clear hb2 z0 z1 z2 z3 z4 z5 z6 z7 z8 z9 z10
  have z5 : w2.cell? ⟨h, 5, none⟩ = some (.int .i64 cab) := hH.cell rfl
  cases q
  · obtain rfl : r = false := HR.out
    go_wp2_with fail
    go_ret
    exact ⟨rfl, hbw⟩
  by_cases hcb : cab = c
  · obtain rfl : r = true := by rw [HR.out, decide_eq_true hcb]; rfl
    subst hcb
    go_wp2_with fail
    go_ret
    exact ⟨rfl, hbw⟩
  · obtain rfl : r = false := by rw [HR.out, decide_eq_false hcb]; rfl
    have h0' : (cab == c) = false := by simpa using hcb
    clear hcb
    go_wp2_with fail
    go_ret
    exact ⟨rfl, hbw⟩
def SpOk (l : List Bkg) : Prop := ∀ b ∈ l, OkSp ⟨b.frm, b.upto⟩
theorem spL_succ {l : List Bkg} {c : Int} {k : Nat} {b : Bkg} (h : l[k]? = some b) : spL (l.take (k + 1)) c = spL (l.take k) c ++ (if hasB c b = true then [⟨b.frm, b.upto⟩] else []) := by
  unfold spL
  rw [take_snoc h, List.filter_append, List.map_append]
  cases e : hasB c b <;> simp [e]
theorem spL_mem {l : List Bkg} {c : Int} {s : Span} (h : s ∈ spL l c) : ∃ b ∈ l, s = ⟨b.frm, b.upto⟩ := by
  unfold spL at h
  obtain ⟨b, hb, rfl⟩ := List.mem_map.1 h
  exact ⟨b, (List.mem_filter.1 hb).1, rfl⟩
theorem spL_ok {l : List Bkg} (h : SpOk l) {c : Int} : ∀ s ∈ spL l c, OkSp s := fun s hs => by
  obtain ⟨b, hb, rfl⟩ := spL_mem hs
  exact h b hb
theorem spL_len (l : List Bkg) (c : Int) : (spL l c).length ≤ l.length := by
  unfold spL
  rw [List.length_map]
  exact List.length_filter_le _ _
def takL (l : List Bkg) (c : Int) : List Span := (spF (spL l c)).getD []
def takB (l : List Bkg) (c : Int) : Bool := (spF (spL l c)).isSome
theorem apart_len : ∀ {l : List Span} {a : Int}, (∀ x ∈ l, OkSp x ∧ a ≤ x.frm) → l.Pairwise (fun x y => x.upto ≤ y.frm) → a ≤ 7 → (l.length : Int) ≤ 7 - a
  | [], a, _, _, h7 => by simp; omega
  | x :: l, a, h, hp, _ => by
    obtain ⟨⟨h0, h1, h2⟩, h3⟩ := h x (List.mem_cons_self ..)
    rw [List.pairwise_cons] at hp
    have := apart_len (l := l) (a := x.upto) (fun y hy => ⟨(h y (List.mem_cons_of_mem _ hy)).1, hp.1 y hy⟩) hp.2 h2
    rw [List.length_cons]; omega
theorem spF_len {ls out : List Span} (hok : ∀ x ∈ ls, OkSp x) (h : spF ls = some out) : out.length ≤ 7 ∧ ∀ x ∈ out, OkSp x := by
  obtain ⟨hp, hw⟩ := spF_some (fun x hx => (hok x hx).2.1) h
  have ho : ∀ x ∈ out, OkSp x := fun x hx => hok x (hp.subset hx)
  have := apart_len (l := out) (a := 0) (fun x hx => ⟨ho x hx, (ho x hx).1⟩) hw (by omega)
  exact ⟨by omega, ho⟩
theorem spL_pre (l : List Bkg) (c : Int) (k : Nat) : ∃ m, spL l c = spL (l.take k) c ++ m := by
  refine ⟨spL (l.drop k) c, ?_⟩
  unfold spL
  rw [← List.map_append, ← List.filter_append, List.take_append_drop]
theorem spF_none {ls m : List Span} (h : spF ls = none) : spF (ls ++ m) = none := by
  have : ∀ m : List Span, (m.foldl (fun o s => o.bind (fun out => put1 out s)) none) = none := by
    intro m
    induction m with
    | nil => rfl
    | cons x m ih => rw [List.foldl_cons]; exact ih
  unfold spF at h ⊢
  rw [List.foldl_append, h, this]
theorem takB_pre {l : List Bkg} {c : Int} {k : Nat} (h : spF (spL (l.take k) c) = none) : takB l c = false ∧ takL l c = [] := by
  obtain ⟨m, hm⟩ := spL_pre l c k
  unfold takB takL
  rw [hm, spF_none h]
  exact ⟨rfl, rfl⟩
theorem tak_of {l : List Bkg} {c : Int} {out : List Span} (h : spF (spL l c) = some out) : takB l c = true ∧ takL l c = out := by
  unfold takB takL
  rw [h]
  exact ⟨rfl, rfl⟩
set_option maxRecDepth 100000 in
set_option maxHeartbeats 8000000 in
theorem SpansOf_any (C : Option Addr) (nb cb : Nat) (l : List Bkg) (c : Int) (w : World) (hl : Sl bkgC 11 w All C nb cb l) (hok : SpOk l) :
    Calls Tryz.prog 126 #[.slice C nb cb, .int .i64 c] w fun e w' => ∃ v xs, e = .returned (.tuple #[v, .bool (takB l c)]) ∧ Own spanC 2 34 w' w.heap.size v (takL l c) xs ∧ Below w.heap.size w w' := by
  have hbd := hl.bd
  have HL := Lib.hid hl
  have HN := Lib.hid hl.len
  have HOK := Lib.hid hok
  clear hok
  obtain ⟨tb, htb⟩ : ∃ q, q = takB l c := ⟨_, rfl⟩
  obtain ⟨tl, htl⟩ : ∃ q, q = takL l c := ⟨_, rfl⟩
  rw [← htb, ← htl]
  have HTB := Lib.hid htb
  clear htb
  have HTL := Lib.hid htl
  clear htl
  clear hl
  go_enter Tryz.func126, Tryz.ntmps126
  go_wp2_with fail
  go_loopg [6, 7] nb (fun gk o i wr => ∃ (k : Nat) (out : List Span) (xs : List Value), k ≤ nb ∧ nb - k ≤ gk ∧ i = .int .i64 k ∧ Aside (spF (spL (l.take k) c) = some out) ∧ Own spanC 2 34 wr w.heap.size o out xs ∧ Below w.heap.size w wr)
  case atStart => exact ⟨0, [], [], Nat.zero_le _, by omega, rfl, rfl, Own.nil _ _ _ _ _, Below.refl _ _⟩
  case round =>
    obtain ⟨k, out, xs, hk, hgk, rfl, HE, hO, hb⟩ := hrel
    by_cases hlt : k < nb
    · skip
      obtain ⟨ab, off, ⟨id, kind, state, gst, lev, cab, cat, frm, upto, til, fol⟩, A3, n3, c3, hA, hx, hF, hI, hcel⟩ := (HL.out.bel hb).bkg hlt
      subst hA
      simp only at hF
      have y0 : wr.cell? ⟨ab, off + k * 11, none⟩ = some (.int .i64 id) := hcel 0 _ rfl
      have y1 : wr.cell? ⟨ab, off + k * 11 + 1, none⟩ = some (.int .i64 kind) := hcel 1 _ rfl
      have y2 : wr.cell? ⟨ab, off + k * 11 + 2, none⟩ = some (.int .i64 state) := hcel 2 _ rfl
      have y3 : wr.cell? ⟨ab, off + k * 11 + 3, none⟩ = some (.int .i64 gst) := hcel 3 _ rfl
      have y4 : wr.cell? ⟨ab, off + k * 11 + 4, none⟩ = some (.bool lev) := hcel 4 _ rfl
      have y5 : wr.cell? ⟨ab, off + k * 11 + 5, none⟩ = some (.int .i64 cab) := hcel 5 _ rfl
      have y6 : wr.cell? ⟨ab, off + k * 11 + 6, none⟩ = some (.int .i64 cat) := hcel 6 _ rfl
      have y7 : wr.cell? ⟨ab, off + k * 11 + 7, none⟩ = some (.int .i64 frm) := hcel 7 _ rfl
      have y8 : wr.cell? ⟨ab, off + k * 11 + 8, none⟩ = some (.int .i64 upto) := hcel 8 _ rfl
      have y9 : wr.cell? ⟨ab, off + k * 11 + 9, none⟩ = some (.int .i64 til) := hcel 9 _ rfl
      have y10 : wr.cell? ⟨ab, off + k * 11 + 10, none⟩ = some (.slice A3 n3 c3) := hcel 10 _ rfl
      clear hcel
      have hs0 := HOK.out _ (List.mem_of_getElem? hx)
      have hsu := spL_succ (c := c) hx
      obtain ⟨hlen, hoo⟩ := spF_len (spL_ok (fun b hb => HOK.out b (List.mem_of_mem_take hb))) HE
      obtain ⟨A2, n2, cap2, rfl, hsl2⟩ := hO.sl spanC_good
      have HIF := Lib.hid hI.frm
      have HIU := Lib.hid hI.upto
      have hk0 : (0 : Int) ≤ (k : Int) := Int.natCast_nonneg _
      by_cases hst : state = 3
      · have hh : hasB c ⟨id, kind, state, gst, lev, cab, cat, frm, upto, til, fol⟩ = false := by unfold hasB liveB; rw [decide_eq_true hst]; rfl
        rw [hh, if_neg (by simp), List.append_nil] at hsu
        have HSU := Lib.hid hsu
        clear hsu
        have HO := Lib.hid hO
        subst hst
        clear hh hO hsl2 hx hs0 hoo hlen hI
        go_wp2_with fail
        go_roundg (nb - (k + 1))
        case measure => omega
        case rel => exact ⟨k + 1, out, xs, by omega, by omega, by go_num, (show spF _ = _ by rw [HSU.out]; exact HE), HO.out, hb⟩
      have hst' : (state == 3) = false := by simpa using hst
      by_cases hcb : cab = c
      rotate_left
      · have hh : hasB c ⟨id, kind, state, gst, lev, cab, cat, frm, upto, til, fol⟩ = false := by unfold hasB; rw [decide_eq_false hcb, Bool.and_false]
        rw [hh, if_neg (by simp), List.append_nil] at hsu
        have HSU := Lib.hid hsu
        clear hsu
        have HO := Lib.hid hO
        have hcb' : (cab != c) = true := by simpa using hcb
        clear hh hO hsl2 hx hs0 hoo hlen hI hst hcb
        go_wp2_with fail
        go_roundg (nb - (k + 1))
        case measure => omega
        case rel => exact ⟨k + 1, out, xs, by omega, by omega, by go_num, (show spF _ = _ by rw [HSU.out]; exact HE), HO.out, hb⟩
      have hh : hasB c ⟨id, kind, state, gst, lev, cab, cat, frm, upto, til, fol⟩ = true := by unfold hasB liveB; rw [decide_eq_true hcb, decide_eq_false hst]; rfl
      rw [hh, if_pos rfl] at hsu
      have hnew : spF (spL (l.take (k + 1)) c) = put1 out ⟨frm, upto⟩ := by rw [hsu, spF_snoc, HE]; rfl
      have hcall := AddSpan_any A2 n2 cap2 out ⟨frm, upto⟩ wr (hsl2.all spanC_good (by omega)) (by omega) hoo hs0 hI.frm hI.upto
      obtain ⟨u, hu⟩ : ∃ u, u = adE out ⟨frm, upto⟩ := ⟨_, rfl⟩
      rw [← hu] at hcall
      have HCALL := Lib.hid hcall
      clear hcall
      have HU := Lib.hid hu
      clear hu
      have HNEW := Lib.hid hnew
      clear hnew
      have hsz := hb.size
      subst hcb
      clear hh hsu hx hO hsl2 hs0 hoo hlen hI hst
      go_wp2_with fail
      refine HCALL.out.mono ?_
      rintro e w2 ⟨v2, xs2, rfl, hO2, hb2⟩
      by_cases hu0 : u = 0
      · subst hu0
        rw [okL_zero] at hO2
        have HO2 := Lib.hid (hO2.mono spanC_good hsz)
        have HSP := Lib.hid (show spF (spL (l.take (k + 1)) cab) = some (insSp ⟨frm, upto⟩ out) by rw [HNEW.out]; unfold put1; rw [if_pos HU.out.symm])
        clear hO2 HE
        go_wp2_with fail
        go_roundg (nb - (k + 1))
        case measure => omega
        case rel => exact ⟨k + 1, _, xs2, by omega, by omega, by go_num, HSP.out, HO2.out, hb.trans (hb2.mono hb.size)⟩
      · have hp := takB_pre (l := l) (c := cab) (k := k + 1) (by rw [HNEW.out]; unfold put1; rw [if_neg (by rw [← HU.out]; exact hu0)])
        obtain rfl : tb = false := HTB.out.trans hp.1
        obtain rfl : tl = [] := HTL.out.trans hp.2
        have h0' : (u != 0) = true := by simpa using hu0
        clear hu0 hp hO2
        go_wp2_with fail
        go_ret2
        exact ⟨_, [], rfl, Own.nil _ _ _ _ _, hb.trans (hb2.mono hb.size)⟩
    · obtain rfl : k = nb := by omega
      rw [List.take_of_length_le (Nat.le_of_eq HN.out)] at HE
      have hp := tak_of HE
      obtain rfl : tb = true := HTB.out.trans hp.1
      obtain rfl : tl = out := HTL.out.trans hp.2
      clear hp HE
      go_wp2_with fail
      go_ret2
      exact ⟨_, xs, rfl, hO, hb⟩
end Go.Proofs.YtoilcdgpeilgaaaGreat
