/-
  Words, laws and contracts: DeskI, DeskJ.
-/
import Derived.Test.YtoilcdgpeilgaaaGreatBun28
import Derived.BigQuiet
set_option linter.unusedSimpArgs false
set_option linter.unusedVariables false
namespace Go.Proofs.YtoilcdgpeilgaaaGreat
open Go.RowKit Go.Shelf
def OpR (w' : World) (base : Nat) (E : Int) (X : Sai) (e : Ending) : Prop := (∃ g p', E = 0 ∧ e = .returned (.tuple #[.pointer (some ⟨g, 0, none⟩), .int .i64 0]) ∧ base ≤ g ∧ Blk w' g (saiA X p') 181 ∧ SaiO w' base X p' ∧ saiE X = 0) ∨ (¬ E = 0 ∧ e = .returned (.tuple #[.pointer none, .int .i64 E]))
set_option maxRecDepth 100000 in
set_option maxHeartbeats 4000000 in
theorem deskOpen_any {P : Sai → Ask → Prop} {mk : Mk} (HM : MadeC P mk) (HR : RightC P mk) (x : Sai) (p : SaiV) (A : Option Addr) (n cap : Nat) (l : List Don) (wr : Int) (w : World) (hS : SaiR w x p) (hl : Sl donC 13 w All A n cap l)
    (hP : ∀ y, saiE y = 0 → ∀ d ∈ l, codeE d.ask = 0 → P y d.ask) :
    Calls Tryz.prog 137 #[.agg (saiA x p), .agg #[.slice A n cap, .int .i64 wr]] w fun e w' => OpR w' w.heap.size (openE mk x l wr) (openX mk x l) e ∧ Below w.heap.size w w' := by
  have HCK := Lib.hid (fun X hX => saiCheck_any x p X hX)
  have HOW := Lib.hid (fun X h ho => stockOwn_any x p X h ho)
  have hln := hl.len
  have hmx : n ≤ maxLen := Nat.le_trans hl.le hl.max
  have hbd := hl.bd
  obtain ⟨r, hr⟩ : ∃ r, r = saiE x := ⟨_, rfl⟩
  obtain ⟨R, hR⟩ : ∃ r, r = openE mk x l wr := ⟨_, rfl⟩
  obtain ⟨O, hO⟩ : ∃ r, r = opn mk x [] l := ⟨_, rfl⟩
  obtain ⟨X, hX⟩ : ∃ r, r = openX mk x l := ⟨_, rfl⟩
  have hXO : X = O.1 := by rw [hX, hO]; rfl
  have HR1 := Lib.hid (show R = if r ≠ 0 then r else if 30 < n then 2 else if wrB wr n = false then 3 else O.2 by rw [hR, hr, ← hln, hO]; rfl)
  have HRE := Lib.hid hr
  rw [← hr] at HCK
  rw [← hR, ← hX]
  have HS := Lib.hid hS
  have HL := Lib.hid hl
  have HO := Lib.hid hO
  have HXO := Lib.hid hXO
  have HN := Lib.hid hln
  have HMX := Lib.hid (show n ≤ 30 → n ≤ 1000000000000000000 from fun h => by omega)
  have HWR := Lib.hid (fun X (h : n ≤ 1000000000000000000) => written_any A n cap wr X h)
  clear hr hR hO hX hXO hS hl hln hmx
  obtain ⟨AA, nn, capp, B, m, cap2, D, nd, cd, E, ne, ce, C, nb, cb⟩ := p
  go_enter Tryz.func137, Tryz.ntmps137
  go_upto_region 0 with (fail)
  go_cut [2, 3, 4, 5] (fun p p2 p3 p4 wx => ∃ g h, p = .pointer (some ⟨g, 0, none⟩) ∧ p2 = .pointer (some ⟨h, 0, none⟩) ∧ p3 = .pointer none ∧ p4 = .int .i64 0 ∧ Blk wx g (saiA x ⟨AA, nn, capp, B, m, cap2, D, nd, cd, E, ne, ce, C, nb, cb⟩) 32 ∧ Blk wx h #[.slice A n cap, .int .i64 wr] 83 ∧ Below w.heap.size w wx)
  case first =>
    clear HCK HOW HR1 HRE HS HL HO HXO HN HMX HWR
    go_wp2_with fail
    go_meet
    exact ⟨_, _, rfl, rfl, rfl, rfl, blk2_0 _ _ _, blk2_1 _ _ _, bel2 _ _ _⟩
  obtain ⟨g, h, rfl, rfl, rfl, rfl, hG, hH, hb0⟩ := hcut
  obtain ⟨W1, hW1⟩ : ∃ V, V = wc := ⟨_, rfl⟩
  subst hW1
  have HT := Lib.hid (fun X (hX : Below W1.heap.size W1 X) => hb0.trans (hX.mono hb0.size))
  have HG := Lib.hid (fun X (hX : Below W1.heap.size W1 X) => hG.bel hX)
  have HH := Lib.hid (fun X (hX : Below W1.heap.size W1 X) => hH.bel hX)
  have HSX := Lib.hid (fun X (hX : Below W1.heap.size W1 X) => HS.out.bel (HT.out X hX))
  have hs0 := hb0.size
  have hb : Below W1.heap.size W1 W1 := Below.refl _ _
  clear hG hH hb0 HS
  have HQ1 := Lib.hid (HCK.out _ (HSX.out _ hb))
  go_wp2_with (refine wpList_load_row rfl 32 (.tmp 2) rfl g rfl 32 _ (0, 0) _ (HG.out _ hb) Tryz.underlying32 rfl (by kernel_rfl) ?_)
  refine HQ1.out.mono ?_
  rintro e w1 ⟨rfl, hb1⟩
  replace hb := hb.trans (hb1.mono hb.size)
  clear hb1 HQ1 HCK
  by_cases q0 : r = 0
  rotate_left
  · obtain rfl : R = r := by rw [HR1.out, if_pos q0]
    have q1 : (R != 0) = true := by simpa using q0
    have Q0 := Lib.hid q0
    clear q0
    go_wp2_with fail
    go_ret2
    exact ⟨.inr ⟨Q0.out, rfl⟩, HT.out _ hb⟩
  have HOK := Lib.hid (HRE.out.symm.trans q0)
  have HR2 := Lib.hid (HR1.out.trans (if_neg (by rw [q0]; simp)))
  subst q0
  clear HR1 HRE
  have h0 : w1.cell? ⟨h, 0, none⟩ = some (.slice A n cap) := (HH.out _ hb).cell rfl
  have h1 : w1.cell? ⟨h, 1, none⟩ = some (.int .i64 wr) := (HH.out _ hb).cell rfl
  by_cases q3 : 30 < n
  · obtain rfl : R = 2 := by rw [HR2.out, if_pos q3]
    have q4 : decide (30 < (n : Int)) = true := decide_eq_true (by omega)
    clear q3
    go_wp2_with fail
    go_ret2
    exact ⟨.inr ⟨by decide, rfl⟩, HT.out _ hb⟩
  have q4 : decide (30 < (n : Int)) = false := decide_eq_false (by omega)
  have HR3 := Lib.hid (HR2.out.trans (if_neg q3))
  have hn30 : n ≤ 30 := by omega
  clear q3 HR2
  go_wp2_with fail
  refine (HWR.out _ (HMX.out hn30)).mono ?_
  rintro e w2 ⟨rfl, hb2⟩
  replace hb := hb.trans (hb2.mono hb.size)
  clear hb2 HWR h0 h1 q4
  by_cases q5 : wrB wr n = false
  · obtain rfl : R = 3 := by rw [HR3.out, if_pos q5]
    go_wp2_with fail
    go_ret2
    exact ⟨.inr ⟨by decide, rfl⟩, HT.out _ hb⟩
  obtain rfl : R = O.2 := by rw [HR3.out, if_neg q5]
  have q6 : wrB wr n = true := by cases h : wrB wr n; exact absurd h q5; rfl
  clear q5 HR3
  have HQ1 := Lib.hid (HOW.out _ (HSX.out _ hb) (sai_ok HOK.out))
  have hs2 := hb.size
  have h0 : ∀ X, Below W1.heap.size W1 X → X.cell? ⟨h, 0, none⟩ = some (.slice A n cap) := fun X hX => (HH.out _ hX).cell rfl
  have HH0 := Lib.hid h0
  clear h0
  go_wp2_with (refine wpList_load_row rfl 32 (.tmp 2) rfl g rfl 32 _ (0, 0) _ (HG.out _ hb) Tryz.underlying32 rfl (by kernel_rfl) ?_)
  refine HQ1.out.mono ?_
  rintro e w3 ⟨p3, rfl, hO3, hb3⟩
  replace hb := hb.trans (hb3.mono hb.size)
  have hO4 := hO3.bel (bel1 w3 (.cells (saiA x p3) 181))
  have hG4 := Blk.new w3 (saiA x p3) 181
  have hs3 := hb3.size
  have hb4 := hb.trans ((bel1 w3 (.cells (saiA x p3) 181)).mono hb.size)
  clear hO3 hb3 HQ1 HOW q6 hb
  go_upto_region 9 with (fail)
  obtain ⟨ck, hgk⟩ : ∃ n, n = w3.heap.size := ⟨_, rfl⟩
  obtain ⟨w4, hw4⟩ : ∃ V, V = w3.alloc (.cells (saiA x p3) 181) := ⟨_, rfl⟩
  have hgw : W1.heap.size ≤ ck := by omega
  rw [← hw4] at hO4 hb4
  rw [← hw4, ← hgk] at hG4
  rw [← hgk, ← hw4]
  have HB4 := Lib.hid hb4
  have HO4 := Lib.hid (hO4.mono (show W1.heap.size ≤ w2.heap.size from hs2))
  have HG4 := Lib.hid hG4
  have h0 : w4.cell? ⟨h, 0, none⟩ = some (.slice A n cap) := HH0.out _ hb4
  clear hO4 hb4 hG4 hw4 hgk
  go_wp2_with fail
  clear h0
  go_loopg [33] n (fun gx i wr => ∃ (k : Nat) (y : Sai) (p' : SaiV), k ≤ n ∧ n - k ≤ gx ∧ i = .int .i64 k ∧ Hid (saiE y = 0 ∧ O = opn mk y (l.take k) (l.drop k)) ∧ Hid (SaiO wr W1.heap.size y p') ∧ Hid (Blk wr ck (saiA y p') 181) ∧ Below W1.heap.size W1 wr)
  case atStart => exact ⟨0, x, p3, Nat.zero_le _, by omega, rfl, Lib.hid ⟨HOK.out, by rw [HO.out]; rfl⟩, HO4, HG4, HB4.out⟩
  case round =>
    obtain ⟨k, y, p', hk, hgx, rfl, HY, HSO, HGK, hb⟩ := hrel
    obtain ⟨W5, hW5⟩ : ∃ W, W = wr := ⟨_, rfl⟩
    subst hW5
    have h0 : W5.cell? ⟨h, 0, none⟩ = some (.slice A n cap) := HH0.out _ hb
    by_cases hlt : k < n
    rotate_left
    · obtain rfl : k = n := by omega
      have hO1 : O = (y, 0) := by
        have := HY.out.2
        rw [List.drop_eq_nil_of_le (Nat.le_of_eq HN.out)] at this
        exact this
      clear hlt hk hgx
      have HO1 := Lib.hid hO1
      clear hO1
      go_wp2_with fail
      go_ret2
      refine ⟨.inl ⟨ck, p', by rw [HO1.out], rfl, by omega, ?_, ?_, ?_⟩, HT.out _ hb⟩
      · rw [HXO.out, HO1.out]; exact HGK.out
      · rw [HXO.out, HO1.out]; exact HSO.out.mono hs0
      · rw [HXO.out, HO1.out]; exact HY.out.1
    obtain ⟨ba, off, d, rfl, hx, hi, hc⟩ := (HL.out.bel (HT.out _ hb)).don hlt
    obtain ⟨c0, c1, c2, c3, c4, c5, c6, c7, c8, c9, c10, c11, c12⟩ := dn13 hc
    have HX := Lib.hid hx
    have hdl : decide ((k : Int) < (n : Int)) = true := decide_eq_true (by omega)
    have HI := Lib.hid hi
    clear hx hi hc
    go_upto_region 11 with (fail)
    go_cut [8, 9] (fun i p wx => i = .int .i64 (k : Int) ∧ ∃ q, p = .pointer (some ⟨q, 0, none⟩) ∧ W5.heap.size ≤ q ∧ Blk wx q (donA d) 128 ∧ Below W5.heap.size W5 wx)
    case first =>
      clear HOK HXO HO HN HL HMX HT HG HH HSX HH0 HO4 HG4 HB4 HY HSO HGK HX HI
      go_wp2_with fail
      go_meet
      exact ⟨rfl, _, rfl, Nat.le_refl _, Blk.new W5 _ _, bel1 W5 _⟩
    obtain ⟨rfl, q, rfl, hq, hD, hb6⟩ := hcut
    obtain ⟨W6, hW6⟩ : ∃ V, V = wc := ⟨_, rfl⟩
    subst hW6
    clear c0 c1 c2 c3 c4 c5 c6 c7 c8 c9 c10 c11 c12 hdl
    have hs6 := hb6.size
    have hs5 := hb.size
    have hgl5 : ck < W5.heap.size := HGK.out.lt
    have HKD := Lib.hid (show ∀ X, Kept (fun j => j = ck) W6 X → (fun w' => w'.cell? ⟨q, 0, none⟩ = some (.int .i64 d.ask.number) ∧ w'.cell? ⟨q, 1, none⟩ = some (.int .i64 d.ask.kind) ∧ w'.cell? ⟨q, 2, none⟩ = some (.int .i64 d.ask.id) ∧ w'.cell? ⟨q, 3, none⟩ = some (.int .i64 d.ask.guests) ∧ w'.cell? ⟨q, 4, none⟩ = some (.bool d.ask.level) ∧ w'.cell? ⟨q, 5, none⟩ = some (.int .i64 d.ask.cabin) ∧ w'.cell? ⟨q, 6, none⟩ = some (.int .i64 d.ask.category) ∧ w'.cell? ⟨q, 7, none⟩ = some (.int .i64 d.ask.frm) ∧ w'.cell? ⟨q, 8, none⟩ = some (.int .i64 d.ask.upto) ∧ w'.cell? ⟨q, 9, none⟩ = some (.int .i64 d.ask.til) ∧ w'.cell? ⟨q, 10, none⟩ = some (.int .i64 d.ask.amount) ∧ w'.cell? ⟨q, 11, none⟩ = some (.int .i64 d.ans.errno) ∧ w'.cell? ⟨q, 12, none⟩ = some (.int .i64 d.ans.owed)) X from fun X hX => by
      have hq := hD.kept hX (by omega)
      exact ⟨hq.cell rfl, hq.cell rfl, hq.cell rfl, hq.cell rfl, hq.cell rfl, hq.cell rfl, hq.cell rfl, hq.cell rfl, hq.cell rfl, hq.cell rfl, hq.cell rfl, hq.cell rfl, hq.cell rfl⟩)
    have hbk := hb.trans (hb6.mono hb.size)
    have HGK6 := Lib.hid (HGK.out.bel hb6)
    have HSO6 := Lib.hid (HSO.out.bel hb6)
    have hST := opn_step (mk := mk) (y := y) HX.out
    have hO2 := HY.out.2.trans hST
    have HO2 := Lib.hid hO2
    have HCC := codeCheck_any d.ask W6
    obtain ⟨ce, hce⟩ : ∃ c, c = codeE d.ask := ⟨_, rfl⟩
    rw [← hce] at HCC hO2
    simp only [askA] at HCC
    have HCE := Lib.hid hce
    have HCC := Lib.hid HCC
    have hb := hbk
    have hk6 := Kept.refl (fun j => j = ck) W6
    obtain ⟨c0, c1, c2, c3, c4, c5, c6, c7, c8, c9, c10, c11, c12⟩ := HKD.out _ hk6
    clear hD hb6 HGK HSO h0 hST hce hbk HO2
    have HO2 := Lib.hid hO2
    clear hO2
    go_wp2_with fail
    refine HCC.out.mono ?_
    rintro e w7 ⟨rfl, hb7⟩
    clear HCC
    have hb8 := hb.trans (hb7.mono hb.size)
    have hk7 := hk6.trans (Kept.of_below hb7 (fun j hj h => by omega))
    have HGK7 := Lib.hid (HGK6.out.bel hb7)
    have HSO7 := Lib.hid (HSO6.out.bel hb7)
    have hs7 := hb7.size
    clear c0 c1 c2 c3 c4 c5 c6 c7 c8 c9 c10 c11 c12 hb hb7 hk6 HGK6 HSO6
    have hb := hb8
    clear hb8
    obtain ⟨c0, c1, c2, c3, c4, c5, c6, c7, c8, c9, c10, c11, c12⟩ := HKD.out _ hk7
    have h0 : w7.cell? ⟨h, 0, none⟩ = some (.slice (some ⟨ba, off, none⟩) n cap) := HH0.out _ hb
    by_cases e0 : ce = 0
    rotate_left
    · have hO1 : O = (y, ce) := HO2.out.trans (if_pos e0)
      have e1 : (ce != 0) = true := by simpa using e0
      have HO1 := Lib.hid hO1
      have E0 := Lib.hid e0
      clear hO1 e0
      go_wp2_with fail
      go_ret2
      exact ⟨.inr ⟨by rw [HO1.out]; exact E0.out, by rw [HO1.out]; rfl⟩, HT.out _ hb⟩
    have hO3 := HO2.out.trans (if_neg (fun c => c e0))
    subst e0
    have HO3 := Lib.hid hO3
    have HPP := Lib.hid (hP y HY.out.1 d (List.mem_of_getElem? HX.out) HCE.out.symm)
    clear hO3 HO2 HCE
    have HSL := (HL.out.bel (HT.out _ hb)).pre hk
    obtain ⟨tw, htw⟩ : ∃ t, t = (l.take k).any (sameNo d.ask) := ⟨_, rfl⟩
    have HCF := ContainsFunc_don _ k cap (l.take k) 212 #[.pointer (some ⟨q, 0, none⟩)] (sameNo d.ask) w7 HSL (enters_of Tryz.func212 (by kernel_rfl) rfl) (fun x2 w8 _ hb8 => open1_any x2 d.ask.number q w8 (cellB hb8 c0))
    rw [← htw] at HCF
    have HCF := Lib.hid HCF
    have hkc : k ≤ cap := by have := HL.out.le; omega
    have HTW := Lib.hid htw
    have hd2 : decide ((k : Int) < 0) = false := decide_eq_false (by omega)
    clear htw HSL
    go_wp2_with fail
    refine HCF.out.mono ?_
    rintro e w9 ⟨rfl, hb9⟩
    clear HCF
    have hb8 := hb.trans (hb9.mono hb.size)
    have hk9 := hk7.trans (Kept.of_below hb9 (fun j hj h => by omega))
    have HGK9 := Lib.hid (HGK7.out.bel hb9)
    have HSO9 := Lib.hid (HSO7.out.bel hb9)
    have hs9 := hb9.size
    clear c0 c1 c2 c3 c4 c5 c6 c7 c8 c9 c10 c11 c12 hb hb9 hk7 HGK7 HSO7 h0 hd2
    have hb := hb8
    clear hb8
    cases tw
    rotate_left
    · have hO1 : O = (y, 6) := HO3.out.trans (if_pos HTW.out.symm)
      have HO1 := Lib.hid hO1
      clear hO1
      go_wp2_with fail
      go_ret2
      exact ⟨.inr ⟨by rw [HO1.out]; exact (show ¬ (6 : Int) = 0 by decide), by rw [HO1.out]; rfl⟩, HT.out _ hb⟩
    have hO4 := HO3.out.trans (if_neg (by rw [← HTW.out]; decide))
    obtain ⟨AN, hAN⟩ : ∃ a, a = doA mk y d.ask := ⟨_, rfl⟩
    obtain ⟨DX, hDX⟩ : ∃ a, a = doX mk y d.ask := ⟨_, rfl⟩
    have HDO := do_any HM HR y p' d.ask ck W1.heap.size w9.drew (HSO9.out.bel (Below.refl _ _).drew) (show W1.heap.size ≤ w9.heap.size by omega) (HGK9.out.bel (Below.refl _ _).drew) HPP.out HI.out.1.2.2.1
    have hYD := doX_ok HR HY.out.1 HPP.out
    rw [← hAN, ← hDX] at HDO hO4
    rw [← hDX] at hYD
    have HYD := Lib.hid hYD
    have HO4 := Lib.hid hO4
    have HANE := Lib.hid hAN
    simp only [askA] at HDO
    have HDO := Lib.hid HDO
    have hqn := fun W => ans_ne AN d.ans W
    obtain ⟨tv, htv⟩ : ∃ t, t = decide (AN ≠ d.ans) := ⟨_, rfl⟩
    rw [← htv] at hqn
    have HTV := Lib.hid htv
    clear hO4 hAN hDX hYD htv HO3 HY
    go_upto_region 17 with (fail)
    have hkd := hk9.drew
    have HK9 := Lib.hid hk9
    have HBD := Lib.hid hb.drew
    clear hk9 hb
    refine wp_region_held_drew (S := (fun w' => w'.cell? ⟨q, 0, none⟩ = some (.int .i64 d.ask.number) ∧ w'.cell? ⟨q, 1, none⟩ = some (.int .i64 d.ask.kind) ∧ w'.cell? ⟨q, 2, none⟩ = some (.int .i64 d.ask.id) ∧ w'.cell? ⟨q, 3, none⟩ = some (.int .i64 d.ask.guests) ∧ w'.cell? ⟨q, 4, none⟩ = some (.bool d.ask.level) ∧ w'.cell? ⟨q, 5, none⟩ = some (.int .i64 d.ask.cabin) ∧ w'.cell? ⟨q, 6, none⟩ = some (.int .i64 d.ask.category) ∧ w'.cell? ⟨q, 7, none⟩ = some (.int .i64 d.ask.frm) ∧ w'.cell? ⟨q, 8, none⟩ = some (.int .i64 d.ask.upto) ∧ w'.cell? ⟨q, 9, none⟩ = some (.int .i64 d.ask.til) ∧ w'.cell? ⟨q, 10, none⟩ = some (.int .i64 d.ask.amount) ∧ w'.cell? ⟨q, 11, none⟩ = some (.int .i64 d.ans.errno) ∧ w'.cell? ⟨q, 12, none⟩ = some (.int .i64 d.ans.owed))) (by kernel_rfl) (HKD.out _ hkd) (fun hHeld => ?_)
    refine wpAnyH_take (i := 0) (v := ?v1) (gA rfl) (by kernel_rfl) (by kernel_rfl) (by kernel_rfl) (fun _ _ _ h => h) (Or.inl ⟨rfl, ?y1⟩) (by assumption) ?_
    case y1 => (intro w hSw; (try dsimp only at hSw); go_simp <;> with_reducible rfl)
    simp only [Act.put, List.setIfInBounds_toArray, List.set_cons_zero, List.set_cons_succ]
    refine wpAnyH_take (i := 1) (v := ?v2) (gA rfl) (by kernel_rfl) (by kernel_rfl) (by kernel_rfl) (fun _ _ _ h => h) (Or.inl ⟨rfl, ?y2⟩) (by assumption) ?_
    case y2 => (intro w hSw; (try dsimp only at hSw); go_simp <;> with_reducible rfl)
    simp only [Act.put, List.setIfInBounds_toArray, List.set_cons_zero, List.set_cons_succ]
    refine wpAnyH_take (i := 2) (v := ?v3) (gA rfl) (by kernel_rfl) (by kernel_rfl) (by kernel_rfl) (fun _ _ _ h => h) (Or.inl ⟨rfl, ?y3⟩) (by assumption) ?_
    case y3 => (intro w hSw; (try dsimp only at hSw); go_simp <;> with_reducible rfl)
    simp only [Act.put, List.setIfInBounds_toArray, List.set_cons_zero, List.set_cons_succ]
    refine wpAnyH_take (i := 4) (v := ?v4) (gA rfl) (by kernel_rfl) (by kernel_rfl) (by kernel_rfl) (fun _ _ _ h => h) (Or.inl ⟨rfl, ?y4⟩) (by assumption) ?_
    case y4 => (intro w hSw; (try dsimp only at hSw); go_simp <;> with_reducible rfl)
    simp only [Act.put, List.setIfInBounds_toArray, List.set_cons_zero, List.set_cons_succ]
    refine wpAnyH_take (i := 5) (v := ?v5) (gA rfl) (by kernel_rfl) (by kernel_rfl) (by kernel_rfl) (fun _ _ _ h => h) (Or.inl ⟨rfl, ?y5⟩) (by assumption) ?_
    case y5 => (intro w hSw; (try dsimp only at hSw); go_simp <;> with_reducible rfl)
    simp only [Act.put, List.setIfInBounds_toArray, List.set_cons_zero, List.set_cons_succ]
    refine wpAnyH_ready (rs := [3]) (by kernel_rfl) (by simp) (AllReadyH.cons (gA rfl) (fun K hK => ?_) AllReadyH.nil)
    go_simp
    (go_at_call 138; refine HDO.out.mono ?_; rintro e wA ⟨rfl, ⟨pA, hOA, hGA⟩, hKA⟩; have HOA := Lib.hid hOA; have HGA := Lib.hid hGA; replace hkd := hkd.trans hKA; have HKA := Lib.hid hKA; clear hOA hGA hKA)
    go_wp2_with fail
    refine hK.out _ _ ?_ (fun hHeld => ?_)
    · exact HKD.out _ hkd
    clear hK K
    try simp only [Act.put, List.setIfInBounds_toArray, List.set_cons_zero, List.set_cons_succ]
    refine wpAnyH_take (i := 6) (v := ?v7) (gA rfl) (by kernel_rfl) (by kernel_rfl) (by kernel_rfl) (fun _ _ _ h => h) (Or.inl ⟨rfl, ?y7⟩) (by assumption) ?_
    case y7 => (intro w hSw; (try dsimp only at hSw); go_simp <;> with_reducible rfl)
    simp only [Act.put, List.setIfInBounds_toArray, List.set_cons_zero, List.set_cons_succ]
    refine wpAnyH_done (by kernel_rfl) ?_ _
    have hb : Below W1.heap.size W1 wA := HBD.out.trans (HKA.out.below (B := W1.heap.size) HBD.out.size (fun j hj e => by omega))
    clear hkd HDO hqn
    cases tv
    · have hO5 := HO4.out.trans (if_pos (by have := HTV.out; simpa using this))
      have HO5 := Lib.hid hO5
      clear hO5
      go_wp2_with fail
      go_roundg (n - (k + 1))
      case measure => omega
      case rel => exact ⟨k + 1, DX, pA, by omega, by omega, by go_num, Lib.hid ⟨HYD.out, HO5.out⟩, HOA, HGA, hb⟩
    · have hO5 : O = (y, 4) := HO4.out.trans (if_neg (by have := HTV.out; simpa using this))
      have HO5 := Lib.hid hO5
      clear hO5
      go_wp2_with fail
      go_ret2
      exact ⟨.inr ⟨by rw [HO5.out]; exact (show ¬ (4 : Int) = 0 by decide), by rw [HO5.out]; rfl⟩, HT.out _ hb⟩
end Go.Proofs.YtoilcdgpeilgaaaGreat
namespace Go.Proofs.YtoilcdgpeilgaaaGreat
open Go.RowKit Go.Shelf
set_option maxRecDepth 100000 in
set_option maxHeartbeats 4000000 in
theorem Open_desk {P : Sai → Ask → Prop} {mk : Mk} (HM : MadeC P mk) (HR : RightC P mk) (x : Sai) (p : SaiV) (A : Option Addr) (n cap : Nat) (l : List Don) (wr : Int) (w : World) (hS : SaiR w x p) (hl : Sl donC 13 w All A n cap l)
    (hP : ∀ y, saiE y = 0 → ∀ d ∈ l, codeE d.ask = 0 → P y d.ask) :
    Calls Tryz.prog 57 #[.agg (saiA x p), .agg #[.slice A n cap, .int .i64 wr]] w fun e w' => ResS w' w.heap.size (openE mk x l wr) (openX mk x l) e ∧ Below w.heap.size w w' := by
  have HOP := Lib.hid (fun X h1 h2 => deskOpen_any HM HR x p A n cap l wr X h1 h2 hP)
  obtain ⟨R, hR⟩ : ∃ r, r = openE mk x l wr := ⟨_, rfl⟩
  obtain ⟨X, hX⟩ : ∃ r, r = openX mk x l := ⟨_, rfl⟩
  rw [← hR, ← hX] at HOP ⊢
  have HS := Lib.hid hS
  have HL := Lib.hid hl
  clear hR hX hS hl hP HM HR
  obtain ⟨AA, nn, capp, B, m, cap2, D, nd, cd, E, ne, ce, C, nb, cb⟩ := p
  go_enter Tryz.func57, Tryz.ntmps57
  go_upto_region 0 with (fail)
  go_cut [2, 3, 4, 5] (fun p p2 p3 p4 wx => ∃ g h z, p = .pointer (some ⟨g, 0, none⟩) ∧ p2 = .pointer (some ⟨h, 0, none⟩) ∧ p3 = .pointer (some ⟨z, 0, none⟩) ∧ p4 = .int .i64 0 ∧ w.heap.size ≤ z ∧ Blk wx g (saiA x ⟨AA, nn, capp, B, m, cap2, D, nd, cd, E, ne, ce, C, nb, cb⟩) 32 ∧ Blk wx h #[.slice A n cap, .int .i64 wr] 83 ∧ Blk wx z #[.int .i64 0, .int .i64 0, .slice none 0 0, .slice none 0 0, .slice none 0 0, .int .i64 0, .int .i64 0, .slice none 0 0, .int .i64 0, .int .i64 0, .int .i64 0, .slice none 0 0, .bool false] 32 ∧ Below w.heap.size w wx)
  case first =>
    clear HOP HS HL
    go_wp2_with fail
    go_meet
    exact ⟨_, _, _, rfl, rfl, rfl, rfl, by omega, blk3_0 _ _ _ _, blk3_1 _ _ _ _, blk3_2 _ _ _ _, bel3 _ _ _ _⟩
  obtain ⟨g, h, z, rfl, rfl, rfl, rfl, hz, hG, hH, hZ, hb⟩ := hcut
  have HQ := Lib.hid (HOP.out _ (HS.out.bel hb) (HL.out.bel hb))
  have hzl := hZ.lt
  have hsz := hb.size
  go_wp2_with (first | (refine wpList_load_row rfl 32 (.tmp 2) rfl g rfl 32 _ (0, 0) _ hG Tryz.underlying32 rfl (by kernel_rfl) ?_) | (refine wpList_load_row rfl 83 (.tmp 3) rfl h rfl 83 _ (0, 0) _ hH Tryz.underlying83 rfl (by kernel_rfl) ?_))
  refine HQ.out.mono ?_
  rintro e w2 ⟨hop, hb2⟩
  have hZ2 := hZ.bel hb2
  replace hb := hb.trans (hb2.mono hb.size)
  clear hG hH hZ hb2 HQ HOP HS HL
  have HB := Lib.hid (fun u => (hb.trans (((Kept.refl (fun k => k = z) w2).setRow (.inl rfl) u).below (B := w.heap.size) hb.size (fun k hk e => by omega)) : Below w.heap.size w (w2.setRow z u)))
  rcases hop with ⟨ck, p5, rfl, rfl, hck, hG5, hO5, -⟩ | ⟨h0, rfl⟩
  rotate_left
  · have h0' : (R != 0) = true := by simpa using h0
    have H0 := Lib.hid h0
    clear h0 hb
    go_wp2_with (refine wpList_store_row rfl 32 (.tmp 4) (.tmp 16) rfl z (saiA zeroS zeroP) rfl rfl 32 _ hZ2 (by kernel_rfl) rfl (by simp [Value.oneCell']) ?_)
    refine bodyPost_ret (v := .tuple #[.agg (saiA zeroS zeroP), .int .i64 R]) ((hZ2.row _).ret2 (k := 4) (u := 5) (by kernel_rfl) rfl rfl Tryz.underlying32 (by kernel_rfl) (by kernel_rfl)) rfl ?_
    exact ⟨⟨zeroS, zeroP, rfl, (okS_ne H0.out _).symm, zeroS_own _ _ (HB.out _).size⟩, HB.out _⟩
  have hKz : Kept (fun k => k = z) w2 (w2.setRow z (saiA X p5)) := (Kept.refl (fun k => k = z) w2).setRow (.inl rfl) _
  have hO6 := (hO5.kept hKz (fun k hk e => by omega)).mono hsz
  have HO6 := Lib.hid hO6
  clear hO6
  clear hb hO5 hKz
  go_wp2_with (first | (refine wpList_load_row rfl 32 (.tmp 20) rfl ck rfl 181 _ (0, 0) _ hG5 Tryz.underlying32 rfl (by kernel_rfl) ?_) | (refine wpList_store_row rfl 32 (.tmp 4) (.tmp 21) rfl z (saiA X p5) rfl rfl 32 _ hZ2 (by kernel_rfl) rfl (by simp [Value.oneCell']) ?_))
  refine bodyPost_ret (v := .tuple #[.agg (saiA X p5), .int .i64 0]) ((hZ2.row _).ret2 (k := 4) (u := 5) (by kernel_rfl) rfl rfl Tryz.underlying32 (by kernel_rfl) (by kernel_rfl)) rfl ?_
  exact ⟨⟨X, p5, rfl, (okS_zero _).symm, HO6.out⟩, HB.out _⟩
end Go.Proofs.YtoilcdgpeilgaaaGreat
