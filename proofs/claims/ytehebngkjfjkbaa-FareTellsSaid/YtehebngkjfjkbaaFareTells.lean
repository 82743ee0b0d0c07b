/-
  The law FareTells returns true, whatever it is handed, and changes nothing that was there.
-/
import Derived.Test.YtehebngkjfjkbaaFareI
import Derived.Test.YtehebngkjfjkbaaFareLift
import Derived.Deep.RegionWith
namespace Go.Proofs.Ytehebngkjfjkbaa
open Go.ChangeShapes Go.WideShapes Go.ChangeAt Go.RowKit Go.Shelf

/-- An errno, or that a number may not stand there. -/
def guardE (u : Int) (b : Bool) : Int := if u ≠ 0 then u else if b then 0 else 3
theorem guard_f {u v : Int} {b : Bool} (h : v = guardE u b) (hq : Aside (false = (u == 0 && !b))) : v = u := by
  have hq : false = (u == 0 && !b) := hq
  rw [h]; unfold guardE
  by_cases h0 : u = 0
  · rw [if_neg (by simp [h0])]
    cases b
    · rw [h0] at hq; simp at hq
    · rw [h0]; rfl
  · rw [if_pos h0]
theorem guard_t {u v : Int} {b : Bool} (h : v = guardE u b) (hq : Aside (true = (u == 0 && !b))) : v = 3 := by
  have hq : true = (u == 0 && !b) := hq
  rw [h]; unfold guardE
  by_cases h0 : u = 0
  · rw [if_neg (by simp [h0])]
    cases b
    · rfl
    · rw [h0] at hq; simp at hq
  · have : (u == 0) = false := by simpa using h0
    rw [this] at hq; simp at hq

theorem price_guard (x : Fares) (c g cat : Int) (s : Span) (gu : Int) :
    priceE x c g cat s gu = guardE (if guardE (fareE x c g) (betB cat 0 (c - 1)) ≠ 0 then guardE (fareE x c g) (betB cat 0 (c - 1)) else spanE s g) (betB gu 1 4) := by
  unfold priceE
  generalize fareE x c g = u
  generalize betB cat 0 (c - 1) = b
  generalize spanE s g = z
  generalize betB gu 1 4 = b2
  unfold guardE
  by_cases h : u = 0 <;> cases b <;> by_cases h2 : z = 0 <;> simp [h, h2]
theorem pen_guard (x : Fares) (c g p d : Int) : penE x c g p d = guardE (payE x c g p) (decide (0 ≤ d)) := by
  unfold penE guardE
  by_cases h : d < 0
  · rw [if_pos h, decide_eq_false (by omega)]; rfl
  · rw [if_neg h, decide_eq_true (by omega)]; rfl

set_option maxRecDepth 100000 in
set_option maxHeartbeats 8000000 in
theorem FareTells_walk (W : World) (cs : Array Value) (x : Fares) (hx : fareC W All x cs.toList) (c : Int) (_ : InI c) (g : Int) (_ : InI g) (cat : Int) (_ : InI cat) (cs2 : Array Value) (s : Span) (hs : spanC W All s cs2.toList) (gu : Int) (_ : InI gu) (p : Int) (_ : InI p) (d : Int) (_ : InI d) :
    Calls Try.prog 10 #[.agg cs, .int .i64 c, .int .i64 g, .int .i64 cat, .agg cs2, .int .i64 gu, .int .i64 p, .int .i64 d] W fun e w' => e = .returned (.bool true) ∧ Below W.heap.size W w' := by
  obtain ⟨A, n, cap, B, m, cap2, hcs, hl, hbn, ia, it, id⟩ := hx
  obtain rfl : cs = #[.slice A n cap, .int .i64 x.alone, .int .i64 x.third, .slice B m cap2, .int .i64 x.down] := by cases cs; simp_all
  obtain ⟨a, b⟩ := s
  obtain ⟨hs, ja, jb⟩ := hs
  obtain rfl : cs2 = #[.int .i64 a, .int .i64 b] := by cases cs2; simp_all
  simp only at ja jb
  have h : FareR W A n cap x B m cap2 := ⟨hl, hbn, ia, it, id⟩
  clear hcs hs hl hbn ia it id
  have hP := fun w h => Price_any A n cap x B m cap2 c g cat a b gu w h
  have hD := fun w h => Down_any A n cap x B m cap2 c g p w h
  have hN := fun w h => Penalty_any A n cap x B m cap2 c g p d w h
  have hR := fun w h => CheckFares_any A n cap x B m cap2 c g w h
  have hC := fun w h => fareCheck_any A n cap x B m cap2 c g w h
  have hG := fun w => CheckSpan_any a b g w
  obtain ⟨v, ev⟩ : ∃ v, v = fareE x c g := ⟨_, rfl⟩
  obtain ⟨u1, e1⟩ : ∃ u, u = guardE v (betB cat 0 (c - 1)) := ⟨_, rfl⟩
  obtain ⟨sp, es⟩ : ∃ u, u = spanE ⟨a, b⟩ g := ⟨_, rfl⟩
  obtain ⟨u2, e2⟩ : ∃ u, u = if u1 ≠ 0 then u1 else sp := ⟨_, rfl⟩
  obtain ⟨ue, eu⟩ : ∃ u, u = priceE x c g cat ⟨a, b⟩ gu := ⟨_, rfl⟩
  obtain ⟨we, ew⟩ : ∃ u, u = payE x c g p := ⟨_, rfl⟩
  obtain ⟨xe, ex⟩ : ∃ u, u = penE x c g p d := ⟨_, rfl⟩
  obtain ⟨pv, ep⟩ : ∃ u, u = okI ue (ofV x cat ⟨a, b⟩ gu) := ⟨_, rfl⟩
  obtain ⟨dv, ed⟩ : ∃ u, u = okI we (partV p x.down) := ⟨_, rfl⟩
  obtain ⟨nv, en⟩ : ∃ u, u = okI xe (lateV x p d) := ⟨_, rfl⟩
  have G1 := Lib.hid (show ue = guardE u2 (betB gu 1 4) by rw [eu, e2, e1, es, ev]; exact price_guard _ _ _ _ _ _)
  have G2 := Lib.hid (show we = guardE v (betB p 0 100000000) by rw [ew, ev]; rfl)
  have G3 := Lib.hid (show xe = guardE we (decide (0 ≤ d)) by rw [ex, ew]; exact pen_guard _ _ _ _ _)
  rw [← eu, ← ep] at hP
  rw [← ew, ← ed] at hD
  rw [← ex, ← en] at hN
  rw [← ev] at hR hC
  rw [← es] at hG
  have HP := Lib.hid hP
  clear hP
  have HD := Lib.hid hD
  clear hD
  have HN := Lib.hid hN
  clear hN
  have HR := Lib.hid hR
  clear hR
  have HC := Lib.hid hC
  clear hC
  have HG := Lib.hid hG
  clear hG
  have E1 := Lib.hid e1
  clear e1
  have E2 := Lib.hid e2
  clear e2
  have EU := Lib.hid eu
  clear eu
  have EW := Lib.hid ew
  clear ew
  have EX := Lib.hid ex
  clear ex
  have EP := Lib.hid ep
  clear ep
  have ED := Lib.hid ed
  clear ed
  have EN := Lib.hid en
  clear en
  have EV := Lib.hid ev
  clear ev
  have ES := Lib.hid es
  clear es
  go_enter Try.func10, Try.ntmps10
  go_upto_region 0 with (fail)
  go_cut [8, 12] (fun t r wx => t = .pointer (some ⟨W.heap.size, 0, none⟩) ∧ r = .pointer (some ⟨W.heap.size + 1, 0, none⟩) ∧ FareAt wx W.heap.size A n cap x B m cap2 ∧ SpanAt wx (W.heap.size + 1) a b ∧ Below W.heap.size W wx)
  case first => as_aux_lemma =>
    go_wp2_with fail
    go_meet
    exact ⟨rfl, rfl, blk2_0 _ _ _, blk2_1 _ _ _, bel2 _ _ _⟩
  obtain ⟨rfl, rfl, hF, hS, hb0⟩ := hcut
  obtain ⟨W0, rfl⟩ : ∃ W0, W0 = wc := ⟨_, rfl⟩
  replace h := h.below hb0
  have hb := Below.refl W0.heap.size W0
  have k0 := hF.c0
  have k1 := hF.c1
  have k2 := hF.c2
  have k3 := hF.c3
  have k4 := hF.c4
  have s0 := hS.c0
  have s1 := hS.c1
  go_wp2_with fail
  refine (HP.out _ (h.below hb)).mono ?_
  rintro e w101 ⟨rfl, hb101⟩
  replace hb := hb.trans (hb101.mono hb.size)
  replace k0 := (hF.below hb).c0
  replace k1 := (hF.below hb).c1
  replace k2 := (hF.below hb).c2
  replace k3 := (hF.below hb).c3
  replace k4 := (hF.below hb).c4
  replace s0 := (hS.below hb).c0
  replace s1 := (hS.below hb).c1
  clear hb101
  go_wp2_with fail
  refine (HD.out _ (h.below hb)).mono ?_
  rintro e w102 ⟨rfl, hb102⟩
  replace hb := hb.trans (hb102.mono hb.size)
  replace k0 := (hF.below hb).c0
  replace k1 := (hF.below hb).c1
  replace k2 := (hF.below hb).c2
  replace k3 := (hF.below hb).c3
  replace k4 := (hF.below hb).c4
  replace s0 := (hS.below hb).c0
  replace s1 := (hS.below hb).c1
  clear hb102
  go_wp2_with fail
  refine (HN.out _ (h.below hb)).mono ?_
  rintro e w103 ⟨rfl, hb103⟩
  replace hb := hb.trans (hb103.mono hb.size)
  replace k0 := (hF.below hb).c0
  replace k1 := (hF.below hb).c1
  replace k2 := (hF.below hb).c2
  replace k3 := (hF.below hb).c3
  replace k4 := (hF.below hb).c4
  replace s0 := (hS.below hb).c0
  replace s1 := (hS.below hb).c1
  clear hb103
  go_wp2_with fail
  refine (HR.out _ (h.below hb)).mono ?_
  rintro e w104 ⟨rfl, hb104⟩
  replace hb := hb.trans (hb104.mono hb.size)
  replace k0 := (hF.below hb).c0
  replace k1 := (hF.below hb).c1
  replace k2 := (hF.below hb).c2
  replace k3 := (hF.below hb).c3
  replace k4 := (hF.below hb).c4
  replace s0 := (hS.below hb).c0
  replace s1 := (hS.below hb).c1
  clear hb104
  go_upto_region 6 with (fail)
  go_cut [73] (fun t wx => (∃ q : Bool, t = .bool q ∧ Aside (q = (v == 0 && !betB cat 0 (c - 1)))) ∧ Below W0.heap.size W0 wx)
  case first => as_aux_lemma =>
    by_cases h0 : v = 0
    · have H0 := Lib.hid h0
      have h0' : (v == 0) = true := by simpa using h0
      clear h0
      by_cases h1 : cat < 0
      · have HS := Lib.hid (betB_false (n := cat) (a := 0) (b := (c - 1)) (.inl h1))
        go_wp2_with fail
        go_meet
        exact ⟨⟨true, rfl, by show _ = (_ && !_); rw [H0.out, HS.out]; rfl⟩, hb⟩
      · by_cases h2 : (c - 1) < cat
        · have HS := Lib.hid (betB_false (n := cat) (a := 0) (b := (c - 1)) (.inr h2))
          have hd := decide_eq_true (show c ≤ cat by omega)
          go_wp2_with fail
          go_meet
          exact ⟨⟨true, rfl, by show _ = (_ && !_); rw [H0.out, HS.out]; rfl⟩, hb⟩
        · have HS := Lib.hid (betB_true (n := cat) (a := 0) (b := (c - 1)) (by omega) (by omega))
          have hd := decide_eq_false (show ¬ c ≤ cat by omega)
          go_wp2_with fail
          go_meet
          exact ⟨⟨false, rfl, by show _ = (_ && !_); rw [H0.out, HS.out]; rfl⟩, hb⟩
    · have h0' : (v == 0) = false := by simpa using h0
      have H0 := Lib.hid h0'
      clear h0
      go_wp2_with fail
      go_meet
      exact ⟨⟨false, rfl, by show _ = (_ && !_); rw [H0.out]; rfl⟩, hb⟩
  clear hb
  obtain ⟨⟨q, rfl, HQ⟩, hb⟩ := hcut
  replace k0 := (hF.below hb).c0; replace k1 := (hF.below hb).c1; replace k2 := (hF.below hb).c2; replace k3 := (hF.below hb).c3; replace k4 := (hF.below hb).c4; replace s0 := (hS.below hb).c0; replace s1 := (hS.below hb).c1
  go_upto_if 73 with (fail)
  go_cut [24] (fun t wx => t = .int .i64 u1 ∧ Below W0.heap.size W0 wx)
  case first => as_aux_lemma =>
    cases q
    · have HN := Lib.hid (guard_f E1.out HQ)
      go_wp2_with fail
      go_meet
      exact ⟨by rw [HN.out], hb⟩
    · have HN := Lib.hid (guard_t E1.out HQ)
      go_wp2_with fail
      go_meet
      exact ⟨by rw [HN.out], hb⟩
  clear hb
  obtain ⟨rfl, hb⟩ := hcut
  replace k0 := (hF.below hb).c0; replace k1 := (hF.below hb).c1; replace k2 := (hF.below hb).c2; replace k3 := (hF.below hb).c3; replace k4 := (hF.below hb).c4; replace s0 := (hS.below hb).c0; replace s1 := (hS.below hb).c1
  go_upto_if 75 with (fail)
  go_cut [24] (fun t wx => t = .int .i64 u2 ∧ Below W0.heap.size W0 wx)
  case first => as_aux_lemma =>
    by_cases h0 : u1 = 0
    · have HN := Lib.hid (show u2 = sp by rw [E2.out, if_neg (by simp [h0])])
      subst h0
      go_wp2_with fail
      refine (HG.out _).mono ?_
      rintro e w105 ⟨rfl, hb105⟩
      replace hb := hb.trans (hb105.mono hb.size)
      clear hb105
      go_wp2_with fail
      go_meet
      exact ⟨by rw [HN.out], hb⟩
    · have HN := Lib.hid (show u2 = u1 by rw [E2.out, if_pos h0])
      have h0' : (u1 == 0) = false := by simpa using h0
      clear h0
      go_wp2_with fail
      go_meet
      exact ⟨by rw [HN.out], hb⟩
  clear hb
  obtain ⟨rfl, hb⟩ := hcut
  replace k0 := (hF.below hb).c0; replace k1 := (hF.below hb).c1; replace k2 := (hF.below hb).c2; replace k3 := (hF.below hb).c3; replace k4 := (hF.below hb).c4; replace s0 := (hS.below hb).c0; replace s1 := (hS.below hb).c1
  go_upto_region 10 with (fail)
  go_cut [88] (fun t wx => (∃ q : Bool, t = .bool q ∧ Aside (q = (u2 == 0 && !betB gu 1 4))) ∧ Below W0.heap.size W0 wx)
  case first => as_aux_lemma =>
    by_cases h0 : u2 = 0
    · have H0 := Lib.hid h0
      have h0' : (u2 == 0) = true := by simpa using h0
      clear h0
      by_cases h1 : gu < 1
      · have HS := Lib.hid (betB_false (n := gu) (a := 1) (b := 4) (.inl h1))
        go_wp2_with fail
        go_meet
        exact ⟨⟨true, rfl, by show _ = (_ && !_); rw [H0.out, HS.out]; rfl⟩, hb⟩
      · by_cases h2 : 4 < gu
        · have HS := Lib.hid (betB_false (n := gu) (a := 1) (b := 4) (.inr h2))
          have hd := decide_eq_true (show 4 < gu by omega)
          go_wp2_with fail
          go_meet
          exact ⟨⟨true, rfl, by show _ = (_ && !_); rw [H0.out, HS.out]; rfl⟩, hb⟩
        · have HS := Lib.hid (betB_true (n := gu) (a := 1) (b := 4) (by omega) (by omega))
          have hd := decide_eq_false (show ¬ 4 < gu by omega)
          go_wp2_with fail
          go_meet
          exact ⟨⟨false, rfl, by show _ = (_ && !_); rw [H0.out, HS.out]; rfl⟩, hb⟩
    · have h0' : (u2 == 0) = false := by simpa using h0
      have H0 := Lib.hid h0'
      clear h0
      go_wp2_with fail
      go_meet
      exact ⟨⟨false, rfl, by show _ = (_ && !_); rw [H0.out]; rfl⟩, hb⟩
  clear hb
  obtain ⟨⟨q, rfl, HQ⟩, hb⟩ := hcut
  replace k0 := (hF.below hb).c0; replace k1 := (hF.below hb).c1; replace k2 := (hF.below hb).c2; replace k3 := (hF.below hb).c3; replace k4 := (hF.below hb).c4; replace s0 := (hS.below hb).c0; replace s1 := (hS.below hb).c1
  go_upto_if 88 with (fail)
  go_cut [24] (fun t wx => t = .int .i64 ue ∧ Below W0.heap.size W0 wx)
  case first => as_aux_lemma =>
    cases q
    · have HN := Lib.hid (guard_f G1.out HQ)
      go_wp2_with fail
      go_meet
      exact ⟨by rw [HN.out], hb⟩
    · have HN := Lib.hid (guard_t G1.out HQ)
      go_wp2_with fail
      go_meet
      exact ⟨by rw [HN.out], hb⟩
  clear hb
  obtain ⟨rfl, hb⟩ := hcut
  replace k0 := (hF.below hb).c0; replace k1 := (hF.below hb).c1; replace k2 := (hF.below hb).c2; replace k3 := (hF.below hb).c3; replace k4 := (hF.below hb).c4; replace s0 := (hS.below hb).c0; replace s1 := (hS.below hb).c1
  go_upto_region 12 with (fail)
  go_cut [98] (fun t wx => (∃ q : Bool, t = .bool q ∧ Aside (q = (v == 0 && !betB p 0 100000000))) ∧ Below W0.heap.size W0 wx)
  case first => as_aux_lemma =>
    by_cases h0 : v = 0
    · have H0 := Lib.hid h0
      have h0' : (v == 0) = true := by simpa using h0
      clear h0
      by_cases h1 : p < 0
      · have HS := Lib.hid (betB_false (n := p) (a := 0) (b := 100000000) (.inl h1))
        go_wp2_with fail
        go_meet
        exact ⟨⟨true, rfl, by show _ = (_ && !_); rw [H0.out, HS.out]; rfl⟩, hb⟩
      · by_cases h2 : 100000000 < p
        · have HS := Lib.hid (betB_false (n := p) (a := 0) (b := 100000000) (.inr h2))
          have hd := decide_eq_true (show 100000000 < p by omega)
          go_wp2_with fail
          go_meet
          exact ⟨⟨true, rfl, by show _ = (_ && !_); rw [H0.out, HS.out]; rfl⟩, hb⟩
        · have HS := Lib.hid (betB_true (n := p) (a := 0) (b := 100000000) (by omega) (by omega))
          have hd := decide_eq_false (show ¬ 100000000 < p by omega)
          go_wp2_with fail
          go_meet
          exact ⟨⟨false, rfl, by show _ = (_ && !_); rw [H0.out, HS.out]; rfl⟩, hb⟩
    · have h0' : (v == 0) = false := by simpa using h0
      have H0 := Lib.hid h0'
      clear h0
      go_wp2_with fail
      go_meet
      exact ⟨⟨false, rfl, by show _ = (_ && !_); rw [H0.out]; rfl⟩, hb⟩
  clear hb
  obtain ⟨⟨q, rfl, HQ⟩, hb⟩ := hcut
  replace k0 := (hF.below hb).c0; replace k1 := (hF.below hb).c1; replace k2 := (hF.below hb).c2; replace k3 := (hF.below hb).c3; replace k4 := (hF.below hb).c4; replace s0 := (hS.below hb).c0; replace s1 := (hS.below hb).c1
  go_upto_if 98 with (fail)
  go_cut [25] (fun t wx => t = .int .i64 we ∧ Below W0.heap.size W0 wx)
  case first => as_aux_lemma =>
    cases q
    · have HN := Lib.hid (guard_f G2.out HQ)
      go_wp2_with fail
      go_meet
      exact ⟨by rw [HN.out], hb⟩
    · have HN := Lib.hid (guard_t G2.out HQ)
      go_wp2_with fail
      go_meet
      exact ⟨by rw [HN.out], hb⟩
  clear hb
  obtain ⟨rfl, hb⟩ := hcut
  replace k0 := (hF.below hb).c0; replace k1 := (hF.below hb).c1; replace k2 := (hF.below hb).c2; replace k3 := (hF.below hb).c3; replace k4 := (hF.below hb).c4; replace s0 := (hS.below hb).c0; replace s1 := (hS.below hb).c1
  go_upto_region 15 with (fail)
  go_cut [105] (fun t wx => (∃ q : Bool, t = .bool q ∧ Aside (q = (we == 0 && !decide (0 ≤ d)))) ∧ Below W0.heap.size W0 wx)
  case first => as_aux_lemma =>
    by_cases h0 : we = 0
    · have H0 := Lib.hid h0
      have h0' : (we == 0) = true := by simpa using h0
      clear h0
      by_cases h1 : d < 0
      · have HS := Lib.hid (decide_eq_false (show ¬ 0 ≤ d by omega))
        go_wp2_with fail
        go_meet
        exact ⟨⟨true, rfl, by show _ = (_ && !_); rw [H0.out, HS.out]; rfl⟩, hb⟩
      · have HS := Lib.hid (decide_eq_true (show 0 ≤ d by omega))
        go_wp2_with fail
        go_meet
        exact ⟨⟨false, rfl, by show _ = (_ && !_); rw [H0.out, HS.out]; rfl⟩, hb⟩
    · have h0' : (we == 0) = false := by simpa using h0
      have H0 := Lib.hid h0'
      clear h0
      go_wp2_with fail
      go_meet
      exact ⟨⟨false, rfl, by show _ = (_ && !_); rw [H0.out]; rfl⟩, hb⟩
  clear hb
  obtain ⟨⟨q, rfl, HQ⟩, hb⟩ := hcut
  replace k0 := (hF.below hb).c0; replace k1 := (hF.below hb).c1; replace k2 := (hF.below hb).c2; replace k3 := (hF.below hb).c3; replace k4 := (hF.below hb).c4; replace s0 := (hS.below hb).c0; replace s1 := (hS.below hb).c1
  go_upto_if 105 with (fail)
  go_cut [26] (fun t wx => t = .int .i64 xe ∧ Below W0.heap.size W0 wx)
  case first => as_aux_lemma =>
    cases q
    · have HN := Lib.hid (guard_f G3.out HQ)
      go_wp2_with fail
      go_meet
      exact ⟨by rw [HN.out], hb⟩
    · have HN := Lib.hid (guard_t G3.out HQ)
      go_wp2_with fail
      go_meet
      exact ⟨by rw [HN.out], hb⟩
  clear hb
  obtain ⟨rfl, hb⟩ := hcut
  replace k0 := (hF.below hb).c0; replace k1 := (hF.below hb).c1; replace k2 := (hF.below hb).c2; replace k3 := (hF.below hb).c3; replace k4 := (hF.below hb).c4; replace s0 := (hS.below hb).c0; replace s1 := (hS.below hb).c1
  go_upto_if 107 with (fail)
  go_cut [27] (fun t wx => t = .int .i64 pv ∧ Below W0.heap.size W0 wx)
  case first => as_aux_lemma =>
    by_cases h0 : ue = 0
    · subst h0
      obtain ⟨hok, c0, c1, a0, a1, b1, g0, g1⟩ := price_ok EU.out.symm
      simp only at a0 a1 b1
      obtain ⟨f, rfl⟩ := Int.eq_ofNat_of_zero_le a0
      obtain ⟨t, rfl⟩ := Int.eq_ofNat_of_zero_le (show 0 ≤ b by omega)
      obtain ⟨k, rfl⟩ := Int.eq_ofNat_of_zero_le c0
      obtain ⟨q, rfl⟩ := Int.eq_ofNat_of_zero_le (show 0 ≤ gu by omega)
      have hkl : k < x.leg.length := by have := hok.len; omega
      obtain ⟨L, hL⟩ : ∃ L, x.leg[k]? = some L := ⟨_, List.getElem?_eq_getElem hkl⟩
      have hlen := hok.lens L (List.mem_of_getElem? hL)
      have hmr := hok.mr
      have hv := hok.leg L (List.mem_of_getElem? hL)
      have HK := Lib.hid (PriceOf_any A n cap x B m cap2 k f t q L _ (h.below hb) hL (by omega) (by omega) (by omega) hv hok.a hok.t (by omega) (by omega))
      have HE := Lib.hid (show pv = paysV x (seg L f t).sum q by rw [EP.out]; unfold okI ofV; simp [hL])
      clear hL hv hlen hmr hkl hok
      go_wp2_with fail
      refine (HK.out).mono ?_
      rintro e w106 ⟨rfl, hb106⟩
      replace hb := hb.trans (hb106.mono hb.size)
      clear hb106
      go_wp2_with fail
      go_meet
      exact ⟨by rw [HE.out], hb⟩
    · have HN := Lib.hid (show pv = 0 by rw [EP.out, okI_ne h0])
      have h0' : (ue == 0) = false := by simpa using h0
      clear h0
      go_wp2_with fail
      go_meet
      exact ⟨by rw [HN.out], hb⟩
  clear hb
  obtain ⟨rfl, hb⟩ := hcut
  replace k0 := (hF.below hb).c0; replace k1 := (hF.below hb).c1; replace k2 := (hF.below hb).c2; replace k3 := (hF.below hb).c3; replace k4 := (hF.below hb).c4; replace s0 := (hS.below hb).c0; replace s1 := (hS.below hb).c1
  go_upto_if 114 with (fail)
  go_cut [28] (fun t wx => t = .int .i64 dv ∧ Below W0.heap.size W0 wx)
  case first => as_aux_lemma =>
    by_cases h0 : we = 0
    · subst h0
      obtain ⟨hok, p0, p1⟩ := pay_ok EW.out.symm
      have hd := hok.d
      have HE := Lib.hid (show dv = partV p x.down by rw [ED.out]; rfl)
      clear hok
      go_wp2_with fail
      refine (PartOf_any p x.down _ p0 (by omega) hd.1 (by omega)).mono ?_
      rintro e w9 ⟨rfl, rfl⟩
      go_wp2_with fail
      go_meet
      exact ⟨by rw [HE.out], hb⟩
    · have HN := Lib.hid (show dv = 0 by rw [ED.out, okI_ne h0])
      have h0' : (we == 0) = false := by simpa using h0
      clear h0
      go_wp2_with fail
      go_meet
      exact ⟨by rw [HN.out], hb⟩
  clear hb
  obtain ⟨rfl, hb⟩ := hcut
  replace k0 := (hF.below hb).c0; replace k1 := (hF.below hb).c1; replace k2 := (hF.below hb).c2; replace k3 := (hF.below hb).c3; replace k4 := (hF.below hb).c4; replace s0 := (hS.below hb).c0; replace s1 := (hS.below hb).c1
  go_upto_if 120 with (fail)
  go_cut [29] (fun t wx => t = .int .i64 nv ∧ Below W0.heap.size W0 wx)
  case first => as_aux_lemma =>
    by_cases h0 : xe = 0
    · subst h0
      have hwe : we = 0 := by
        by_cases q : we = 0
        · exact q
        · have := G3.out; unfold guardE at this; rw [if_pos q] at this; exact this.symm
      obtain ⟨hok, p0, p1⟩ := pay_ok (EW.out.symm.trans hwe)
      have hbp := fun (b : Band) (hb : b ∈ x.bands) => (show 0 ≤ b.part ∧ b.part ≤ 100 by have := hok.band b hb; omega)
      have HK := Lib.hid (PenaltyOf_any A n cap x B m cap2 p d _ (h.below hb) p0 p1 hbp)
      have HE := Lib.hid (show nv = lateV x p d by rw [EN.out]; rfl)
      clear hok hbp hwe
      go_wp2_with fail
      refine (HK.out).mono ?_
      rintro e w107 ⟨rfl, hb107⟩
      replace hb := hb.trans (hb107.mono hb.size)
      clear hb107
      go_wp2_with fail
      go_meet
      exact ⟨by rw [HE.out], hb⟩
    · have HN := Lib.hid (show nv = 0 by rw [EN.out, okI_ne h0])
      have h0' : (xe == 0) = false := by simpa using h0
      clear h0
      go_wp2_with fail
      go_meet
      exact ⟨by rw [HN.out], hb⟩
  clear hb
  obtain ⟨rfl, hb⟩ := hcut
  replace k0 := (hF.below hb).c0; replace k1 := (hF.below hb).c1; replace k2 := (hF.below hb).c2; replace k3 := (hF.below hb).c3; replace k4 := (hF.below hb).c4; replace s0 := (hS.below hb).c0; replace s1 := (hS.below hb).c1
  go_wp2_with fail
  refine (fareBegun_any _).mono ?_
  rintro e w108 ⟨rfl, hb108⟩
  replace hb := hb.trans (hb108.mono hb.size)
  replace k0 := (hF.below hb).c0
  replace k1 := (hF.below hb).c1
  replace k2 := (hF.below hb).c2
  replace k3 := (hF.below hb).c3
  replace k4 := (hF.below hb).c4
  replace s0 := (hS.below hb).c0
  replace s1 := (hS.below hb).c1
  clear hb108
  go_wp2_with fail
  refine (HC.out _ (h.below hb)).mono ?_
  rintro e w109 ⟨rfl, hb109⟩
  replace hb := hb.trans (hb109.mono hb.size)
  replace k0 := (hF.below hb).c0
  replace k1 := (hF.below hb).c1
  replace k2 := (hF.below hb).c2
  replace k3 := (hF.below hb).c3
  replace k4 := (hF.below hb).c4
  replace s0 := (hS.below hb).c0
  replace s1 := (hS.below hb).c1
  clear hb109
  go_wp2_with fail
  go_ret
  exact ⟨rfl, hb0.trans (hb.mono hb0.size)⟩
set_option maxRecDepth 100000 in
theorem FareTells_lifted (os : Os) (started : os.Started) (H : Type) (enc : TypeId × Value → H) :
    ReturnsInHanded {} Try.checked os 10 .any (Rows.fareTellsSpec.pre6 enc Try.prog Try.f10 Rows.fareTellsRow.domain false) (Rows.fareTellsSpec.post enc Try.prog Try.f10 false true false false) := by
  refine returnsInHanded_of_change (C := Try.checked) own started (by kernel_rfl) Try.func10
    (ChangeSpec.witness6 (enc := enc) (C := Try.checked) false ⟨#[], #[.agg #[.slice none 0 0, .int .i64 0, .int .i64 0, .slice none 0 0, .int .i64 0], .int .i64 0, .int .i64 0, .int .i64 0, .agg #[.int .i64 0, .int .i64 0], .int .i64 0, .int .i64 0, .int .i64 0], []⟩ 8 (by kernel_rfl) (by kernel_rfl) (by kernel_rfl) (by kernel_rfl)) ?_
  intro W base args ds gs before hval0 hW hcnd _
  have hval : ∀ (j : Nat) t v, Try.f10.params[j]? = some t → args[j]? = some v → Value.okWide Try.prog W .any base t v := hval0
  have hW' := hW
  obtain ⟨p, q, hA0, hV, rfl, hfz, hnd⟩ := hW
  have hA : DataW.TrodAll enc Try.prog W 0 (fun _ => true) true Try.f10.params.toList args.toList ds p := hA0
  rw [Try.params10] at hA hval
  obtain ⟨v0, vs0, d0, ds0, p0, q0, hargs, rfl, rfl, h0, r0⟩ := trodAll_cons hA
  obtain ⟨v1, vs1, d1, ds1, p1, q1, rfl, rfl, rfl, h1, r1⟩ := trodAll_cons r0
  obtain ⟨v2, vs2, d2, ds2, p2, q2, rfl, rfl, rfl, h2, r2⟩ := trodAll_cons r1
  obtain ⟨v3, vs3, d3, ds3, p3, q3, rfl, rfl, rfl, h3, r3⟩ := trodAll_cons r2
  obtain ⟨v4, vs4, d4, ds4, p4, q4, rfl, rfl, rfl, h4, r4⟩ := trodAll_cons r3
  obtain ⟨v5, vs5, d5, ds5, p5, q5, rfl, rfl, rfl, h5, r5⟩ := trodAll_cons r4
  obtain ⟨v6, vs6, d6, ds6, p6, q6, rfl, rfl, rfl, h6, r6⟩ := trodAll_cons r5
  obtain ⟨v7, vs7, d7, ds7, p7, q7, rfl, rfl, rfl, h7, r7⟩ := trodAll_cons r6
  obtain ⟨rfl, rfl, rfl⟩ := trodAll_nil r7
  obtain rfl : args = #[v0, v1, v2, v3, v4, v5, v6, v7] := by cases args; simp_all
  obtain ⟨rfl, rfl⟩ := trodVars_none hV
  have lt0 := arg_lt h0
  have k0 := h0
  obtain ⟨cs0, a0, rfl, w0⟩ := arg_agg (c := fareC) Try.underlying68 opens_fareC (hval 0 68 v0 rfl rfl) h0
  have lt1 := arg_lt h1
  have k1 := h1
  obtain ⟨a1, rfl, w1⟩ := arg_int Try.underlying3 (hval 1 3 v1 rfl rfl) h1
  have lt2 := arg_lt h2
  have k2 := h2
  obtain ⟨a2, rfl, w2⟩ := arg_int Try.underlying3 (hval 2 3 v2 rfl rfl) h2
  have lt3 := arg_lt h3
  have k3 := h3
  obtain ⟨a3, rfl, w3⟩ := arg_int Try.underlying3 (hval 3 3 v3 rfl rfl) h3
  have lt4 := arg_lt h4
  have k4 := h4
  obtain ⟨cs4, a4, rfl, w4⟩ := arg_agg (c := spanC) Try.underlying40 opens_spanC (hval 4 40 v4 rfl rfl) h4
  have lt5 := arg_lt h5
  have k5 := h5
  obtain ⟨a5, rfl, w5⟩ := arg_int Try.underlying3 (hval 5 3 v5 rfl rfl) h5
  have lt6 := arg_lt h6
  have k6 := h6
  obtain ⟨a6, rfl, w6⟩ := arg_int Try.underlying3 (hval 6 3 v6 rfl rfl) h6
  have lt7 := arg_lt h7
  have k7 := h7
  obtain ⟨a7, rfl, w7⟩ := arg_int Try.underlying3 (hval 7 3 v7 rfl rfl) h7
  clear hA0 hval0
  refine (FareTells_walk W cs0 a0 w0 a1 w1 a2 w2 a3 w3 cs4 a4 w4 a5 w5 a6 w6 a7 w7).mono fun e W' ⟨he, bel⟩ => ?_
  subst he
  exact ⟨_, rfl, _, _, _, [], _, [], hW', trodAll_mk1 (shut_bool Try.underlying4 _), (trodAll_cons_mk (Below.trod laidOut (by kernel_rfl) (of_decide_eq_true (by kernel_rfl)) k0 bel lt0) (trodAll_cons_mk (Below.trod laidOut (by kernel_rfl) (of_decide_eq_true (by kernel_rfl)) k1 bel lt1) (trodAll_cons_mk (Below.trod laidOut (by kernel_rfl) (of_decide_eq_true (by kernel_rfl)) k2 bel lt2) (trodAll_cons_mk (Below.trod laidOut (by kernel_rfl) (of_decide_eq_true (by kernel_rfl)) k3 bel lt3) (trodAll_cons_mk (Below.trod laidOut (by kernel_rfl) (of_decide_eq_true (by kernel_rfl)) k4 bel lt4) (trodAll_cons_mk (Below.trod laidOut (by kernel_rfl) (of_decide_eq_true (by kernel_rfl)) k5 bel lt5) (trodAll_cons_mk (Below.trod laidOut (by kernel_rfl) (of_decide_eq_true (by kernel_rfl)) k6 bel lt6) (trodAll_cons_mk (Below.trod laidOut (by kernel_rfl) (of_decide_eq_true (by kernel_rfl)) k7 bel lt7) trodAll_mk0)))))))), rfl, bel.frame _, fun h => by cases h⟩

/-- THE GIVEN STATEMENT FareTells. -/
theorem fareTells_holds : Rows.FareTellsSaid :=
  OpenClaim.holds_of_wide 10 Try.f10 rfl rfl rfl rfl rfl rfl rfl ⟨rfl, rfl, rfl, rfl, rfl⟩ rfl rfl rfl rfl rfl (by kernel_rfl) Try.func10 (by kernel_rfl)
    (of_decide_eq_true (by kernel_rfl)) (by unfold Func.isWrapper; rw [if_neg (of_decide_eq_false (by kernel_rfl))]; exact ⟨rfl, rfl⟩)
    (fun os started H enc _ => FareTells_lifted os started H enc)
#print axioms fareTells_holds
end Go.Proofs.Ytehebngkjfjkbaa
