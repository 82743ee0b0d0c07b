/-
  Words, laws and contracts: DeskB, DeskC, DeskD.
-/
import Derived.Test.YtoilcdgpeilgaaaGreatBun23
import Derived.Test.YtoilcdgpeilgaaaGreatBun25
import Derived.BigQuiet
set_option linter.unusedSimpArgs false
set_option linter.unusedVariables false
namespace Go.Proofs.YtoilcdgpeilgaaaGreat
open Go.RowKit Go.Shelf
def wrB (wr : Int) (n : Nat) : Bool := decide (0 ≤ wr) && decide (wr ≤ (n : Int))
theorem ans_ne (a b : Ans) (W : World) : (binOp .neq 95 (.agg (ansA a)) (.agg (ansA b))).run Tryz.prog W = .ok (.bool (decide (a ≠ b))) W := by
  obtain ⟨a0, a1⟩ := a
  obtain ⟨b0, b1⟩ := b
  simp only [Ans.mk.injEq, ne_eq]
  go_simp
  repeat' split
  all_goals simp_all
theorem ans_eq (a b : Ans) (W : World) : (binOp .eql 95 (.agg (ansA a)) (.agg (ansA b))).run Tryz.prog W = .ok (.bool (decide (a = b))) W := by
  obtain ⟨a0, a1⟩ := a
  obtain ⟨b0, b1⟩ := b
  simp only [Ans.mk.injEq]
  go_simp
  repeat' split
  all_goals simp_all
def donQ (a b : Don) : Bool := decide (a = b)
theorem don_ne (a b : Don) (W : World) : (binOp .neq 128 (.agg (donA a)) (.agg (donA b))).run Tryz.prog W = .ok (.bool (!donQ a b)) W := by
  unfold donQ
  obtain ⟨⟨a0, a1, a2, a3, a4, a5, a6, a7, a8, a9, a10⟩, ⟨a11, a12⟩⟩ := a
  obtain ⟨⟨b0, b1, b2, b3, b4, b5, b6, b7, b8, b9, b10⟩, ⟨b11, b12⟩⟩ := b
  unfold donA
  simp only [Don.mk.injEq, Ask.mk.injEq, Ans.mk.injEq]
  go_simp
  refine dite (a0 = b0) (fun h => ?_) (fun h => by simp [h])
  subst h
  refine dite (a1 = b1) (fun h => ?_) (fun h => by simp [h])
  subst h
  refine dite (a2 = b2) (fun h => ?_) (fun h => by simp [h])
  subst h
  refine dite (a3 = b3) (fun h => ?_) (fun h => by simp [h])
  subst h
  refine dite (a4 = b4) (fun h => ?_) (fun h => by simp [h])
  subst h
  refine dite (a5 = b5) (fun h => ?_) (fun h => by simp [h])
  subst h
  refine dite (a6 = b6) (fun h => ?_) (fun h => by simp [h])
  subst h
  refine dite (a7 = b7) (fun h => ?_) (fun h => by simp [h])
  subst h
  refine dite (a8 = b8) (fun h => ?_) (fun h => by simp [h])
  subst h
  refine dite (a9 = b9) (fun h => ?_) (fun h => by simp [h])
  subst h
  refine dite (a10 = b10) (fun h => ?_) (fun h => by simp [h])
  subst h
  refine dite (a11 = b11) (fun h => ?_) (fun h => by simp [h])
  subst h
  refine dite (a12 = b12) (fun h => ?_) (fun h => by simp [h])
  subst h
  simp
set_option maxRecDepth 100000 in
set_option maxHeartbeats 2000000 in
theorem written_any (A : Option Addr) (n cap : Nat) (wr : Int) (w : World) (_ : n ≤ 1000000000000000000) :
    Calls Tryz.prog 135 #[.agg #[.slice A n cap, .int .i64 wr]] w fun e w' => e = .returned (.bool (wrB wr n)) ∧ Below w.heap.size w w' := by
  obtain ⟨r, hr⟩ : ∃ r, r = wrB wr n := ⟨_, rfl⟩
  rw [← hr]
  have HR := Lib.hid (show r = (decide (0 ≤ wr) && decide (wr ≤ (n : Int))) from hr)
  clear hr
  by_cases h0 : 0 ≤ wr
  · have h0' := decide_eq_true h0
    rw [h0', Bool.true_and] at HR
    cases h1 : decide (wr ≤ (n : Int)) with
    | true =>
      rw [h1] at HR
      clear h0
      obtain rfl := HR.out
      go_enter Tryz.func135, Tryz.ntmps135
      go_wp2_with fail
      go_ret
      exact ⟨rfl, bel1 _ _⟩
    | false =>
      rw [h1] at HR
      clear h0
      obtain rfl := HR.out
      go_enter Tryz.func135, Tryz.ntmps135
      go_wp2_with fail
      go_ret
      exact ⟨rfl, bel1 _ _⟩
  · have h0' := decide_eq_false h0
    rw [h0', Bool.false_and] at HR
    clear h0
    obtain rfl := HR.out
    go_enter Tryz.func135, Tryz.ntmps135
    go_wp2_with fail
    go_ret
    exact ⟨rfl, bel1 _ _⟩
def LogR (w' : World) (base : Nat) (E : Int) (l : List Don) (wr : Int) (e : Ending) : Prop := ∃ v xs, e = .returned (.tuple #[.agg #[v, .int .i64 (okI E wr)], .int .i64 E]) ∧ Own donC 13 128 w' base v (okL E l) xs
def crN (wr : Int) (n : Nat) (keep : Int) : Int := wr + min keep ((n : Int) - wr)
def crE (wr : Int) (n : Nat) (keep : Int) : Int := if wrB wr n = false ∨ keep < 0 then 3 else 0
set_option maxRecDepth 100000 in
set_option maxHeartbeats 4000000 in
theorem Crash_any (A : Option Addr) (n cap : Nat) (l : List Don) (wr keep : Int) (w : World) (h : Sl donC 13 w All A n cap l) (hn : n * 104 ≤ 140737488355328) (_ : InI keep) :
    Calls Tryz.prog 56 #[.agg #[.slice A n cap, .int .i64 wr], .int .i64 keep] w fun e w' => LogR w' w.heap.size (crE wr n keep) (l.take (crN wr n keep).toNat) (crN wr n keep) e ∧ Below w.heap.size w w' := by
  obtain ⟨R, hR⟩ : ∃ r, r = crE wr n keep := ⟨_, rfl⟩
  have HE := Lib.hid (show R = if wrB wr n = false ∨ keep < 0 then 3 else 0 from hR)
  rw [← hR]
  clear hR
  have hb0 := h.bd
  have hlm := h.le
  have hmx := h.max
  have HWR := Lib.hid (fun X => written_any A n cap wr X (by omega))
  obtain ⟨r, hr⟩ : ∃ r, r = wrB wr n := ⟨_, rfl⟩
  have HR := Lib.hid (show r = (decide (0 ≤ wr) && decide (wr ≤ (n : Int))) from hr)
  rw [← hr] at HWR HE
  have HL := Lib.hid h
  clear h hr hlm hmx
  go_enter Tryz.func56, Tryz.ntmps56
  go_upto_region 0 with (fail)
  go_cut [2, 4, 5] (fun p p2 p3 wx => ∃ g z, p = .pointer (some ⟨g, 0, none⟩) ∧ p2 = .pointer (some ⟨z, 0, none⟩) ∧ p3 = .int .i64 0 ∧ w.heap.size ≤ z ∧ Blk wx g #[.slice A n cap, .int .i64 wr] 83 ∧ Blk wx z #[.slice none 0 0, .int .i64 0] 83 ∧ Below w.heap.size w wx)
  case first => as_aux_lemma =>
    go_wp2_with fail
    go_meet
    exact ⟨_, _, rfl, rfl, rfl, by omega, blk2_0 _ _ _, blk2_1 _ _ _, bel2 _ _ _⟩
  obtain ⟨g, z, rfl, rfl, rfl, hz, hG, hZ, hb⟩ := hcut
  have g0 : wc.cell? ⟨g, 0, none⟩ = some (.slice A n cap) := hG.cell rfl
  have g1 : wc.cell? ⟨g, 1, none⟩ = some (.int .i64 wr) := hG.cell rfl
  go_wp2_with fail
  refine (HWR.out _).mono ?_
  rintro e w1 ⟨rfl, hb1⟩
  have hz1 := hZ.bel hb1
  have hg1 := hG.bel hb1
  replace hb := hb.trans (hb1.mono hb.size)
  clear hZ hG hb1 g0 g1
  have HERR := Lib.hid (show Below w.heap.size w (w1.setRow z #[.slice none 0 0, .int .i64 0]) → LogR (w1.setRow z #[.slice none 0 0, .int .i64 0]) w.heap.size 3 (l.take (crN wr n keep).toNat) (crN wr n keep) (.returned (.tuple #[.agg #[.slice none 0 0, .int .i64 0], .int .i64 3])) from fun hb => ⟨.slice none 0 0, [], by rw [okI_ne (by decide)], by rw [okL_ne (by decide)]; exact Own.nil _ _ _ _ _⟩)
  have HEND := Lib.hid (show ∀ L, Below w.heap.size w (w1.setRow z L) from fun L => hb.trans (((Kept.refl (fun k => k = z) w1).setRow (.inl rfl) _).below (B := w.heap.size) hb.size (fun k hk e => by omega)))
  cases r
  · obtain rfl : R = 3 := by rw [HE.out, if_pos (.inl rfl)]
    go_wp2_with (refine wpList_store_row rfl 83 (.tmp 4) (.tmp 14) rfl z #[.slice none 0 0, .int .i64 0] rfl rfl 83 _ hz1 (by kernel_rfl) rfl (by simp [Value.oneCell']) ?_)
    refine bodyPost_ret (v := .tuple #[.agg #[.slice none 0 0, .int .i64 0], .int .i64 3]) ((hz1.row _).ret2 (k := 4) (u := 5) (by kernel_rfl) rfl rfl Tryz.underlying83 (by kernel_rfl) (by kernel_rfl)) rfl ?_
    exact ⟨HERR.out (HEND.out _), HEND.out _⟩
  by_cases hk0 : keep < 0
  · have hk1 : decide (keep < 0) = true := decide_eq_true hk0
    obtain rfl : R = 3 := by rw [HE.out, if_pos (.inr hk0)]
    have HK := Lib.hid hk0
    clear hk0
    go_wp2_with (refine wpList_store_row rfl 83 (.tmp 4) (.tmp 14) rfl z #[.slice none 0 0, .int .i64 0] rfl rfl 83 _ hz1 (by kernel_rfl) rfl (by simp [Value.oneCell']) ?_)
    refine bodyPost_ret (v := .tuple #[.agg #[.slice none 0 0, .int .i64 0], .int .i64 3]) ((hz1.row _).ret2 (k := 4) (u := 5) (by kernel_rfl) rfl rfl Tryz.underlying83 (by kernel_rfl) (by kernel_rfl)) rfl ?_
    exact ⟨HERR.out (HEND.out _), HEND.out _⟩
  have hk1 : decide (keep < 0) = false := decide_eq_false hk0
  obtain rfl : R = 0 := by rw [HE.out, if_neg (fun c => c.elim (by simp) hk0)]
  have HK := Lib.hid hk0
  clear hk0
  have g0 : w1.cell? ⟨g, 0, none⟩ = some (.slice A n cap) := hg1.cell rfl
  have g1 : w1.cell? ⟨g, 1, none⟩ = some (.int .i64 wr) := hg1.cell rfl
  have hw : 0 ≤ wr ∧ wr ≤ (n : Int) := by
    have := HR.out
    rw [eq_comm, Bool.and_eq_true, decide_eq_true_eq, decide_eq_true_eq] at this
    exact this
  obtain ⟨k, hk⟩ := Int.eq_ofNat_of_zero_le (show 0 ≤ crN wr n keep by have := HK.out; unfold crN; omega)
  have hkn : k ≤ n := by have := HK.out; unfold crN at hk; omega
  have w1' : wrap64 ((n : Int) - wr) = (n : Int) - wr := by unfold wrap64; omega
  have w2' : wrap64 (wr + min keep ((n : Int) - wr)) = (k : Int) := by rw [← hk]; unfold wrap64 crN; have := HK.out; omega
  have HK2 := Lib.hid hk
  clear hk
  clear hw
  go_upto_region 3 with (fail)
  go_cut [6] (fun p wx => p = .int .i64 (k : Int) ∧ w1 = wx)
  case first => as_aux_lemma =>
    go_wp2_with fail
    go_meet
    exact ⟨by rw [w2'], rfl⟩
  obtain ⟨rfl, rfl⟩ := hcut
  clear w1' w2' hk1
  have hkc : k ≤ cap := by have := HL.out.le; omega
  have hd1 : decide ((k : Int) < 0) = false := decide_eq_false (by omega)
  have HC := Lib.hid (Clone_don A k cap (l.take k) w1 ((HL.out.bel hb).pre hkn) (by omega))
  have hs1 := hb.size
  go_wp2_with fail
  refine HC.out.mono ?_
  rintro e w2 ⟨v, xs, rfl, hO, hb2⟩
  obtain ⟨A5, n5, c5, rfl, -⟩ := hO.sl donC_good
  have hz2 := hz1.bel hb2
  have hzl := hz1.lt
  have hs2 := hb2.size
  have hKz : Kept (fun k => k = z) w2 (w2.setRow z #[.slice A5 n5 c5, .int .i64 (k : Int)]) := (Kept.refl (fun k => k = z) w2).setRow (.inl rfl) _
  have HO := Lib.hid hO
  clear hO
  have HKZ := Lib.hid hKz
  clear hKz
  clear HC
  go_wp2_with (refine wpList_store_row rfl 83 (.tmp 4) (.tmp 32) rfl z #[.slice A5 n5 c5, .int .i64 (k : Int)] rfl rfl 83 _ hz2 (by kernel_rfl) rfl (by simp [Value.oneCell']) ?_)
  refine bodyPost_ret (v := .tuple #[.agg #[.slice A5 n5 c5, .int .i64 (k : Int)], .int .i64 0]) ((hz2.row _).ret2 (k := 4) (u := 5) (by kernel_rfl) rfl rfl Tryz.underlying83 (by kernel_rfl) (by kernel_rfl)) rfl ?_
  refine ⟨⟨_, xs, by rw [HK2.out, okI_zero], ?_⟩, ?_⟩
  · rw [HK2.out, Int.toNat_natCast, okL_zero]
    exact (HO.out.keepB donC_flat (fun j hj => HKZ.out.block j (HO.out.lt j hj).2 (by have := (HO.out.lt j hj).1; omega))).mono donC_good (by omega)
  · exact (hb.trans (hb2.mono hb.size)).trans (HKZ.out.below (B := w.heap.size) (by omega) (fun k hk e => by omega))
end Go.Proofs.YtoilcdgpeilgaaaGreat
namespace Go.Proofs.YtoilcdgpeilgaaaGreat
open Go.RowKit Go.Shelf
set_option maxRecDepth 100000 in
set_option maxHeartbeats 4000000 in
theorem SameLog_any (A B : Option Addr) (n cap m cap2 : Nat) (l l2 : List Don) (wr wr2 : Int) (w : World) (h : Sl donC 13 w All A n cap l) (h2 : Sl donC 13 w All B m cap2 l2) :
    Calls Tryz.prog 58 #[.agg #[.slice A n cap, .int .i64 wr], .agg #[.slice B m cap2, .int .i64 wr2]] w fun e w' => e = .returned (.bool (decide (wr = wr2 ∧ l = l2))) ∧ Below w.heap.size w w' := by
  obtain ⟨r, hr⟩ : ∃ r, r = decide (wr = wr2 ∧ l = l2) := ⟨_, rfl⟩
  rw [← hr]
  have HR := Lib.hid hr
  clear hr
  have hbd := h.bd
  have hlen := Lib.hid h.len
  have hlen2 := Lib.hid h2.len
  have H1 := Lib.hid h
  clear h
  have H2 := Lib.hid h2
  clear h2
  go_enter Tryz.func58, Tryz.ntmps58
  go_upto_region 0 with (fail)
  go_cut [2, 3, 4] (fun p p2 _ wx => ∃ g z, p = .pointer (some ⟨g, 0, none⟩) ∧ p2 = .pointer (some ⟨z, 0, none⟩) ∧ Blk wx g #[.slice A n cap, .int .i64 wr] 83 ∧ Blk wx z #[.slice B m cap2, .int .i64 wr2] 83 ∧ Below w.heap.size w wx)
  case first => as_aux_lemma =>
    go_wp2_with fail
    go_meet
    exact ⟨_, _, rfl, rfl, blk2_0 _ _ _, blk2_1 _ _ _, bel2 _ _ _⟩
  obtain ⟨g, z, rfl, rfl, hG, hZ, hb⟩ := hcut
  obtain ⟨W1, hW1⟩ : ∃ V, V = wc := ⟨_, rfl⟩
  subst hW1
  have HG := Lib.hid (fun X (hX : Below W1.heap.size W1 X) => hG.bel hX)
  have HZ := Lib.hid (fun X (hX : Below W1.heap.size W1 X) => hZ.bel hX)
  have HT := Lib.hid (fun X (hX : Below W1.heap.size W1 X) => hb.trans (hX.mono hb.size))
  have hb0 : Below W1.heap.size W1 W1 := Below.refl _ _
  have g0 : W1.cell? ⟨g, 0, none⟩ = some (.slice A n cap) := hG.cell rfl
  have g1 : W1.cell? ⟨g, 1, none⟩ = some (.int .i64 wr) := hG.cell rfl
  have z0 : W1.cell? ⟨z, 0, none⟩ = some (.slice B m cap2) := hZ.cell rfl
  have z1 : W1.cell? ⟨z, 1, none⟩ = some (.int .i64 wr2) := hZ.cell rfl
  clear hG hZ hb
  by_cases q1 : wr = wr2
  rotate_left
  · obtain rfl : r = false := by rw [HR.out, decide_eq_false_iff_not]; exact fun c => q1 c.1
    have q1' : (wr != wr2) = true := by simpa using q1
    clear q1
    go_wp2_with fail
    go_ret
    exact ⟨rfl, HT.out _ hb0⟩
  have q1' : (wr != wr2) = false := by simpa using q1
  by_cases q2 : n = m
  rotate_left
  · obtain rfl : r = false := by rw [HR.out, decide_eq_false_iff_not]; exact fun c => q2 (by rw [← hlen.out, ← hlen2.out, c.2])
    have q2' : ((n : Int) != (m : Int)) = true := by simp; omega
    clear q1 q2
    go_wp2_with fail
    go_ret
    exact ⟨rfl, HT.out _ hb0⟩
  subst q2
  have HQ1 := Lib.hid q1
  have q2' : ((n : Int) != (n : Int)) = false := by simp
  clear q1
  go_wp2_with fail
  clear q1' q2' g0 g1 z0 z1
  go_loopg [5] n (fun gk i wr => ∃ k : Nat, k ≤ n ∧ n - k ≤ gk ∧ i = .int .i64 k ∧ Aside (∀ j, j < k → l[j]? = l2[j]?) ∧ Below W1.heap.size W1 wr)
  case atStart => exact ⟨0, Nat.zero_le _, by omega, rfl, fun j hj => absurd hj (by omega), hb0⟩
  case round =>
    clear hb0
    obtain ⟨k, hk, hgk, rfl, HE, hb⟩ := hrel
    have g0 : wr.cell? ⟨g, 0, none⟩ = some (.slice A n cap) := (HG.out _ hb).cell rfl
    have z0 : wr.cell? ⟨z, 0, none⟩ = some (.slice B n cap2) := (HZ.out _ hb).cell rfl
    by_cases hlt : k < n
    · obtain ⟨b, off, x, rfl, hx, hi, hc⟩ := (H1.out.bel (HT.out _ hb)).don hlt
      obtain ⟨c0, c1, c2, c3, c4, c5, c6, c7, c8, c9, c10, c11, c12⟩ := dn13 hc
      obtain ⟨b2, off2, y, rfl, hy, hi2, hc2⟩ := (H2.out.bel (HT.out _ hb)).don hlt
      obtain ⟨d0, d1, d2, d3, d4, d5, d6, d7, d8, d9, d10, d11, d12⟩ := dn13 hc2
      have hqn := fun W => don_ne x y W
      unfold donA at hqn
      have HX := Lib.hid hx
      have HY := Lib.hid hy
      clear hx hy hi hi2 hc hc2
      have HQ := Lib.hid (show donQ x y = decide (x = y) from rfl)
      cases hq : donQ x y with
      | true =>
        rw [hq] at HQ hqn
        clear hq
        go_wp2_with fail
        go_quiet (fail)
        go_wp2_with fail
        go_roundg (n - (k + 1))
        case measure => omega
        case rel =>
          refine ⟨k + 1, by omega, by omega, by go_num, (show Aside _ from fun j hj => ?_), by first | exact hb | exact below_drewN hb _⟩
          by_cases e : j = k
          · subst e; rw [HX.out, HY.out, of_decide_eq_true HQ.out.symm]
          · exact HE.out j (by omega)
      | false =>
        rw [hq] at HQ hqn
        clear hq
        obtain rfl : r = false := by
          rw [HR.out, decide_eq_false_iff_not]
          rintro ⟨-, c⟩
          subst c
          rw [HX.out] at HY
          exact of_decide_eq_false HQ.out.symm (by have := HY.out; injection this)
        go_wp2_with fail
        go_quiet (fail)
        go_wp2_with fail
        go_ret
        exact ⟨rfl, by first | exact HT.out _ hb | exact HT.out _ (below_drewN hb _)⟩
    · obtain rfl : k = n := by omega
      obtain rfl : r = true := by
        rw [HR.out, decide_eq_true_eq]
        refine ⟨HQ1.out, List.ext_getElem? fun j => ?_⟩
        by_cases hj : j < k
        · exact HE.out j hj
        · rw [List.getElem?_eq_none (by rw [hlen.out]; omega), List.getElem?_eq_none (by rw [hlen2.out]; omega)]
      go_wp2_with fail
      go_ret
      exact ⟨rfl, HT.out _ hb⟩
end Go.Proofs.YtoilcdgpeilgaaaGreat
namespace Go.Proofs.YtoilcdgpeilgaaaGreat
open Go.RowKit Go.Shelf
def stD (a : Ask) : Int := if a.til = 0 then 2 else 1
def bookD (x : Sai) (a : Ask) : Bkg := if a.kind = 2 then ⟨a.id, 2, stD a, a.guests, a.level, -1, a.category, 0, x.ship.legs, a.til, []⟩ else ⟨a.id, 1, stD a, a.guests, a.level, a.cabin, a.category, a.frm, a.upto, a.til, []⟩
set_option maxRecDepth 100000 in
set_option maxHeartbeats 4000000 in
theorem booking_any (x : Sai) (p : SaiV) (a : Ask) (g : Nat) (w : World) (hG : Blk w g (saiA x p) 181) :
    Calls Tryz.prog 249 #[.pointer (some ⟨g, 0, none⟩), .agg (askA a)] w fun e w' => e = .returned (.agg (bkgA (bookD x a) (.slice none 0 0))) ∧ Below w.heap.size w w' := by
  obtain ⟨B, hB⟩ : ∃ b, b = bookD x a := ⟨_, rfl⟩
  rw [← hB]
  have HB := Lib.hid hB
  clear hB
  have HGC := Lib.hid (fun X (hX : Below w.heap.size w X) => show X.cell? ⟨g, 0, none⟩ = some (.int .i64 x.ship.legs) from (hG.bel hX).cell (j := 0) rfl)
  clear hG
  go_enter Tryz.func249, Tryz.ntmps249
  go_upto_region 0 with (fail)
  go_cut [3, 4] (fun p2 p3 wx => ∃ c z, p2 = .pointer (some ⟨c, 0, none⟩) ∧ p3 = .pointer (some ⟨z, 0, none⟩) ∧ w.heap.size ≤ z ∧ AskAt wx c a ∧ Blk wx z #[.int .i64 0, .int .i64 0, .int .i64 0, .int .i64 0, .bool false, .int .i64 0, .int .i64 0, .int .i64 0, .int .i64 0, .int .i64 0, .slice none 0 0] 37 ∧ Below w.heap.size w wx)
  case first => as_aux_lemma =>
    go_wp2_with fail
    go_meet
    exact ⟨_, _, rfl, rfl, by omega, blk2_0 _ _ _, blk2_1 _ _ _, bel2 _ _ _⟩
  obtain ⟨c, z, rfl, rfl, hz, hC, hZ, hb⟩ := hcut
  obtain ⟨c0, c1, c2, c3, c4, c5, c6, c7, c8, c9, c10⟩ := hC.all
  obtain ⟨W1, hW1⟩ : ∃ V, V = wc := ⟨_, rfl⟩
  subst hW1
  have HB1 := Lib.hid hb
  clear hb
  have HZ := Lib.hid hZ
  clear hZ
  have HC := Lib.hid hC
  clear hC
  go_upto_region 1 with (fail)
  go_cut [5] (fun p wx => ∃ y, p = .pointer (some ⟨y, 0, none⟩) ∧ W1.heap.size ≤ y ∧ Blk wx y (bkgA ⟨a.id, 1, 2, a.guests, a.level, a.cabin, a.category, a.frm, a.upto, a.til, []⟩ (.slice none 0 0)) 37 ∧ Below W1.heap.size W1 wx)
  case first =>
    clear HGC HB HB1 HZ
    go_wp2_with fail
    go_meet
    exact ⟨_, rfl, Nat.le_refl _, Blk.new W1 _ _, bel1 W1 _⟩
  obtain ⟨y, rfl, hy, hY, hb⟩ := hcut
  obtain ⟨W2, hW2⟩ : ∃ V, V = wc := ⟨_, rfl⟩
  subst hW2
  have c1 := (HC.out.bel hb).all.2.1
  have c9 : W2.cell? ⟨c, 9, none⟩ = some (.int .i64 a.til) := (HC.out.bel hb).all.2.2.2.2.2.2.2.2.2.1
  clear c0 c2 c3 c4 c5 c6 c7 c8 c10
  obtain ⟨st, hst⟩ : ∃ s, s = stD a := ⟨_, rfl⟩
  have HST := Lib.hid hst
  clear hst
  have HT := Lib.hid (fun X (hX : Below W1.heap.size W1 X) => HB1.out.trans (hX.mono HB1.out.size))
  have hb1 := hb
  have g0 : W2.cell? ⟨g, 0, none⟩ = some (.int .i64 x.ship.legs) := HGC.out _ (HT.out _ hb)
  have y2 : W2.cell? ⟨y, 2, none⟩ = some (.int .i64 2) := hY.cell rfl
  have f2 : W2.frozen? ⟨y, 2, none⟩ = false := hY.free 2
  have HY := Lib.hid hY
  clear hY
  go_upto_region 2 with (fail)
  go_upto_if 23 with (fail)
  go_cut [5] (fun p wx => p = .pointer (some ⟨y, 0, none⟩) ∧ Blk wx y (bkgA ⟨a.id, 1, st, a.guests, a.level, a.cabin, a.category, a.frm, a.upto, a.til, []⟩ (.slice none 0 0)) 37 ∧ Below W1.heap.size W1 wx)
  case first =>
    by_cases t0 : a.til = 0
    · have t1 : (a.til != 0) = false := by simpa using t0
      obtain rfl : st = 2 := by rw [HST.out]; unfold stD; rw [if_pos t0]
      clear t0
      go_wp2_with fail
      go_meet
      exact ⟨rfl, HY.out, hb1⟩
    · have t1 : (a.til != 0) = true := by simpa using t0
      obtain rfl : st = 1 := by rw [HST.out]; unfold stD; rw [if_neg t0]
      clear t0
      go_wp2_with fail
      go_meet
      exact ⟨rfl, HY.out.set (j := 2) (.int .i64 1), hb1.setCell hy _⟩
  obtain ⟨rfl, hY, hb⟩ := hcut
  obtain ⟨W3, hW3⟩ : ∃ V, V = wc := ⟨_, rfl⟩
  subst hW3
  clear hb1 g0 c1 c9 y2 HY f2
  have c1 : W3.cell? ⟨c, 1, none⟩ = some (.int .i64 a.kind) := (HC.out.bel hb).all.2.1
  have g0 : W3.cell? ⟨g, 0, none⟩ = some (.int .i64 x.ship.legs) := HGC.out _ (HT.out _ hb)
  have HY := Lib.hid hY
  clear hY
  have HB3 := Lib.hid hb
  clear hb
  go_upto_region 4 with (fail)
  go_upto_if 27 with (fail)
  go_cut [5] (fun p wx => p = .pointer (some ⟨y, 0, none⟩) ∧ Blk wx y (bkgA B (.slice none 0 0)) 37 ∧ Below W1.heap.size W1 wx)
  case first =>
    by_cases k2 : a.kind = 2
    rotate_left
    · have t1 : (a.kind == 2) = false := by simpa using k2
      have hB' := HB.out
      unfold bookD at hB'
      rw [if_neg k2] at hB'
      have HB' := Lib.hid hB'
      clear k2 hB'
      go_wp2_with fail
      go_meet
      exact ⟨rfl, by rw [HB'.out, ← HST.out]; exact HY.out, HB3.out⟩
    · have t1 : (a.kind == 2) = true := by simpa using k2
      have y1 : W3.cell? ⟨y, 1, none⟩ = some (.int .i64 1) := HY.out.cell rfl
      have y5 : W3.cell? ⟨y, 5, none⟩ = some (.int .i64 a.cabin) := HY.out.cell rfl
      have y7 : W3.cell? ⟨y, 7, none⟩ = some (.int .i64 a.frm) := HY.out.cell rfl
      have y8 : W3.cell? ⟨y, 8, none⟩ = some (.int .i64 a.upto) := HY.out.cell rfl
      have f1 := HY.out.free 1
      have f5 := HY.out.free 5
      have f7 := HY.out.free 7
      have f8 := HY.out.free 8
      have hB' := HB.out
      unfold bookD at hB'
      rw [if_pos k2] at hB'
      have HB' := Lib.hid hB'
      clear k2 hB'
      go_wp2_with fail
      go_region
      go_wp2_with fail
      go_meet
      exact ⟨rfl, by rw [HB'.out, ← HST.out]; exact ((((HY.out.set (j := 1) (.int .i64 2)).set (j := 5) (.int .i64 (-1))).set (j := 7) (.int .i64 0)).set (j := 8) (.int .i64 x.ship.legs)), ((((HB3.out.setCell hy _).setCell hy _).setCell hy _).setCell hy _).drew⟩
  obtain ⟨rfl, hY, hb⟩ := hcut
  have hz4 := HZ.out.bel hb
  have hzl := HZ.out.lt
  have hKz : Kept (fun k => k = z) wc (wc.setRow z (bkgA B (.slice none 0 0))) := (Kept.refl (fun k => k = z) wc).setRow (.inl rfl) _
  have hbz := ((HT.out _ hb).trans (hKz.below (B := w.heap.size) (HT.out _ hb).size (fun k hk e => by omega)))
  have HBZ := Lib.hid hbz
  clear hbz
  clear hKz hb HGC HT
  go_wp2_with (first | (refine wpList_load_row rfl 37 (.tmp 5) rfl y rfl 37 _ (0, 0) _ hY Tryz.underlying37 rfl (by kernel_rfl) ?_) | (refine wpList_store_row rfl 37 (.tmp 4) (.tmp 38) rfl z (bkgA B (.slice none 0 0)) rfl rfl 37 _ hz4 (by kernel_rfl) rfl (by simp [Value.oneCell']) ?_))
  refine bodyPost_ret (v := .agg (bkgA B (.slice none 0 0))) ((hz4.row _).ret (k := 4) (by kernel_rfl) rfl Tryz.underlying37 (by kernel_rfl) (by kernel_rfl)) rfl ?_
  exact ⟨rfl, HBZ.out⟩
end Go.Proofs.YtoilcdgpeilgaaaGreat
