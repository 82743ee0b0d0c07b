/-
  Spans: the reference SameSpans; the laws' helper spanBegun.
-/
import Derived.Test.YtpodgidamoiakaaSpanG
namespace Go.Proofs.Ytpodgidamoiakaa
open Go.RowKit Go.Shelf

set_option maxRecDepth 100000 in
theorem span_ne (x y : Span) (W : World) : (binOp .neq 45 (.agg #[.int .i64 x.frm, .int .i64 x.upto]) (.agg #[.int .i64 y.frm, .int .i64 y.upto])).run Try.prog W = .ok (.bool (decide (x ≠ y))) W := by
  obtain ⟨a, b⟩ := x
  obtain ⟨c, d⟩ := y
  simp only [Span.mk.injEq, ne_eq]
  go_simp
  repeat' split
  all_goals simp_all
set_option maxHeartbeats 1000000 in
theorem SameSpans_any (A B : Option Addr) (n cap m cap2 : Nat) (l l2 : List Span) (w : World) (h : Sl spanC 2 w All A n cap l) (h2 : Sl spanC 2 w All B m cap2 l2) :
    Calls Try.prog 34 #[.slice A n cap, .slice B m cap2] w fun e w' => e = .returned (.bool (decide (l = l2))) ∧ ∃ q, w' = w.drewN q := by
  have hbd := h.bd
  have hlen := Lib.hid h.len
  have hlen2 := Lib.hid h2.len
  by_cases hnm : n = m
  · subst hnm
    go_enter Try.func34, Try.ntmps34
    go_wp2_with fail
    go_loopg [5] n (fun gk i wr => ∃ k q : Nat, k ≤ n ∧ n - k ≤ gk ∧ i = .int .i64 k ∧ Aside (∀ j, j < k → l[j]? = l2[j]?) ∧ wr = w.drewN q)
    case atStart => exact ⟨0, 0, Nat.zero_le _, by omega, rfl, fun j hj => absurd hj (by omega), rfl⟩
    case round =>
      obtain ⟨k, q, hk, hgk, rfl, HE, rfl⟩ := hrel
      by_cases hlt : k < n
      · obtain ⟨b, off, x, c0, c1, rfl, hx, hc, g0, g1⟩ := h.at2 hlt
        obtain ⟨hc, hw⟩ := hc
        simp only [List.cons.injEq, and_true] at hc
        obtain ⟨rfl, rfl⟩ := hc
        obtain ⟨b', off', y, d0, d1, rfl, hy, hd, e0, e1⟩ := h2.at2 hlt
        obtain ⟨hd, hw'⟩ := hd
        simp only [List.cons.injEq, and_true] at hd
        obtain ⟨rfl, rfl⟩ := hd
        have HX := Lib.hid hx
        have HY := Lib.hid hy
        clear hx hy
        have hqn := fun W => span_ne x y W
        by_cases hxy : x = y
        · have he : (decide (x ≠ y)) = false := by subst hxy; simp
          have HXY := Lib.hid hxy
          clear hxy
          go_wp2_with fail
          go_quiet (fail)
          go_wp2_with fail
          go_roundg (n - (k + 1))
          case measure => omega
          case rel =>
            refine ⟨k + 1, _, by omega, by omega, by go_num, (show Aside _ from fun j hj => ?_), rfl⟩
            by_cases e : j = k
            · subst e; rw [HX.out, HY.out, HXY.out]
            · exact HE.out j (by omega)
        · have he : (decide (x ≠ y)) = true := by simpa using hxy
          have HXY := Lib.hid hxy
          clear hxy
          go_wp2_with fail
          go_quiet (fail)
          go_wp2_with fail
          go_ret
          refine ⟨retB ?_, _, World.drewN_drewN _ _ _⟩
          symm
          rw [decide_eq_false_iff_not]
          intro hll
          subst hll
          rw [HX.out] at HY
          exact HXY.out (by have := HY.out; injection this)
      · obtain rfl : k = n := by omega
        have hll : l = l2 := by
          apply List.ext_getElem?
          intro j
          by_cases hj : j < k
          · exact HE.out j hj
          · rw [List.getElem?_eq_none (by rw [hlen.out]; omega), List.getElem?_eq_none (by rw [hlen2.out]; omega)]
        have HLL := Lib.hid hll
        clear hll
        go_wp2_with fail
        go_ret
        exact ⟨retB (by rw [decide_eq_true HLL.out]), _, rfl⟩
  · have hnm' : ((n : Int) != (m : Int)) = true := by simp; omega
    have hll : ¬ l = l2 := fun e => hnm (by rw [← hlen.out, ← hlen2.out, e])
    have HLL := Lib.hid hll
    clear hll hnm
    go_enter Try.func34, Try.ntmps34
    go_wp2_with fail
    go_ret
    exact ⟨retB (by rw [decide_eq_false HLL.out]), 0, rfl⟩

theorem Sl.ofSpans {w : World} {S : Nat → Prop} {b : Nat} {cs : Array Value} {t : TypeId} (l : List Span) (h : Blk w b cs t) (hl : l.length ≤ 1000) (hS : S b) (he : cs.toList = l.flatMap encSp) (hi : ∀ x ∈ l, InI x.frm ∧ InI x.upto) :
    Sl spanC 2 w S (some ⟨b, 0, none⟩) l.length l.length l :=
  Sl.ofBlk h l (by omega) hS fun i x hx => ⟨encSp x, ⟨rfl, hi x (List.mem_of_getElem? hx)⟩, rfl, fun j u hu => by
    have := flat_sp l i x hx j u hu
    rw [← he] at this
    simpa using this⟩

set_option maxRecDepth 100000 in
set_option maxHeartbeats 4000000 in
theorem spanBegun_any (w : World) : Calls Try.prog 30 #[] w fun e w' => e = .returned (.bool true) ∧ Below w.heap.size w w' := by
  have i0 : ∀ n : Int, 0 ≤ n → n ≤ 7 → InI n := fun n h1 h2 => .of (by omega) (by omega)
  have hM : ∀ W, Calls Try.prog 21 #[.agg #[.int .i64 0, .int .i64 2], .agg #[.int .i64 1, .int .i64 3]] W fun e w' => e = .returned (.tuple #[.bool true, .int .i64 0]) ∧ Below W.heap.size W w' := fun W =>
    Meets_any 0 2 1 3 W (i0 _ (by decide) (by decide)) (i0 _ (by decide) (by decide)) (i0 _ (by decide) (by decide)) (i0 _ (by decide) (by decide))
  have hA := fun A n cap W h => spanAdd_ins A n cap [⟨4, 5⟩] 7 1 3 W h (i0 _ (by decide) (by decide)) (i0 _ (by decide) (by decide))
  rw [show addE [⟨4, 5⟩] 7 ⟨1, 3⟩ = 0 by decide, show insSp ⟨1, 3⟩ [⟨4, 5⟩] = [⟨1, 3⟩, ⟨4, 5⟩] by decide] at hA
  have hF := fun A n cap W h => Free_any A n cap [⟨1, 3⟩, ⟨4, 5⟩] 7 W h (i0 _ (by decide) (by decide))
  rw [show calE [⟨1, 3⟩, ⟨4, 5⟩] 7 = 0 by decide, show gapsL [⟨1, 3⟩, ⟨4, 5⟩] 7 = [⟨0, 1⟩, ⟨3, 4⟩, ⟨5, 7⟩] by decide] at hF
  have hT := fun A n cap W h => spanTake_any A n cap [⟨1, 3⟩, ⟨4, 5⟩] 7 4 5 W h
  rw [show takeE [⟨1, 3⟩, ⟨4, 5⟩] 7 ⟨4, 5⟩ = 0 by decide, show delSp [⟨1, 3⟩, ⟨4, 5⟩] ⟨4, 5⟩ = [⟨1, 3⟩] by decide] at hT
  have hC := fun W => spanCheck_any 0 1 1 W
  rw [show spanE ⟨0, 1⟩ 1 = 0 by decide] at hC
  simp only [okL_zero] at hA hF hT
  have HM := Lib.hid hM
  clear hM
  have HA := Lib.hid hA
  clear hA
  have HF := Lib.hid hF
  clear hF
  have HT := Lib.hid hT
  clear hT
  have HC := Lib.hid hC
  clear hC
  go_enter Try.func30, Try.ntmps30
  go_wp2_with fail
  refine (HM.out _).mono ?_
  rintro e w1 ⟨rfl, hb⟩
  have hL := sl_span w1 All 4 5 45 (i0 _ (by decide) (by decide)) (i0 _ (by decide) (by decide)) trivial
  replace hb := hb.alloc hb.size (.cells #[.int .i64 4, .int .i64 5] 45)
  clear i0
  go_wp2_with fail
  refine (HA.out _ _ _ _ hL).mono ?_
  rintro e w2 ⟨v2, xs2, rfl, ho2, hb2⟩
  obtain ⟨A2, n2, c2, rfl, hs2⟩ := ho2.sl spanC_good
  replace hs2 := hs2.all spanC_good (by omega)
  obtain rfl : n2 = 2 := hs2.len.symm
  replace hb := hb.trans (hb2.mono hb.size)
  clear hb2 ho2 hL
  go_wp2_with fail
  refine (HF.out _ _ _ _ hs2).mono ?_
  rintro e w3 ⟨v3, xs3, rfl, ho3, hb2⟩
  obtain ⟨A3, n3, c3, rfl, hs3⟩ := ho3.sl spanC_good
  replace hs3 := hs3.all spanC_good (by omega)
  obtain rfl : n3 = 3 := hs3.len.symm
  replace hb := hb.trans (hb2.mono hb.size)
  replace hs2 := hs2.bel hb2
  clear hb2 ho3
  go_wp2_with fail
  refine (HT.out _ _ _ _ hs2).mono ?_
  rintro e w4 ⟨v4, xs4, rfl, ho4, hb2⟩
  obtain ⟨A4, n4, c4, rfl, hs4⟩ := ho4.sl spanC_good
  replace hs4 := hs4.all spanC_good (by omega)
  obtain rfl : n4 = 1 := hs4.len.symm
  replace hb := hb.trans (hb2.mono hb.size)
  replace hs3 := hs3.bel hb2
  clear hb2 ho4 hs2
  go_wp2_with fail
  refine (HC.out _).mono ?_
  rintro e w5 ⟨rfl, hb2⟩
  replace hb := hb.trans (hb2.mono hb.size)
  replace hs3 := hs3.bel hb2
  clear hb2 hs4
  have hblk := Blk.new w5 #[.int .i64 0, .int .i64 1, .int .i64 3, .int .i64 4, .int .i64 5, .int .i64 7] 45
  have hsl := Sl.ofSpans (S := All) [⟨0, 1⟩, ⟨3, 4⟩, ⟨5, 7⟩] hblk (by decide) trivial rfl (by intro x hx; simp at hx; rcases hx with rfl | rfl | rfl <;> exact ⟨.of (by decide) (by decide), .of (by decide) (by decide)⟩)
  have hbo := bel1 w5 (.cells #[.int .i64 0, .int .i64 1, .int .i64 3, .int .i64 4, .int .i64 5, .int .i64 7] 45)
  have hsm := SameSpans_any _ _ _ _ _ _ _ _ _ (hs3.bel hbo) hsl
  replace hb := hb.trans (hbo.mono hb.size)
  rw [show decide (([⟨0, 1⟩, ⟨3, 4⟩, ⟨5, 7⟩] : List Span) = [⟨0, 1⟩, ⟨3, 4⟩, ⟨5, 7⟩]) = true by decide] at hsm
  simp only [List.length_cons, List.length_nil, Nat.zero_add, Nat.reduceAdd] at hsm
  have HSM := Lib.hid hsm
  clear hsm
  clear hblk hsl hbo hs3
  go_wp2_with fail
  refine HSM.out.mono ?_
  rintro e w6 ⟨rfl, q, rfl⟩
  go_wp2_with fail
  go_ret
  exact ⟨rfl, below_drewN hb _⟩
end Go.Proofs.Ytpodgidamoiakaa
