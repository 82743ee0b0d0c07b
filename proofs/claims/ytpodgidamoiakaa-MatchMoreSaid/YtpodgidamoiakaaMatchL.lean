/-
  Matchings: the program checks a graph.
-/
import Derived.Test.YtpodgidamoiakaaMatchK
namespace Go.Proofs.Ytpodgidamoiakaa
open Go.RowKit Go.Shelf Go.Maps

theorem side_any (n : Int) (w : World) : Calls Try.prog 76 #[.int .i64 n] w fun e w' => e = .returned (.bool (betB n 0 16)) ∧ w' = w := by
  go_enter Try.func76, Try.ntmps76
  by_cases h0 : 0 ≤ n <;> by_cases h1 : n ≤ 16
  · rw [betB_true h0 h1]
    go_wp2_with fail
    go_ret
    exact ⟨rfl, rfl⟩
  · rw [betB_false (by omega)]
    go_wp2_with fail
    go_ret
    exact ⟨rfl, rfl⟩
  · rw [betB_false (by omega)]
    go_wp2_with fail
    go_ret
    exact ⟨rfl, rfl⟩
  · rw [betB_false (by omega)]
    go_wp2_with fail
    go_ret
    exact ⟨rfl, rfl⟩

set_option maxRecDepth 100000 in
set_option maxHeartbeats 4000000 in
theorem CheckM_any (left right : Int) (A : Option Addr) (n cap : Nat) (l : List Edg) (w : World) (h : Sl edgC 2 w All A n cap l) :
    Calls Try.prog 40 #[.int .i64 left, .int .i64 right, .slice A n cap] w fun e w' => e = .returned (.int .i64 (grE left right l)) ∧ Below w.heap.size w w' := by
  have hmm := @run_makeMap Try.prog
  have hbd := h.bd
  have hle := h.le
  have hmx := h.max
  obtain ⟨r, hr⟩ : ∃ r, r = grE left right l := ⟨_, rfl⟩
  rw [← hr]
  have HSL := Lib.hid h
  unfold grE at hr
  rw [h.len] at hr
  have HR := Lib.hid hr
  clear hr h
  have hb1 := fun W => side_any left W
  have hb2 := fun W => side_any right W
  go_enter Try.func40, Try.ntmps40
  cases b1 : betB left 0 16
  · rw [b1] at hb1
    have hr : r = 3 := by rw [HR.out, if_pos (by unfold sidesB; rw [b1]; rfl)]
    subst hr
    clear b1
    go_wp2_with fail
    refine (hb1 _).mono ?_
    rintro e w9 ⟨rfl, rfl⟩
    go_wp2_with fail
    go_ret
    exact ⟨rfl, Below.refl _ _⟩
  rw [b1] at hb1
  go_wp2_with fail
  refine (hb1 _).mono ?_
  rintro e w9 ⟨rfl, rfl⟩
  cases b2 : betB right 0 16
  · rw [b2] at hb2
    have hr : r = 3 := by rw [HR.out, if_pos (by unfold sidesB; rw [b1, b2]; rfl)]
    subst hr
    clear b1 b2
    go_wp2_with fail
    refine (hb2 _).mono ?_
    rintro e w9 ⟨rfl, rfl⟩
    go_wp2_with fail
    go_ret
    exact ⟨rfl, Below.refl _ _⟩
  rw [b2] at hb2
  have HR2 := Lib.hid (show r = firstE (edgE left right l) n by rw [HR.out, if_neg (by unfold sidesB; rw [b1, b2]; simp)])
  clear b1 b2 HR
  go_wp2_with fail
  refine (hb2 _).mono ?_
  rintro e w8 ⟨rfl, rfl⟩
  go_wp2_with fail
  go_loopg [21] n (fun gk i wr => ∃ k : Nat, k ≤ n ∧ n - k ≤ gk ∧ i = .int .i64 k ∧ Aside (firstE (edgE left right l) k = 0) ∧ Tally Try.prog wr 70 3 w8.heap.size k (cntE (l.take k)) ∧ Below w8.heap.size w8 wr)
  case atStart => exact ⟨0, Nat.zero_le _, by omega, rfl, rfl, by rw [List.take_zero, cntE_nil]; exact Tally.made _ _ _ _, (Below.refl _ _).alloc (Nat.le_refl _) _⟩
  case round =>
    obtain ⟨k, hk, hgk, rfl, HA, hT, hb⟩ := hrel
    by_cases hlt : k < n
    · obtain ⟨b, off, x, c0, c1, rfl, hx, hcs, e0, e1⟩ := (HSL.out.bel hb).at2 hlt
      obtain ⟨hcs, ix, iy⟩ := hcs
      simp only [List.cons.injEq, and_true] at hcs
      obtain ⟨rfl, rfl⟩ := hcs
      have HV := Lib.hid (edgE_at (left := left) (right := right) hx)
      have hBl := hT.lt
      have hs8 := hb.size
      obtain ⟨W4, hW4⟩ : ∃ W4, W4 = wr.alloc (.cells #[.int .i64 x.lft, .int .i64 x.rgt] 70) := ⟨_, rfl⟩
      have hb4 : Below wr.heap.size wr W4 := by rw [hW4]; exact bel1 _ _
      have hE4 : Blk W4 wr.heap.size #[.int .i64 x.lft, .int .i64 x.rgt] 70 := by rw [hW4]; exact blk1 _ _
      have hT4 : Tally Try.prog W4.drew 70 3 w8.heap.size k (cntE (l.take k)) := hT.bel hb4.drew
      have hB4 : Below w8.heap.size w8 W4.drew := (hb.trans (hb4.mono hb.size)).drew
      obtain ⟨q, hq⟩ : ∃ q, q = (l.take k).count x := ⟨_, rfl⟩
      have hqk : q ≤ k := by
        rw [hq]
        exact Nat.le_trans List.count_le_length (by rw [List.length_take]; omega)
      have hci : InI (((l.take k).count x : Nat) + 1 : Int) := by rw [← hq]; exact ⟨by omega, by omega⟩
      obtain ⟨st, W2, W3, hl1, hme, hl2, hst, hT3, hg2, hg3⟩ := tally_incr ix iy hT4 (show k < maxLen by omega) hci
      rw [← take_snoc hx] at hT3
      have hl3 := tally_look (x := x) ix iy hT3
      rw [take_snoc hx, List.count_append, List.count_singleton_self, ← hq] at hl3
      rw [← hq] at hl1 hme hl2 hst
      have HCN := Lib.hid (show (l.take k).contains x = decide (0 < q) by
        cases hcn : (l.take k).contains x
        · have h2 : x ∉ l.take k := fun hm => by rw [List.contains_iff_mem.2 hm] at hcn; cases hcn
          rw [hq, List.count_eq_zero.2 h2]; rfl
        · have h2 := List.contains_iff_mem.1 hcn
          rw [hq, decide_eq_true (List.count_pos_iff.2 h2)])
      have hB3 := hB4.grown hg3 (by have := hb4.size; have h2 : W4.drew.heap.size = W4.heap.size := rfl; omega) (fun j hj => by cases hj; exact Nat.le_refl _)
      have hne : some wr.heap.size ≠ some w8.heap.size := fun e => by injection e with e; omega
      have hE40 : W4.drew.cell? ⟨wr.heap.size, 0, none⟩ = some (.int .i64 x.lft) := hE4.cell rfl
      have hE41 : W4.drew.cell? ⟨wr.heap.size, 1, none⟩ = some (.int .i64 x.rgt) := hE4.cell rfl
      have hEl : wr.heap.size < W4.drew.heap.size := hE4.lt
      have mv : ∀ (W : World), W4.drew.grownBy W (some w8.heap.size) → ∀ j, W.cell? ⟨wr.heap.size, j, none⟩ = W4.drew.cell? ⟨wr.heap.size, j, none⟩ := fun W hg j => World.cell?_of_block (a := ⟨wr.heap.size, j, none⟩) (hg.block _ hEl hne)
      have hE20 := (mv W2 hg2 0).trans hE40
      have hE21 := (mv W2 hg2 1).trans hE41
      have hE30 := (mv W3 hg3 0).trans hE40
      have hE31 := (mv W3 hg3 1).trans hE41
      have HT3 := Lib.hid hT3
      have HB3 := Lib.hid hB3
      have hst' : (Instr.entryStore 106 (.map (some w8.heap.size)) (.int .i64 st) (.int .i64 ((q : Int) + 1))).run Try.prog W2 = .ok () W3 := hst
      have hme' : (Instr.mapEntry 106 (.map (some w8.heap.size)) (.agg #[.int .i64 x.lft, .int .i64 x.rgt])).run Try.prog W4.drew = .ok (.tuple #[.int .i64 q, .int .i64 st]) W2 := hme
      have hl1' : (Instr.lookup 106 (.map (some w8.heap.size)) (.agg #[.int .i64 x.lft, .int .i64 x.rgt]) false).run Try.prog W4.drew = .ok (.int .i64 q) W4.drew := hl1
      have hl2' : (Instr.lookup 106 (.map (some w8.heap.size)) (.agg #[.int .i64 x.lft, .int .i64 x.rgt]) false).run Try.prog W2 = .ok (.int .i64 q) W2 := hl2
      have hl3' : (Instr.lookup 106 (.map (some w8.heap.size)) (.agg #[.int .i64 x.lft, .int .i64 x.rgt]) false).run Try.prog W3 = .ok (.int .i64 ((q : Int) + 1)) W3 := hl3
      have hwq : IntKind.i64.wrap ((q : Int) + 1) = (q : Int) + 1 := by rw [IntKind.wrap_i64]; omega
      clear hx hq hl1 hme hl2 hst hl3 hT3 hB3 hT4 hB4 hg2 hg3 hT hb mv hE4 hb4 hci ix iy
      go_upto_region 7 with (fail)
      rw [← hW4]
      clear hW4
      go_cut [21] (fun i wx => i = .int .i64 k ∧ W3 = wx)
      case first =>
        go_region_with (fail)
        all_goals
          go_wp2_with fail
          go_meet
          exact ⟨rfl, rfl⟩
      obtain ⟨rfl, hw3⟩ := hcut
      subst hw3
      clear hl1' hme' hl2' hst' hE20 hE21 hE40 hE41
      by_cases hbad : x.lft < 0 ∨ left ≤ x.lft ∨ x.rgt < 0 ∨ right ≤ x.rgt
      · have hr : r = 3 := by rw [HR2.out, firstE_at HA (by rw [HV.out, if_pos (inE_false hbad)]; decide) hlt, HV.out, if_pos (inE_false hbad)]
        subst hr
        by_cases f1 : x.lft < 0
        · clear hbad
          go_wp2_with fail
          go_ret
          exact ⟨rfl, HB3.out⟩
        · by_cases f2 : left ≤ x.lft
          · clear hbad
            go_wp2_with fail
            go_ret
            exact ⟨rfl, HB3.out⟩
          · by_cases f3 : x.rgt < 0
            · clear hbad
              go_wp2_with fail
              go_ret
              exact ⟨rfl, HB3.out⟩
            · have f4 : right ≤ x.rgt := by omega
              clear hbad
              go_wp2_with fail
              go_ret
              exact ⟨rfl, HB3.out⟩
      · have f1 : ¬ x.lft < 0 := by omega
        have f2 : ¬ left ≤ x.lft := by omega
        have f3 : ¬ x.rgt < 0 := by omega
        have f4 : ¬ right ≤ x.rgt := by omega
        clear hbad
        have HV2 := Lib.hid (show edgE left right l k = if 0 < q then 6 else 0 by
          rw [HV.out, if_neg (by rw [inE_true f1 f2 f3 f4]; simp), HCN.out]
          by_cases h0 : 0 < q
          · rw [decide_eq_true h0, if_pos rfl, if_pos h0]
          · rw [decide_eq_false h0, if_neg (by simp), if_neg h0])
        clear HV
        by_cases h0 : 0 < q
        · have h6 : edgE left right l k = 6 := by rw [HV2.out, if_pos h0]
          have hr : r = 6 := by rw [HR2.out, firstE_at HA (by rw [h6]; decide) hlt, h6]
          subst hr
          have hq1 : (1 : Int) < (q : Int) + 1 := by omega
          clear h6
          go_wp2_with fail
          go_ret
          exact ⟨rfl, HB3.out⟩
        · have HN := Lib.hid (show edgE left right l k = 0 by rw [HV2.out, if_neg h0])
          have hq1 : ¬ (1 : Int) < (q : Int) + 1 := by omega
          clear h0
          go_wp2_with fail
          go_roundg (n - (k + 1))
          case measure => omega
          case rel => exact ⟨k + 1, by omega, by omega, by go_num, (show Aside _ from firstE_succ HA HN.out), HT3.out, HB3.out⟩
    · obtain rfl : k = n := by omega
      have hr : r = 0 := by rw [HR2.out]; exact HA
      subst hr
      have HB := Lib.hid hb
      clear hb hT
      go_wp2_with fail
      go_ret
      exact ⟨rfl, HB.out⟩
end Go.Proofs.Ytpodgidamoiakaa
