/-
  Counts: the laws' helper countBegun; plain laws on counts.
-/
import Derived.Test.YtehebngkjfjkbaaCountE
import Derived.Test.YtehebngkjfjkbaaFolioJ
namespace Go.Proofs.Ytehebngkjfjkbaa
open Go.RowKit Go.Shelf

/-- A block that holds a span. -/
def SpanAt (w : World) (b : Nat) (x y : Int) : Prop := w.heap[b]? = some (.cells #[.int .i64 x, .int .i64 y] 40 (0, 0))
theorem SpanAt.c0 {w : World} {b : Nat} {x y : Int} (h : SpanAt w b x y) : w.cell? ⟨b, 0, none⟩ = some (.int .i64 x) := cell_of_blk h rfl
theorem SpanAt.c1 {w : World} {b : Nat} {x y : Int} (h : SpanAt w b x y) : w.cell? ⟨b, 1, none⟩ = some (.int .i64 y) := cell_of_blk h rfl
theorem SpanAt.below {w w' : World} {b : Nat} {x y : Int} (h : SpanAt w b x y) (hb : Below w.heap.size w w') : SpanAt w' b x y := (hb.block _ (lt_of_block h)).trans h
theorem SpanAt.new (w : World) (x y : Int) : SpanAt (w.alloc (.cells #[.int .i64 x, .int .i64 y] 40)) w.heap.size x y := blk1 _ _

theorem lit_ints (w : World) (S : Nat → Prop) (t : TypeId) (l : List Int) (hm : l.length ≤ 1000000) (hS : S w.heap.size) (h : ∀ x ∈ l, InI x) :
    Sl intC 1 (w.alloc (.cells (l.map (Value.int .i64)).toArray t)) S (some ⟨w.heap.size, 0, none⟩) l.length l.length l :=
  Sl.lit w S t _ l hm hS fun i x hx => ⟨[.int .i64 x], ⟨rfl, h x (List.mem_of_getElem? hx)⟩, rfl, fun j u hu => by
    rcases j with _ | j
    · simp at hu; subst hu; simp [hx]
    · simp at hu⟩

/-- What fits is just what the peak leaves room for. -/
theorem fits_peak {l : List Int} {legs : Int} {s : Span} {m most : Int} (h : readyE l legs s m = 0) : fitsB l s m most = decide (peakV l s + m ≤ most) := by
  obtain ⟨g1, g2, g3, g4, g5, g6, g7, g8, g9⟩ := ready_ok h
  have hne : seg l s.frm s.upto ≠ [] := by
    intro e
    have := congrArg List.length e
    unfold seg at this
    rw [List.length_take, List.length_drop, List.length_nil] at this
    omega
  have h0 : ∀ x ∈ seg l s.frm s.upto, 0 ≤ x := fun x hx => (soulsB_iff.1 (List.all_eq_true.1 g4 x (seg_mem hx))).1
  have hm := mx_mem h0 hne
  unfold fitsB peakV
  by_cases e : mx (seg l s.frm s.upto) + m ≤ most
  · rw [decide_eq_true e]
    have : (seg l s.frm s.upto).any (fun k => decide (most < k + m)) = false := by
      rw [List.any_eq_false]
      intro x hx
      have := mx_ge hx
      simp
      omega
    rw [this]; rfl
  · rw [decide_eq_false e]
    have : (seg l s.frm s.upto).any (fun k => decide (most < k + m)) = true := List.any_eq_true.2 ⟨_, hm, by simp; omega⟩
    rw [this]; rfl

theorem ready_zero {l : List Int} {legs : Int} {s : Span} {m : Int} (h : readyE l legs s m = 0) : readyE l legs s 0 = 0 := by
  unfold readyE at h ⊢
  by_cases h1 : countE l legs = 0
  · rw [if_neg (by simp [h1])] at h ⊢
    by_cases h2 : spanE s legs = 0
    · rw [if_neg (by simp [h2])]; rfl
    · rw [if_pos h2] at h; exact absurd h h2
  · rw [if_pos h1] at h; exact absurd h h1
theorem peak_bd {l : List Int} {legs : Int} {s : Span} {m : Int} (h : readyE l legs s m = 0) : -1 ≤ peakV l s ∧ peakV l s ≤ 60 := by
  obtain ⟨g1, g2, g3, g4, g5, g6, g7, g8, g9⟩ := ready_ok h
  refine ⟨mx_lo _, ?_⟩
  rcases (foldl_ge (seg l s.frm s.upto) (-1)).2.2 with e | e
  · unfold peakV mx; rw [e]; decide
  · exact (soulsB_iff.1 (List.all_eq_true.1 g4 _ (seg_mem e))).2

set_option maxHeartbeats 4000000 in
theorem countBegun_any (w : World) : Calls Try.prog 30 #[] w fun e w' => e = .returned (.bool true) ∧ Below w.heap.size w w' := by
  have i3 : ∀ x ∈ [1, 4, (2 : Int)], InI x := by intro x hx; simp at hx; exact .of (by omega) (by omega)
  have i6 : ∀ x ∈ [1, 6, (4 : Int)], InI x := by intro x hx; simp at hx; exact .of (by omega) (by omega)
  have hl := lit_ints w All 3 [1, 4, 2] (by decide) trivial i3
  have hb0 : Below w.heap.size w (w.alloc (.cells ([1, 4, (2 : Int)].map (Value.int .i64)).toArray 3)) := (Below.refl _ _).alloc (Nat.le_refl _) _
  simp only [List.map_cons, List.map_nil, List.length_cons, List.length_nil, Nat.zero_add, Nat.reduceAdd] at hl hb0
  have e1 : moreE [1, 4, 2] 3 ⟨1, 3⟩ 2 2 2 = 0 := by decide
  have e2 : moreE [1, 6, 4] 3 ⟨1, 3⟩ 2 (-2) 4 = 0 := by decide
  have e3 : fitsE [1, 4, 2] 3 ⟨0, 2⟩ 2 5 = 0 := by decide
  have e4 : peakE [1, 4, 2] 3 ⟨0, 3⟩ = 0 := by decide
  have e5 : countE [1, 4, 2] 3 = 0 := by decide
  have l1 : addAt [1, 4, 2] 1 3 2 = [1, 6, 4] := by decide
  have l2 : addAt [1, 6, 4] 1 3 (-2) = [1, 4, 2] := by decide
  have f1 : fitsB [1, 4, 2] ⟨0, 2⟩ 2 5 = false := by decide
  have p1 : peakV [1, 4, 2] ⟨0, 3⟩ = 4 := by decide
  have p2 : peakI [1, 4, 2] ⟨0, 3⟩ = 1 := by decide
  have hA := fun A n cap W h => countAdd_any A n cap [1, 4, 2] 3 1 3 2 W h
  have hT := fun A n cap W h => countTake_any A n cap [1, 6, 4] 3 1 3 2 W h
  have hF := fun A n cap W h => Fits_any A n cap [1, 4, 2] 3 0 2 2 5 W h
  have hP := fun A n cap W h => Peak_any A n cap [1, 4, 2] 3 0 3 W h
  have hC := fun A n cap W h => countCheck_any A n cap [1, 4, 2] 3 W h
  rw [e1, l1] at hA
  rw [e2, l2] at hT
  rw [e3, f1] at hF
  rw [e4, p1, p2] at hP
  rw [e5] at hC
  have HA := Lib.hid hA
  have HT := Lib.hid hT
  have HF := Lib.hid hF
  have HP := Lib.hid hP
  have HC := Lib.hid hC
  clear e1 e2 e3 e4 e5 l1 l2 f1 p1 p2 hA hT hF hP hC
  go_enter Try.func30, Try.ntmps30
  go_wp2_with fail
  refine (HA.out _ _ _ _ hl).mono ?_
  rintro e w1 ⟨v1, xs1, rfl, ho1, hb1⟩
  obtain ⟨A1, n1, c1, rfl, hs1⟩ := ho1.sl intC_good
  replace hs1 := hs1.all intC_good (by omega)
  replace hl := hl.below intC_good (by omega) hb1
  replace hb0 := hb0.trans (hb1.mono hb0.size)
  clear hb1 ho1
  go_wp2_with fail
  refine (HT.out _ _ _ _ hs1).mono ?_
  rintro e w2 ⟨v2, xs2, rfl, ho2, hb1⟩
  obtain ⟨A2, n2, c2, rfl, hs2⟩ := ho2.sl intC_good
  replace hs2 := hs2.all intC_good (by omega)
  replace hl := hl.below intC_good (by omega) hb1
  replace hs1 := hs1.below intC_good (by omega) hb1
  replace hb0 := hb0.trans (hb1.mono hb0.size)
  clear hb1 ho2
  go_wp2_with fail
  refine (HF.out _ _ _ _ hl).mono ?_
  rintro e w3 ⟨rfl, hb1⟩
  replace hl := hl.below intC_good (by omega) hb1
  replace hs1 := hs1.below intC_good (by omega) hb1
  replace hs2 := hs2.below intC_good (by omega) hb1
  replace hb0 := hb0.trans (hb1.mono hb0.size)
  clear hb1
  go_wp2_with fail
  refine (HP.out _ _ _ _ hl).mono ?_
  rintro e w4 ⟨rfl, hb1⟩
  replace hl := hl.below intC_good (by omega) hb1
  replace hs1 := hs1.below intC_good (by omega) hb1
  replace hs2 := hs2.below intC_good (by omega) hb1
  replace hb0 := hb0.trans (hb1.mono hb0.size)
  clear hb1
  go_wp2_with fail
  refine (HC.out _ _ _ _ hl).mono ?_
  rintro e w5 ⟨rfl, hb1⟩
  replace hl := hl.below intC_good (by omega) hb1
  replace hs1 := hs1.below intC_good (by omega) hb1
  replace hs2 := hs2.below intC_good (by omega) hb1
  replace hb0 := hb0.trans (hb1.mono hb0.size)
  clear hb1
  have hl6 := lit_ints w5 All 3 [1, 6, 4] (by decide) trivial i6
  have hb6 : Below w5.heap.size w5 (w5.alloc (.cells ([1, 6, (4 : Int)].map (Value.int .i64)).toArray 3)) := (Below.refl _ _).alloc (Nat.le_refl _) _
  simp only [List.map_cons, List.map_nil, List.length_cons, List.length_nil, Nat.zero_add, Nat.reduceAdd] at hl6 hb6
  replace hl := hl.below intC_good (by omega) hb6
  replace hs1 := hs1.below intC_good (by omega) hb6
  replace hs2 := hs2.below intC_good (by omega) hb6
  replace hb0 := hb0.trans (hb6.mono hb0.size)
  have d1 : decide (okL 0 [1, 6, (4 : Int)] = [1, 6, 4]) = true := by decide
  have d2 : decide (okL 0 [1, 4, (2 : Int)] = [1, 4, 2]) = true := by decide
  have hS1 := SameInts_any _ _ _ _ _ _ _ _ _ hs1 hl6
  rw [d1] at hS1
  go_wp2_with fail
  refine hS1.mono ?_
  rintro e w6 ⟨rfl, q, rfl⟩
  have hb7 := below_drewN (Below.refl (w5.alloc (.cells #[.int .i64 1, .int .i64 6, .int .i64 4] 3)).heap.size (w5.alloc (.cells #[.int .i64 1, .int .i64 6, .int .i64 4] 3))) q
  have hS2 := SameInts_any _ _ _ _ _ _ _ _ _ (hs2.below intC_good (by omega) hb7) (hl.below intC_good (by omega) hb7)
  rw [d2] at hS2
  go_wp2_with fail
  refine hS2.mono ?_
  rintro e w7 ⟨rfl, q2, rfl⟩
  go_wp2_with fail
  go_ret
  exact ⟨rfl, below_drewN hb0 _⟩
end Go.Proofs.Ytehebngkjfjkbaa
