/-
  Spans: plain laws: each leg is of one span or of one that is free; free ones lie apart.
-/
import Derived.Test.YtpodgidamoiakaaSpanH
namespace Go.Proofs.Ytpodgidamoiakaa
open Go.RowKit Go.Shelf

def inLeg (i : Int) (x : Span) : Bool := decide (x.frm ≤ i) && decide (i < x.upto)
def cnt (i : Int) (l : List Span) : Int := ((l.filter (inLeg i)).length : Int)
theorem cnt_app (i : Int) (l m : List Span) : cnt i (l ++ m) = cnt i l + cnt i m := by simp [cnt]
theorem cnt_one (i : Int) (x : Span) : cnt i [x] = if x.frm ≤ i ∧ i < x.upto then 1 else 0 := by
  unfold cnt inLeg
  by_cases h1 : x.frm ≤ i <;> by_cases h2 : i < x.upto <;> simp [h1, h2]
theorem cnt_nil (i : Int) : cnt i [] = 0 := rfl
theorem cnt_gap (i a b : Int) : cnt i (gap a b) = if a ≤ i ∧ i < b then 1 else 0 := by
  unfold gap
  split
  · rw [cnt_one]
  · rw [cnt_nil, if_neg (by omega)]
theorem cnt_succ {l : List Span} {k : Nat} {x : Span} (i : Int) (h : l[k]? = some x) : cnt i (l.take (k + 1)) = cnt i (l.take k) + if x.frm ≤ i ∧ i < x.upto then 1 else 0 := by rw [take_snoc h, cnt_app, cnt_one]
theorem cnt_bd (i : Int) (l : List Span) : 0 ≤ cnt i l ∧ cnt i l ≤ (l.length : Int) := by
  unfold cnt
  have := List.length_filter_le (inLeg i) l
  omega

theorem gaps_inv (l : List Span) : (∀ x ∈ l, 0 ≤ x.frm ∧ x.frm < x.upto) → l.Pairwise (fun x y => x.upto ≤ y.frm) →
    0 ≤ (gapsS l).2 ∧ (∀ x ∈ l, x.upto ≤ (gapsS l).2) ∧ (∀ i, 0 ≤ i → cnt i l + cnt i (gapsS l).1 = if i < (gapsS l).2 then 1 else 0) ∧
    (gapsS l).1.Pairwise (fun x y => x.upto < y.frm) ∧ (∀ y ∈ (gapsS l).1, y.upto < (gapsS l).2) ∧ ((gapsS l).2 = 0 ∨ ∃ x ∈ l, (gapsS l).2 = x.upto) := by
  have key : ∀ n (l : List Span), l.length = n → (∀ x ∈ l, 0 ≤ x.frm ∧ x.frm < x.upto) → l.Pairwise (fun x y => x.upto ≤ y.frm) →
    0 ≤ (gapsS l).2 ∧ (∀ x ∈ l, x.upto ≤ (gapsS l).2) ∧ (∀ i, 0 ≤ i → cnt i l + cnt i (gapsS l).1 = if i < (gapsS l).2 then 1 else 0) ∧
    (gapsS l).1.Pairwise (fun x y => x.upto < y.frm) ∧ (∀ y ∈ (gapsS l).1, y.upto < (gapsS l).2) ∧ ((gapsS l).2 = 0 ∨ ∃ x ∈ l, (gapsS l).2 = x.upto) := by
    intro n
    induction n with
    | zero =>
      intro l hl _ _
      obtain rfl : l = [] := List.length_eq_zero_iff.1 hl
      refine ⟨by decide, by simp, fun i hi => ?_, List.Pairwise.nil, by simp [gapsS], .inl rfl⟩
      show cnt i [] + cnt i [] = if i < 0 then 1 else 0
      rw [cnt_nil, if_neg (by omega)]; rfl
    | succ n ih =>
      intro l hl hm hp
      rcases List.eq_nil_or_concat l with rfl | ⟨l', x, rfl⟩
      · simp at hl
      · rw [List.concat_eq_append] at *
        rw [List.pairwise_append] at hp
        have hx := hm x (by simp)
        obtain ⟨h1, h2, h3, h4, h5, h6⟩ := ih l' (by simp at hl; omega) (fun y hy => hm y (List.mem_append_left _ hy)) hp.1
        have hle : (gapsS l').2 ≤ x.frm := by
          rcases h6 with e | ⟨y, hy, e⟩
          · omega
          · rw [e]; exact hp.2.2 y hy x (by simp)
        rw [gapsS_snoc]
        unfold gapF
        simp only
        refine ⟨by omega, fun y hy => ?_, fun i hi => ?_, ?_, fun y hy => ?_, .inr ⟨x, by simp, rfl⟩⟩
        · rcases List.mem_append.1 hy with hy | hy
          · have := h2 y hy; omega
          · simp only [List.mem_singleton] at hy; subst hy; omega
        · have hi3 := h3 i hi
          rw [cnt_app, cnt_app, cnt_one, cnt_gap]
          by_cases e1 : i < (gapsS l').2
          · rw [if_pos e1] at hi3
            rw [if_neg (by omega), if_neg (by omega), if_pos (by omega)]; omega
          · rw [if_neg e1] at hi3
            by_cases e2 : i < x.frm
            · rw [if_neg (by omega), if_pos (by omega), if_pos (by omega)]; omega
            · by_cases e3 : i < x.upto
              · rw [if_pos (by omega), if_neg (by omega), if_pos e3]; omega
              · rw [if_neg (by omega), if_neg (by omega), if_neg e3]; omega
        · rw [List.pairwise_append]
          refine ⟨h4, by unfold gap; split <;> simp, fun y hy z hz => ?_⟩
          unfold gap at hz
          split at hz
          · simp only [List.mem_singleton] at hz; subst hz; exact h5 y hy
          · simp at hz
        · rcases List.mem_append.1 hy with hy | hy
          · have := h5 y hy; omega
          · unfold gap at hy
            split at hy
            · simp only [List.mem_singleton] at hy; subst hy; show x.frm < x.upto; omega
            · simp at hy
  exact key l.length l rfl
theorem free_cnt {l : List Span} {legs : Int} (h : CalOk l legs) {i : Int} (h0 : 0 ≤ i) (h1 : i < legs) : cnt i l + cnt i (gapsL l legs) = 1 := by
  obtain ⟨g1, g2, g3, g4, g5, g6⟩ := gaps_inv l (fun x hx => ⟨(cal_mem h hx).1, (cal_mem h hx).2.1⟩) (cal_pair h)
  have := g3 i h0
  unfold gapsL
  rw [cnt_app, cnt_gap]
  by_cases e : i < (gapsS l).2
  · rw [if_pos e] at this; rw [if_neg (by omega)]; omega
  · rw [if_neg e] at this; rw [if_pos (by omega)]; omega
theorem free_apart {l : List Span} {legs : Int} (h : CalOk l legs) : (gapsL l legs).Pairwise (fun x y => x.upto < y.frm) := by
  obtain ⟨g1, g2, g3, g4, g5, g6⟩ := gaps_inv l (fun x hx => ⟨(cal_mem h hx).1, (cal_mem h hx).2.1⟩) (cal_pair h)
  unfold gapsL
  rw [List.pairwise_append]
  refine ⟨g4, by unfold gap; split <;> simp, fun y hy z hz => ?_⟩
  unfold gap at hz
  split at hz
  · simp only [List.mem_singleton] at hz; subst hz; exact g5 y hy
  · simp at hz
theorem gaps_len {l : List Span} {legs : Int} : (gapsL l legs).length ≤ l.length + 1 := by
  unfold gapsL
  have := gapsS_len l
  have := gap_len (gapsS l).2 legs
  rw [List.length_append]; omega
end Go.Proofs.Ytpodgidamoiakaa
