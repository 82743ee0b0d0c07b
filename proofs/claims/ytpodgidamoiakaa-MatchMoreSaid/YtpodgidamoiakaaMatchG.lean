/-
  Plain laws on matchings: who finds somebody, and what is left; no program in sight.
-/
import Derived.Test.YtpodgidamoiakaaShipG
namespace Go.Proofs.Ytpodgidamoiakaa

-- lists
theorem len_sub {α : Type} [DecidableEq α] : ∀ (l1 l2 : List α), l1.Nodup → (∀ x ∈ l1, x ∈ l2) → l1.length ≤ l2.length
  | [], _, _, _ => Nat.zero_le _
  | x :: l1, l2, hn, hs => by
    have hx := hs x (by simp)
    rw [List.nodup_cons] at hn
    have h1 := len_sub l1 (l2.erase x) hn.2 (fun y hy => (List.mem_erase_of_ne (fun e => hn.1 (by rw [← e]; exact hy))).2 (hs y (by simp [hy])))
    rw [List.length_erase_of_mem hx] at h1
    have := List.length_pos_of_mem hx
    rw [List.length_cons]; omega
theorem getD_setI (m : List Int) (i j : Nat) (v d : Int) (hi : i < m.length) : (m.set i v).getD j d = if i = j then v else m.getD j d := by
  simp only [List.getD_eq_getElem?_getD, List.getElem?_set]
  by_cases h : i = j
  · subst h; simp [hi]
  · simp [h]
theorem getD_setB (m : List Bool) (i j : Nat) (v d : Bool) (hi : i < m.length) : (m.set i v).getD j d = if i = j then v else m.getD j d := by
  simp only [List.getD_eq_getElem?_getD, List.getElem?_set]
  by_cases h : i = j
  · subst h; simp [hi]
  · simp [h]
theorem count_set : ∀ (m : List Int) (i : Nat) (v x : Int), i < m.length → (m.set i v).count x + (if m.getD i 0 = x then 1 else 0) = m.count x + (if v = x then 1 else 0)
  | [], i, v, x, h => absurd h (by simp)
  | y :: m, 0, v, x, _ => by
    simp only [List.set_cons_zero, List.count_cons, List.getD_cons_zero, beq_iff_eq]
    omega
  | y :: m, i + 1, v, x, h => by
    have := count_set m i v x (by simpa using h)
    simp only [List.set_cons_succ, List.count_cons, List.getD_cons_succ]
    omega
def unmet (m : List Bool) : Nat := m.count false
theorem unmet_set : ∀ (m : List Bool) (i : Nat), m.getD i true = false → unmet (m.set i true) + 1 = unmet m
  | [], i, h => by simp at h
  | y :: m, 0, h => by
    simp only [List.getD_cons_zero] at h
    subst h
    simp [unmet]
  | y :: m, i + 1, h => by
    have := unmet_set m i (by simpa using h)
    unfold unmet at *
    simp only [List.set_cons_succ, List.count_cons]
    omega

-- one that looks for somebody; N: whom each left one may have
def Shut (N : Nat → List Nat) (has : List Int) (D : Nat → Prop) : Prop := ∀ d, D d → ∀ r ∈ N d, ∃ d' : Nat, has.getD r (-1) = d' ∧ D d'

structure Found (N : Nat → List Nat) (has : List Int) (met : List Bool) (has' : List Int) (met' : List Bool) (l : Nat) : Prop where
  len : has'.length = has.length
  lenM : met'.length = met.length
  cnt : ∀ x : Nat, has'.count (x : Int) = has.count (x : Int) + (if x = l then 1 else 0)
  free : has'.count (-1) + 1 = has.count (-1)
  edge : ∀ r, r < has.length → has'.getD r (-1) = has.getD r (-1) ∨ ∃ d : Nat, has'.getD r (-1) = d ∧ r ∈ N d
  kept : ∀ r, met.getD r true = true → has'.getD r (-1) = has.getD r (-1)
  shut : ∀ D, Shut N has D → ¬ D l ∧ ∀ (r d : Nat), has.getD r (-1) = d → D d → has'.getD r (-1) = d
structure Failed (N : Nat → List Nat) (has : List Int) (ns : List Nat) (met met' : List Bool) : Prop where
  lenM : met'.length = met.length
  mono : ∀ r, met.getD r true = true → met'.getD r true = true
  kids : ∀ r ∈ ns, met'.getD r true = true
  shut : ∀ r, met'.getD r true = true → met.getD r true = false → ∃ d : Nat, has.getD r (-1) = d ∧ ∀ r' ∈ N d, met'.getD r' true = true

theorem Failed.nil (N : Nat → List Nat) (has : List Int) (met : List Bool) : Failed N has [] met met := ⟨rfl, fun _ h => h, by simp, fun r h1 h2 => by rw [h1] at h2; exact absurd h2 (by simp)⟩
theorem Failed.skip {N : Nat → List Nat} {has : List Int} {ns : List Nat} {met m1 : List Bool} (h : Failed N has ns met m1) {r : Nat} (hr : m1.getD r true = true) : Failed N has (ns ++ [r]) met m1 :=
  ⟨h.lenM, h.mono, fun x hx => by
    rcases List.mem_append.1 hx with hx | hx
    · exact h.kids x hx
    · simp only [List.mem_singleton] at hx; subst hx; exact hr, h.shut⟩
/-- One that is free is had. -/
theorem Failed.free {N : Nat → List Nat} {has : List Int} {ns : List Nat} {met m1 : List Bool} {l : Nat} (h : Failed N has ns met m1) {r : Nat} (hr : m1.getD r true = false) (hl : m1.length = has.length) (he : r ∈ N l) (hf : has.getD r (-1) = -1) :
    Found N has met (has.set r (l : Int)) (m1.set r true) l := by
  have hrl : r < has.length := by
    rw [← hl]
    by_cases h1 : r < m1.length
    · exact h1
    · rw [getD_far (by omega)] at hr; exact absurd hr (by simp)
  have h0 : has.getD r 0 = -1 := by rw [getD_at hrl] at hf ⊢; exact hf
  refine ⟨List.length_set .., by rw [List.length_set]; exact h.lenM, fun x => ?_, ?_, fun q _ => ?_, fun q hq => ?_, fun D hD => ⟨fun hDl => ?_, fun q d hq _ => ?_⟩⟩
  · have := count_set has r (l : Int) (x : Int) hrl
    rw [h0, if_neg (show ¬ (-1 : Int) = (x : Int) by omega)] at this
    by_cases hx : x = l
    · subst hx; rw [if_pos rfl] at this ⊢; omega
    · rw [if_neg (show ¬ (l : Int) = (x : Int) by omega)] at this; rw [if_neg hx]; omega
  · have := count_set has r (l : Int) (-1) hrl
    rw [h0, if_pos rfl, if_neg (show ¬ (l : Int) = -1 by omega)] at this; omega
  · rw [getD_setI _ _ _ _ _ hrl]
    by_cases hq : r = q
    · subst hq; rw [if_pos rfl]; exact .inr ⟨l, rfl, he⟩
    · rw [if_neg hq]; exact .inl rfl
  · rw [getD_setI _ _ _ _ _ hrl, if_neg (fun e => by subst e; rw [h.mono _ hq] at hr; exact absurd hr (by simp))]
  · obtain ⟨d', h1, _⟩ := hD l hDl r he
    rw [hf] at h1; omega
  · rw [getD_setI _ _ _ _ _ hrl, if_neg (fun e => by subst e; rw [hf] at hq; omega)]; exact hq
/-- One whose own one found another is had. -/
theorem Failed.swap {N : Nat → List Nat} {has has1 : List Int} {ns : List Nat} {met m1 m2 : List Bool} {l d : Nat} (h : Failed N has ns met m1) {r : Nat} (hr : m1.getD r true = false) (hl : m1.length = has.length) (he : r ∈ N l) (hf : has.getD r (-1) = (d : Int))
    (h2 : Found N has (m1.set r true) has1 m2 d) : Found N has met (has1.set r (l : Int)) m2 l := by
  have hrl : r < has.length := by
    rw [← hl]
    by_cases h1 : r < m1.length
    · exact h1
    · rw [getD_far (by omega)] at hr; exact absurd hr (by simp)
  have hr1 : r < has1.length := by rw [h2.len]; exact hrl
  have hk : has1.getD r (-1) = (d : Int) := by rw [h2.kept r (by rw [getD_setB _ _ _ _ _ (by omega)]; simp), hf]
  have h0 : has1.getD r 0 = (d : Int) := by rw [getD_at hr1] at hk ⊢; exact hk
  refine ⟨by rw [List.length_set, h2.len], by rw [h2.lenM, List.length_set]; exact h.lenM, fun x => ?_, ?_, fun q hq => ?_, fun q hq => ?_, fun D hD => ⟨fun hDl => ?_, fun q e hq hDe => ?_⟩⟩
  · have h3 := count_set has1 r (l : Int) (x : Int) hr1
    have h4 := h2.cnt x
    rw [h0] at h3
    by_cases hx : x = l <;> by_cases hy : x = d
    · rw [if_pos (by omega), if_pos (by omega)] at h3; rw [if_pos hy] at h4; rw [if_pos hx]; omega
    · rw [if_neg (by omega), if_pos (by omega)] at h3; rw [if_neg hy] at h4; rw [if_pos hx]; omega
    · rw [if_pos (by omega), if_neg (by omega)] at h3; rw [if_pos hy] at h4; rw [if_neg hx]; omega
    · rw [if_neg (by omega), if_neg (by omega)] at h3; rw [if_neg hy] at h4; rw [if_neg hx]; omega
  · have h3 := count_set has1 r (l : Int) (-1) hr1
    rw [h0, if_neg (by omega), if_neg (by omega)] at h3
    have := h2.free; omega
  · rw [getD_setI _ _ _ _ _ hr1]
    by_cases hqr : r = q
    · subst hqr; rw [if_pos rfl]; exact .inr ⟨l, rfl, he⟩
    · rw [if_neg hqr]; exact h2.edge q hq
  · have hqr : r ≠ q := fun e => by subst e; rw [h.mono _ hq] at hr; exact absurd hr (by simp)
    rw [getD_setI _ _ _ _ _ hr1, if_neg hqr]
    exact h2.kept q (by rw [getD_setB _ _ _ _ _ (by omega), if_neg hqr]; exact h.mono q hq)
  · obtain ⟨d', h3, h4⟩ := hD l hDl r he
    rw [hf] at h3
    obtain rfl : d = d' := by omega
    exact (h2.shut D hD).1 h4
  · have hqr : r ≠ q := fun e' => by
      subst e'
      rw [hf] at hq
      obtain rfl : d = e := by omega
      exact (h2.shut D hD).1 hDe
    rw [getD_setI _ _ _ _ _ hr1, if_neg hqr]
    exact (h2.shut D hD).2 q e hq hDe
/-- One whose own one found no other is met, and no more. -/
theorem Failed.more {N : Nat → List Nat} {has : List Int} {ns : List Nat} {met m1 m2 : List Bool} {d : Nat} (h : Failed N has ns met m1) {r : Nat} (hr : m1.getD r true = false) (hf : has.getD r (-1) = (d : Int))
    (h2 : Failed N has (N d) (m1.set r true) m2) : Failed N has (ns ++ [r]) met m2 := by
  have hrl : r < m1.length := by
    by_cases h1 : r < m1.length
    · exact h1
    · rw [getD_far (by omega)] at hr; exact absurd hr (by simp)
  have hm : ∀ q, m1.getD q true = true → m2.getD q true = true := fun q hq => h2.mono q (by rw [getD_setB _ _ _ _ _ hrl]; split; rfl; exact hq)
  have hrm : m2.getD r true = true := h2.mono r (by rw [getD_setB _ _ _ _ _ hrl]; simp)
  refine ⟨by rw [h2.lenM, List.length_set]; exact h.lenM, fun q hq => hm q (h.mono q hq), fun x hx => ?_, fun q hq hq0 => ?_⟩
  · rcases List.mem_append.1 hx with hx | hx
    · exact hm x (h.kids x hx)
    · simp only [List.mem_singleton] at hx; subst hx; exact hrm
  · by_cases h3 : m1.getD q true = true
    · obtain ⟨e, h4, h5⟩ := h.shut q h3 hq0
      exact ⟨e, h4, fun x hx => hm x (h5 x hx)⟩
    · by_cases hqr : r = q
      · subst hqr; exact ⟨d, hf, h2.kids⟩
      · exact h2.shut q hq (by rw [getD_setB _ _ _ _ _ hrl, if_neg hqr]; simpa using h3)
end Go.Proofs.Ytpodgidamoiakaa
