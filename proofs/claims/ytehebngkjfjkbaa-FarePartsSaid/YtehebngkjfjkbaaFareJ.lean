/-
  Fares: plain laws: a penalty is never more than the price, and never more the earlier one cancels; of two guests the price of a span is that of its two parts.
-/
import Derived.Test.YtehebngkjfjkbaaFareG
namespace Go.Proofs.Ytehebngkjfjkbaa
open Go.RowKit Go.Shelf

theorem idxF_found {α : Type} {p : α → Bool} {l : List α} {i : Nat} {x : α} (h : l[i]? = some x) (hp : p x = true) : ∃ (k : Nat) (y : α), idxF p l = (k : Int) ∧ k ≤ i ∧ l[k]? = some y ∧ p y = true := by
  have ha := any_at h hp
  have hlt : l.findIdx p < l.length := List.findIdx_lt_length.2 (by simpa using ha)
  refine ⟨l.findIdx p, l[l.findIdx p], ?_, ?_, List.getElem?_eq_getElem hlt, List.findIdx_getElem⟩
  · unfold idxF; rw [ha]; rfl
  · rcases Nat.lt_or_ge i (l.findIdx p) with h1 | h1
    · have h2 := List.not_of_lt_findIdx h1
      have hi := (List.getElem?_eq_some_iff.1 h)
      obtain ⟨hi1, hi2⟩ := hi
      rw [hi2, hp] at h2
      simp at h2
    · exact h1
theorem idxF_nat {α : Type} {p : α → Bool} {l : List α} (h : ¬ idxF p l < 0) : ∃ (k : Nat) (y : α), idxF p l = (k : Int) ∧ l[k]? = some y ∧ p y = true := by
  cases ha : l.any p
  · rw [idxF_none ha] at h; omega
  · obtain ⟨x, hx, hp⟩ := List.any_eq_true.1 ha
    obtain ⟨i, hi⟩ := List.getElem?_of_mem hx
    obtain ⟨k, y, h1, _, h2, h3⟩ := idxF_found hi hp
    exact ⟨k, y, h1, h2, h3⟩

theorem partV_le {n h k : Int} (h0 : 0 ≤ n) (hk : h ≤ k) : partV n h ≤ partV n k := by
  have := Int.mul_le_mul_of_nonneg_left hk h0
  unfold partV; omega
theorem partV_pos {n h : Int} (h0 : 0 ≤ n) (h1 : 0 ≤ h) : 0 ≤ partV n h := by
  have := Int.mul_nonneg h0 h1
  unfold partV; omega
theorem partV_all {n h : Int} (h0 : 0 ≤ n) (h1 : h ≤ 100) : partV n h ≤ n := by
  have := partV_le h0 h1
  unfold partV at this ⊢; omega

section
variable {x : Fares} {c many p : Int} (hok : FareOk x c many) (hp : 0 ≤ p)
include hok
theorem band_part : ∀ {i j : Nat} {y z : Band}, i ≤ j → x.bands[i]? = some y → x.bands[j]? = some z → z.part ≤ y.part := by
  intro i j y z hij
  induction j generalizing z with
  | zero => intro hy hz; obtain rfl : i = 0 := by omega
            rw [hy] at hz; injection hz with hz; rw [hz]; exact Int.le_refl _
  | succ j ih =>
    intro hy hz
    by_cases e : i = j + 1
    · subst e; rw [hy] at hz; injection hz with hz; rw [hz]; exact Int.le_refl _
    · have hj : j < x.bands.length := by have := (List.getElem?_eq_some_iff.1 hz).1; omega
      have h1 := ih (z := x.bands[j]) (by omega) hy (List.getElem?_eq_getElem hj)
      have h2 := (hok.ord j _ _ (List.getElem?_eq_getElem hj) hz).2
      omega
include hp
theorem late_bd (d : Int) : 0 ≤ lateV x p d ∧ lateV x p d ≤ p := by
  unfold lateV
  by_cases h : lateI x d < 0
  · rw [if_pos h]; omega
  · rw [if_neg h]
    obtain ⟨k, y, h1, h2, _⟩ := idxF_nat h
    rw [show lateI x d = (k : Int) from h1, Int.toNat_natCast, h2, Option.getD_some]
    have hb := hok.band y (List.mem_of_getElem? h2)
    exact ⟨partV_pos hp hb.2.2.1, partV_all hp hb.2.2.2⟩
theorem late_mono {d e : Int} (hde : d ≤ e) : lateV x p e ≤ lateV x p d := by
  by_cases h : lateI x e < 0
  · have := (late_bd hok hp d).1
    rw [lateV, if_pos h]; exact this
  · obtain ⟨j, z, h1, h2, h3⟩ := idxF_nat h
    obtain ⟨i, y, g1, g2, g3, _⟩ := idxF_found (p := fun b : Band => decide (d ≤ b.days)) h2 (by simp at h3 ⊢; omega)
    unfold lateV
    rw [show lateI x e = (j : Int) from h1, show lateI x d = (i : Int) from g1, if_neg (by omega), if_neg (by omega), Int.toNat_natCast, Int.toNat_natCast, h2, g3]
    exact partV_le hp (band_part hok g2 g3 h2)
end

theorem pen_ok {x : Fares} {c g p d : Int} (h : penE x c g p d = 0) : payE x c g p = 0 ∧ 0 ≤ d := by
  unfold penE at h
  by_cases e : payE x c g p = 0
  · rw [if_neg (by simp [e])] at h
    refine ⟨e, ?_⟩
    by_cases q : d < 0
    · rw [if_pos q] at h; omega
    · omega
  · rw [if_pos e] at h; exact absurd h e
theorem pen_zero {x : Fares} {c g p d : Int} (h : payE x c g p = 0) (hd : 0 ≤ d) : penE x c g p d = 0 := by
  unfold penE; rw [if_neg (by simp [h]), if_neg (by omega)]

theorem price_zero {x : Fares} {c many cat : Int} {s s' : Span} {g g' : Int} (h : priceE x c many cat s g = 0) (h1 : 0 ≤ s'.frm) (h2 : s'.frm < s'.upto) (h3 : s'.upto ≤ many) (h4 : 1 ≤ g') (h5 : g' ≤ 4) : priceE x c many cat s' g' = 0 := by
  obtain ⟨hok, c0, c1, _⟩ := price_ok h
  have hf : fareE x c many = 0 := by
    by_cases e : fareE x c many = 0
    · exact e
    · unfold priceE at h; rw [if_pos e] at h; exact h
  have hm := hok.mr
  have hl : legsB many = true := betB_true hm.1 hm.2
  unfold priceE
  rw [if_neg (by simp [hf]), if_neg (by rw [betB_true c0 (by omega)]; simp)]
  have : spanE s' many = 0 := by
    unfold spanE
    rw [if_neg (by rw [hl]; simp; omega), if_neg (by omega)]
  rw [if_neg (by simp [this]), betB_true h4 h5]; rfl

theorem seg_split {l : List Int} {a b c : Nat} (h : a ≤ b) (h2 : b ≤ c) : seg l a c = seg l a b ++ seg l b c := by
  unfold seg
  simp only [Int.toNat_natCast]
  rw [show c - a = (b - a) + (c - b) by omega, List.take_add, List.drop_drop, show a + (b - a) = b by omega]
end Go.Proofs.Ytehebngkjfjkbaa
