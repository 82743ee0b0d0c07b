/-
  Words, laws and contracts: Elem.
-/
import Derived.Test.YtoilcdgpeilgaaaGreatBun2
import Derived.Test.YtoilcdgpeilgaaaGreatBun3
import Derived.Deep.MidRow
set_option linter.unusedSimpArgs false
set_option linter.unusedVariables false
namespace Go.Proofs.YtoilcdgpeilgaaaGreat
open Go.RowKit Go.Shelf
theorem set_put (v : Value) (r cur : List Value) (o : Nat) (ho : o < cur.length) : (cur.set o v).take (o + 1) ++ r ++ (cur.set o v).drop (o + 1 + r.length) = cur.take o ++ (v :: r) ++ cur.drop (o + (r.length + 1)) := by
  apply List.ext_getElem?
  intro i
  simp only [List.getElem?_append, List.length_append, List.length_take, List.length_set, List.getElem?_take, List.getElem?_set, List.getElem?_drop, List.length_cons]
  rcases Nat.lt_trichotomy i o with h | h | h
  · have h1 : i < min (o + 1) cur.length := by omega
    have h2 : i < min o cur.length := by omega
    have h3 : i < min (o + 1) cur.length + r.length := by omega
    have h4 : i < min o cur.length + (r.length + 1) := by omega
    have h5 : i < o + 1 := by omega
    have h6 : ¬ o = i := by omega
    simp only [h1, h2, h3, h4, h5, h6, h, if_true, if_false]
  · subst h
    have h1 : i < min (i + 1) cur.length := by omega
    have h2 : ¬ i < min i cur.length := by omega
    have h3 : i < min (i + 1) cur.length + r.length := by omega
    have h4 : i < min i cur.length + (r.length + 1) := by omega
    have h5 : i < i + 1 := by omega
    have h6 : i - min i cur.length = 0 := by omega
    simp only [h1, h2, h3, h4, h5, h6, ho, if_true, if_false, List.getElem?_cons_zero]
  · have h1 : ¬ i < min (o + 1) cur.length := by omega
    have h2 : ¬ i < min o cur.length := by omega
    have h6 : ¬ o = i := by omega
    have e1 : min (o + 1) cur.length = o + 1 := by omega
    have e2 : min o cur.length = o := by omega
    simp only [h1, h2, h6, if_false]
    rw [e1, e2]
    by_cases h3 : i < o + 1 + r.length
    · have h4 : i < o + (r.length + 1) := by omega
      simp only [h3, h4, if_true]
      rw [show i - o = (i - (o + 1)) + 1 by omega, List.getElem?_cons_succ]
    · have h4 : ¬ i < o + (r.length + 1) := by omega
      simp only [h3, h4, if_false]
      have e3 : ¬ o = o + 1 + r.length + (i - (o + 1 + r.length)) := by omega
      simp only [e3, if_false]
      rw [show o + 1 + r.length + (i - (o + 1 + r.length)) = o + (r.length + 1) + (i - (o + (r.length + 1))) by omega]
theorem Blk.setCells {t : TypeId} {g : Nat} : ∀ (vs : List Value) (o : Nat) (w : World) (cur : List Value), Blk w g cur.toArray t → o + vs.length ≤ cur.length → Blk (w.setCells g o vs) g (cur.take o ++ vs ++ cur.drop (o + vs.length)).toArray t
  | [], o, w, cur, h, _ => by
    have e : cur.take o ++ [] ++ cur.drop (o + ([] : List Value).length) = cur := by rw [List.append_nil]; exact List.take_append_drop o cur
    rw [e]; exact h
  | v :: r, o, w, cur, h, hl => by
    have hl' : o + (r.length + 1) ≤ cur.length := hl
    have h1 : Blk (w.setCell ⟨g, o, none⟩ v) g (cur.set o v).toArray t := by
      have := Blk.set (j := o) h v
      simpa using this
    have := Blk.setCells r (o + 1) _ _ h1 (by rw [List.length_set]; omega)
    rw [set_put v r cur o (by omega)] at this
    exact this
theorem kept_setCells (g : Nat) : ∀ (vs : List Value) (o : Nat) (w : World), Kept (fun b => b = g) w (w.setCells g o vs)
  | [], _, w => Kept.refl _ w
  | v :: r, o, w => ((Kept.refl (fun b => b = g) w).setCell (p := ⟨g, o, none⟩) (.inl rfl) v).trans (kept_setCells g r (o + 1) _)
section
variable {α : Type} {c : Cod α} {size : Nat} {e : TypeId} {w w' : World} {base g n cap : Nat} {l : List α} {xs : List Value}
theorem Own.len (h : Own c size e w base (.slice (some ⟨g, 0, none⟩) n cap) l xs) : n = l.length := by
  rcases h.row.2 with ⟨hv, _⟩ | ⟨g', cap', cur, hv, _⟩
  · cases hv
  · injection hv
theorem idx_in {i L k s : Nat} (hi : i < L) (hk : k < s) : i * s + k < L * s := by
  have : (i + 1) * s ≤ L * s := Nat.mul_le_mul_right _ hi
  rw [Nat.add_mul] at this; omega
theorem idx_lt {i k s j : Nat} (hi : k < i) (hj : j < s) : k * s + j < i * s := by
  have : (k + 1) * s ≤ i * s := Nat.mul_le_mul_right _ hi
  rw [Nat.add_mul] at this; omega
theorem Own.range (h : Own c size e w base (.slice (some ⟨g, 0, none⟩) n cap) l xs) {i : Nat} {x : α} (hx : l[i]? = some x) :
    ∃ cs, c w (Beside base (.slice (some ⟨g, 0, none⟩) n cap)) x cs ∧ cs.length = size ∧ w.rangeAt g (i * size) cs ∧ w.there g (i * size) size := by
  obtain ⟨cs, h1, h2, h3, h4⟩ := h.cells hx
  refine ⟨cs, h1, h2, h3, fun j hj => ⟨?_, h4 _⟩⟩
  rw [h3 j _ (List.getElem?_eq_getElem (by omega))]; rfl
theorem Own.setEl (h : Own c size e w base (.slice (some ⟨g, 0, none⟩) n cap) l xs) (hg : Good c) {i : Nat} {x' : α} {cs : List Value} (hi : i < l.length) (hcs : cs.length = size)
    (hc : c w (Beside base (.slice (some ⟨g, 0, none⟩) n cap)) x' cs) :
    Own c size e (w.setCells g (i * size) cs) base (.slice (some ⟨g, 0, none⟩) n cap) (l.set i x') (xs.take (i * size) ++ cs ++ xs.drop (i * size + size)) := by
  have hn := h.len
  subst hn
  have hk := kept_setCells g cs (i * size) w
  have hmove : ∀ (x : α) (cs0 : List Value), c w (Beside base (.slice (some ⟨g, 0, none⟩) l.length cap)) x cs0 → c (w.setCells g (i * size) cs) (Beside base (.slice (some ⟨g, 0, none⟩) l.length cap)) x cs0 := fun x cs0 h0 =>
    hg.keep h0 fun b hb hlt => ⟨hk.block b hlt (fun e => by subst e; exact hb.2 rfl), hb⟩
  rcases h.row.2 with ⟨hv, _⟩ | ⟨g', cap', cur, hv, hb, hgg, hnc, hcm, hcsz, htake⟩
  · cases hv
  injection hv with e1 e2 e3
  injection e1 with e1
  injection e1 with e1
  subst e1 e3
  have hxl : xs.length = l.length * size := h.row.1
  have hfit : i * size + size ≤ l.length * size := by
    have : (i + 1) * size ≤ l.length * size := Nat.mul_le_mul_right _ hi
    rwa [Nat.add_mul, Nat.one_mul] at this
  have hlc : l.length * size ≤ cap * size := Nat.mul_le_mul_right _ hnc
  have hB : Blk w g cur.toList.toArray e := hgg
  have hB2 := Blk.setCells cs (i * size) w cur.toList hB (by rw [hcs, Array.length_toList, hcsz]; omega)
  rw [hcs] at hB2
  refine ⟨⟨by simp only [List.length_append, List.length_take, List.length_drop, List.length_set, hxl, hcs]; omega, .inr ⟨g, cap, _, by rw [List.length_set], hb, hB2, by rw [List.length_set]; exact hnc, hcm, by
    simp only [List.size_toArray, List.length_append, List.length_take, List.length_drop, Array.length_toList, hcsz, hcs]; omega, ?_⟩⟩, fun k y hy => ?_⟩
  · subst htake
    apply List.ext_getElem?
    intro j
    simp only [List.length_set, List.getElem?_take, List.getElem?_append, List.length_append, List.length_take, Array.length_toList, hcsz, List.getElem?_drop, hcs]
    have m1 : min (i * size) (cap * size) = i * size := by omega
    have m2 : min (i * size) (min (l.length * size) (cap * size)) = i * size := by omega
    rw [m1, m2]
    rcases Nat.lt_or_ge j (i * size) with h1 | h1
    · have h2 : j < i * size + size := by omega
      have h3 : j < l.length * size := by omega
      simp only [h1, h2, h3, if_true]
    · have h1' : ¬ j < i * size := by omega
      rcases Nat.lt_or_ge j (i * size + size) with h2 | h2
      · have h3 : j < l.length * size := by omega
        simp only [h1', h2, h3, if_true, if_false]
      · have h2' : ¬ j < i * size + size := by omega
        have e : i * size + size + (j - (i * size + size)) = j := by omega
        simp only [h1', h2', if_false, e]
  · by_cases hki : k = i
    · subst hki
      rw [List.getElem?_set_self hi] at hy
      injection hy with hy
      subst hy
      refine ⟨cs, hmove _ _ hc, hcs, fun j u hu => ?_⟩
      have hj : j < size := by have := (List.getElem?_eq_some_iff.1 hu).1; omega
      have m2 : min (k * size) xs.length = k * size := by omega
      rw [List.getElem?_append_left (by simp only [List.length_append, List.length_take, hcs, m2]; omega), List.getElem?_append_right (by simp only [List.length_take, m2]; omega)]
      simp only [List.length_take, m2]
      rw [show k * size + j - k * size = j by omega]; exact hu
    · rw [List.getElem?_set_ne (fun e => hki e.symm)] at hy
      obtain ⟨cs0, h1, h2, h3⟩ := h.el k y hy
      refine ⟨cs0, hmove _ _ h1, h2, fun j u hu => ?_⟩
      have hj : j < size := by have := (List.getElem?_eq_some_iff.1 hu).1; omega
      have h4 := h3 j u hu
      have m2 : min (i * size) xs.length = i * size := by omega
      rcases Nat.lt_or_ge k i with hlt | hge
      · have := idx_lt hlt hj
        rw [List.getElem?_append_left (by simp only [List.length_append, List.length_take, hcs, m2]; omega), List.getElem?_append_left (by simp only [List.length_take, m2]; omega), List.getElem?_take, if_pos this]
        exact h4
      · have : (i + 1) * size ≤ k * size := Nat.mul_le_mul_right _ (by omega)
        rw [Nat.add_mul, Nat.one_mul] at this
        rw [List.getElem?_append_right (by simp only [List.length_append, List.length_take, hcs, m2]; omega), List.getElem?_drop]
        simp only [List.length_append, List.length_take, hcs, m2]
        rw [show i * size + size + (k * size + j - (i * size + size)) = k * size + j by omega]
        exact h4
end
end Go.Proofs.YtoilcdgpeilgaaaGreat
