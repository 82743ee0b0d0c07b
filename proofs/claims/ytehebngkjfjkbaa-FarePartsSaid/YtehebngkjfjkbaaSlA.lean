/-
  Plain laws on lists that stand behind the generic functions of Go's package slices.
-/
import Derived.Test.YtehebngkjfjkbaaFolioA
namespace Go.Proofs.Ytehebngkjfjkbaa
open Go.RowKit Go.Shelf

/-- Where the first one lies for which p holds; else -1. -/
def idxF {α : Type} (p : α → Bool) (l : List α) : Int := if l.any p then (l.findIdx p : Int) else -1

section
variable {α : Type} {p : α → Bool} {l : List α} {k : Nat} {x : α}
theorem any_take_succ (hx : l[k]? = some x) : (l.take (k + 1)).any p = ((l.take k).any p || p x) := by rw [take_snoc hx]; simp
theorem any_of_take (h : (l.take k).any p = true) : l.any p = true := by
  rw [List.any_eq_true] at h ⊢
  obtain ⟨x, hx, hp⟩ := h
  exact ⟨x, List.mem_of_mem_take hx, hp⟩
theorem any_at (hx : l[k]? = some x) (hp : p x = true) : l.any p = true := List.any_eq_true.2 ⟨x, List.mem_of_getElem? hx, hp⟩
theorem idxF_at (h : (l.take k).any p = false) (hx : l[k]? = some x) (hp : p x = true) : idxF p l = (k : Int) := by
  have hlt : k < l.length := (List.getElem?_eq_some_iff.1 hx).1
  have hi : l.findIdx p = k := by
    rw [List.findIdx_eq hlt]
    refine ⟨?_, fun j hj => ?_⟩
    · rw [List.getElem?_eq_getElem hlt] at hx; injection hx with hx; rw [hx]; exact hp
    · have := List.any_eq_false.1 h (l[j]'(by omega)) (List.mem_take_iff_getElem.2 ⟨j, by omega, rfl⟩)
      simpa using this
  unfold idxF
  rw [any_at hx hp, hi]; rfl
theorem idxF_none (h : l.any p = false) : idxF p l = -1 := by unfold idxF; rw [h]; rfl
theorem idxF_any : decide (0 ≤ idxF p l) = l.any p := by
  unfold idxF
  cases l.any p <;> simp
theorem idxF_bd (h : l.length ≤ 9223372036854775807) : -1 ≤ idxF p l ∧ idxF p l < 9223372036854775807 := by
  unfold idxF
  cases e : l.any p
  · simp
  · have : l.findIdx p < l.length := List.findIdx_lt_length.2 (by simpa using e)
    simp; omega
theorem idxF_lt (h : l.any p = true) : 0 ≤ idxF p l ∧ idxF p l < l.length := by
  unfold idxF
  have : l.findIdx p < l.length := List.findIdx_lt_length.2 (by simpa using h)
  rw [h, if_pos rfl]; constructor <;> omega
end

theorem cell_of_blk {w : World} {b j : Nat} {cs : Array Value} {t : TypeId} {fz : Nat × Nat} {v : Value} (h : w.heap[b]? = some (.cells cs t fz)) (hj : cs[j]? = some v) : w.cell? ⟨b, j, none⟩ = some v := by simp [World.cell?, h, hj]
/-- Block k of the three that were made last. -/
theorem blk1 (w : World) (A : Obj) : (w.alloc A).heap[w.heap.size]? = some A := heap_alloc_new _ _
theorem blk2_0 (w : World) (A B : Obj) : ((w.alloc A).alloc B).heap[w.heap.size]? = some A := (Below.heap_alloc _ _ _ (by simp)).trans (blk1 _ _)
theorem blk2_1 (w : World) (A B : Obj) : ((w.alloc A).alloc B).heap[w.heap.size + 1]? = some B := by
  have := blk1 (w.alloc A) B
  rwa [show (w.alloc A).heap.size = w.heap.size + 1 by simp] at this
theorem blk3_0 (w : World) (A B C : Obj) : (((w.alloc A).alloc B).alloc C).heap[w.heap.size]? = some A := (Below.heap_alloc _ _ _ (by simp; omega)).trans (blk2_0 _ _ _)
theorem blk3_1 (w : World) (A B C : Obj) : (((w.alloc A).alloc B).alloc C).heap[w.heap.size + 1]? = some B := (Below.heap_alloc _ _ _ (by simp)).trans (blk2_1 _ _ _)
theorem blk3_2 (w : World) (A B C : Obj) : (((w.alloc A).alloc B).alloc C).heap[w.heap.size + 1 + 1]? = some C := by
  have := blk2_1 (w.alloc A) B C
  rwa [show (w.alloc A).heap.size = w.heap.size + 1 by simp] at this

/-- A row of the call's own with an element in it has a block. -/
theorem Own.form {α : Type} {c : Cod α} {size : Nat} {e : TypeId} {w : World} {base : Nat} {v : Value} {l : List α} {xs : List Value} (h : Own c size e w base v l xs) (hn : 0 < l.length) :
    ∃ g cap, v = .slice (some ⟨g, 0, none⟩) l.length cap ∧ base ≤ g ∧ g < w.heap.size := by
  rcases h.row.2 with ⟨_, h0⟩ | ⟨g, cap, cur, hv, hb, hgg, _⟩
  · omega
  · exact ⟨g, cap, hv, hb, (Array.getElem?_eq_some_iff.1 hgg).1⟩

section
variable {α : Type} {c : Cod α} {size : Nat} {e : TypeId} {w : World} {base g n cap : Nat} {l : List α} {xs : List Value}

theorem Own.cells (h : Own c size e w base (.slice (some ⟨g, 0, none⟩) n cap) l xs) {i : Nat} {x : α} (hx : l[i]? = some x) :
    ∃ cs, c w (Beside base (.slice (some ⟨g, 0, none⟩) n cap)) x cs ∧ cs.length = size ∧ (∀ j u, cs[j]? = some u → w.cell? ⟨g, i * size + j, none⟩ = some u) ∧ ∀ j, w.frozen? ⟨g, j, none⟩ = false := by
  obtain ⟨cs, hc, hl, hcell⟩ := h.el i x hx
  have hi : i < l.length := (List.getElem?_eq_some_iff.1 hx).1
  have hrow := h.row
  have hn : n = l.length := by
    rcases hrow.2 with ⟨hv, _⟩ | ⟨g', cap', cur, hv, _⟩
    · cases hv
    · injection hv
  subst hn
  refine ⟨cs, hc, hl, fun j u hu => ?_, fun j => hrow.frozenAt j⟩
  have hj : j < size := by have := (List.getElem?_eq_some_iff.1 hu).1; omega
  rw [hrow.cellAt _ (by
    have : (i + 1) * size ≤ l.length * size := Nat.mul_le_mul_right _ hi
    rw [Nat.add_mul] at this; omega)]
  exact hcell j u hu

/-- A store of one cell into an own row whose elements lead nowhere. -/
theorem Own.put (hf : Flat c) (h : Own c size e w base (.slice (some ⟨g, 0, none⟩) n cap) l xs) {i j : Nat} {x x' : α} {u : Value} (hx : l[i]? = some x) (hj : j < size)
    (hc : ∀ w S cs, c w S x cs → c w S x' (cs.set j u)) :
    Own c size e (w.setCell ⟨g, i * size + j, none⟩ u) base (.slice (some ⟨g, 0, none⟩) n cap) (l.set i x') (xs.set (i * size + j) u) := by
  have hrow := h.row
  have hn : n = l.length := by
    rcases hrow.2 with ⟨hv, _⟩ | ⟨g', cap', cur, hv, _⟩
    · cases hv
    · injection hv
  subst hn
  have hil : i < l.length := (List.getElem?_eq_some_iff.1 hx).1
  have hxl : xs.length = l.length * size := hrow.1
  have hlt : i * size + j < xs.length := by
    have : (i + 1) * size ≤ l.length * size := Nat.mul_le_mul_right _ hil
    rw [Nat.add_mul] at this; omega
  refine ⟨by rw [List.length_set]; exact (hrow.stored _ u).1, fun k y hy => ?_⟩
  by_cases hk : k = i
  · subst hk
    rw [List.getElem?_set_self hil] at hy
    injection hy with hy
    subst hy
    obtain ⟨cs, hcc, hl, hcell⟩ := h.el k x hx
    refine ⟨cs.set j u, hf _ _ _ _ _ _ (hc _ _ _ hcc), by simpa using hl, fun q v hv => ?_⟩
    by_cases hq : q = j
    · subst hq
      rw [List.getElem?_set_self (by omega)] at hv
      rw [List.getElem?_set_self hlt]
      exact hv
    · rw [List.getElem?_set_ne (by omega)] at hv
      rw [List.getElem?_set_ne (by omega)]
      exact hcell q v hv
  · rw [List.getElem?_set_ne (by omega)] at hy
    obtain ⟨cs, hcc, hl, hcell⟩ := h.el k y hy
    refine ⟨cs, hf _ _ _ _ _ _ hcc, hl, fun q v hv => ?_⟩
    have hq : q < size := by have := (List.getElem?_eq_some_iff.1 hv).1; omega
    rw [List.getElem?_set_ne ?_]
    · exact hcell q v hv
    · intro he
      rcases Nat.lt_or_ge k i with h1 | h1
      · have : (k + 1) * size ≤ i * size := Nat.mul_le_mul_right _ h1
        rw [Nat.add_mul] at this; omega
      · have : (i + 1) * size ≤ k * size := Nat.mul_le_mul_right _ (by omega)
        rw [Nat.add_mul] at this; omega
end
end Go.Proofs.Ytehebngkjfjkbaa
