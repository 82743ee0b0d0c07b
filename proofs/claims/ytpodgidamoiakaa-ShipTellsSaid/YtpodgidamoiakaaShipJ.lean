/-
  A table of the call's own: rows of bools; what is read and written in it.
-/
import Derived.Test.YtpodgidamoiakaaShipI
namespace Go.Proofs.Ytpodgidamoiakaa
open Go.RowKit Go.Shelf

/-- A row's slice, by its block. -/
def ptrC (n : Nat) : Cod Nat := fun _ _ b cs => cs = [.slice (some ⟨b, 0, none⟩) n n]
theorem ptrC_flat (n : Nat) : Flat (ptrC n) := fun _ _ _ _ _ _ h => h
theorem ptrC_good (n : Nat) : Good (ptrC n) := .of_flat (ptrC_flat n) fun h u hu => by cases h; simp at hu; subst hu; rfl
instance ptrK (n : Nat) : CodK (ptrC n) 1 := ⟨ptrC_good n, by omega⟩
def rowV (n : Nat) (f : Nat → Bool) : Array Value := ((List.range n).map (fun b => Value.bool (f b))).toArray
theorem rowV_at {n : Nat} {f : Nat → Bool} {j : Nat} (h : j < n) : (rowV n f)[j]? = some (.bool (f j)) := by
  unfold rowV
  rw [List.getElem?_toArray, List.getElem?_map, List.getElem?_range h]; rfl
theorem rowV_set {n : Nat} {f : Nat → Bool} {j : Nat} (v : Bool) : (rowV n f).set! j (.bool v) = rowV n (fun b => if b = j then v else f b) := by
  unfold rowV
  apply Array.ext'
  simp only [Array.set!_eq_setIfInBounds, List.setIfInBounds_toArray]
  apply List.ext_getElem?
  intro i
  rw [List.getElem?_set]
  simp only [List.length_map, List.length_range, List.getElem?_map]
  by_cases h : j = i
  · subst h
    by_cases hj : j < n
    · rw [if_pos rfl, if_pos hj, List.getElem?_range hj]; simp
    · rw [if_pos rfl, if_neg hj, List.getElem?_eq_none (by simpa using hj)]; rfl
  · rw [if_neg h]
    cases hr : (List.range n)[i]? with
    | none => rfl
    | some b =>
      have hb : b = i := by
        have h1 := (List.getElem?_eq_some_iff.1 hr).2
        simpa using h1.symm
      subst hb
      simp only [Option.map_some]
      rw [if_neg (fun e => h e.symm)]
theorem rowV_congr {n : Nat} {f g : Nat → Bool} (h : ∀ j, j < n → f j = g j) : rowV n f = rowV n g := by
  unfold rowV
  congr 1
  exact List.map_congr_left fun j hj => by rw [h j (List.mem_range.1 hj)]

theorem nodup_inj {l : List Nat} (h : l.Nodup) {i j x : Nat} (hi : l[i]? = some x) (hj : l[j]? = some x) : i = j := by
  have hp := List.pairwise_iff_getElem.1 h
  obtain ⟨h1, e1⟩ := List.getElem?_eq_some_iff.1 hi
  obtain ⟨h2, e2⟩ := List.getElem?_eq_some_iff.1 hj
  rcases Nat.lt_trichotomy i j with hlt | he | hlt
  · exact absurd (e1.trans e2.symm) (hp i j h1 h2 hlt)
  · exact he
  · exact absurd (e2.trans e1.symm) (hp j i h2 h1 hlt)
/-- The rows so far: v holds the blocks bls; each holds its row of T. -/
structure TabB (w : World) (base n : Nat) (v : Value) (bls : List Nat) (T : Nat → Nat → Bool) : Prop where
  own : ∃ xs, Own (ptrC n) 1 80 w base v bls xs
  nod : bls.Nodup
  row : ∀ (a b : Nat), bls[a]? = some b → base ≤ b ∧ some b ≠ v.ownBlock ∧ Blk w b (rowV n (T a)) 4

theorem TabB.bel {w w' : World} {base n : Nat} {v : Value} {bls : List Nat} {T : Nat → Nat → Bool} (h : TabB w base n v bls T) (hb : Below w.heap.size w w') : TabB w' base n v bls T := by
  obtain ⟨⟨xs, ho⟩, h2, h3⟩ := h
  exact ⟨⟨xs, ho.bel hb⟩, h2, fun a b hab => ⟨(h3 a b hab).1, (h3 a b hab).2.1, (h3 a b hab).2.2.bel hb⟩⟩
theorem TabB.congr {w : World} {base n : Nat} {v : Value} {bls : List Nat} {T T' : Nat → Nat → Bool} (h : TabB w base n v bls T) (ht : ∀ a j, a < bls.length → j < n → T a j = T' a j) : TabB w base n v bls T' := by
  obtain ⟨h1, h2, h3⟩ := h
  refine ⟨h1, h2, fun a b hab => ⟨(h3 a b hab).1, (h3 a b hab).2.1, ?_⟩⟩
  rw [← rowV_congr (fun j hj => ht a j (List.getElem?_eq_some_iff.1 hab).1 hj)]
  exact (h3 a b hab).2.2
/-- Its form, where it holds a row. -/
theorem TabB.form {w : World} {base n : Nat} {v : Value} {bls : List Nat} {T : Nat → Nat → Bool} (h : TabB w base n v bls T) (hn : 0 < bls.length) : ∃ o cap, v = .slice (some ⟨o, 0, none⟩) bls.length cap ∧ base ≤ o ∧ o < w.heap.size ∧ bls.length ≤ cap := by
  obtain ⟨⟨xs, ho⟩, _, _⟩ := h
  rcases ho.row.2 with ⟨hv, h0⟩ | ⟨g, cap, cur, hv, hb, hg, hnc, _⟩
  · omega
  · exact ⟨g, cap, hv, hb, (Array.getElem?_eq_some_iff.1 hg).1, hnc⟩
theorem TabB.outer {w : World} {base n m cap o : Nat} {bls : List Nat} {T : Nat → Nat → Bool} (h : TabB w base n (.slice (some ⟨o, 0, none⟩) m cap) bls T) {a b : Nat} (hab : bls[a]? = some b) : w.cell? ⟨o, a, none⟩ = some (.slice (some ⟨b, 0, none⟩) n n) := by
  obtain ⟨⟨xs, ho⟩, _, _⟩ := h
  obtain ⟨A, n2, c2, he, hs⟩ := ho.sl (ptrC_good n)
  injection he with e1 e2 e3
  subst e1 e2 e3
  obtain ⟨b', off, cs, hA, _, hc, hl, hcell⟩ := hs.rd a b hab
  injection hA with hA
  injection hA with h1 h2 _
  subst h1 h2
  cases hc
  simpa using hcell 0 _ rfl
theorem TabB.inner {w : World} {base n : Nat} {v : Value} {bls : List Nat} {T : Nat → Nat → Bool} (h : TabB w base n v bls T) {a b j : Nat} (hab : bls[a]? = some b) (hj : j < n) : w.cell? ⟨b, j, none⟩ = some (.bool (T a j)) :=
  (h.row a b hab).2.2.cell (rowV_at hj)
theorem TabB.free {w : World} {base n : Nat} {v : Value} {bls : List Nat} {T : Nat → Nat → Bool} (h : TabB w base n v bls T) {a b : Nat} (hab : bls[a]? = some b) (j : Nat) : w.frozen? ⟨b, j, none⟩ = false := (h.row a b hab).2.2.free j

theorem TabB.set {w : World} {base n : Nat} {v : Value} {bls : List Nat} {T : Nat → Nat → Bool} (h : TabB w base n v bls T) {i bi : Nat} (hi : bls[i]? = some bi) (j : Nat) (u : Bool) :
    TabB (w.setCell ⟨bi, j, none⟩ (.bool u)) base n v bls (fun a b => if a = i ∧ b = j then u else T a b) := by
  obtain ⟨⟨xs, ho⟩, h2, h3⟩ := h
  refine ⟨⟨xs, own_setCell_flat (ptrC_flat n) ho (fun e => (h3 i bi hi).2.1 e.symm) _⟩, h2, fun a b hab => ⟨(h3 a b hab).1, (h3 a b hab).2.1, ?_⟩⟩
  by_cases he : a = i
  · subst he
    obtain rfl : b = bi := by rw [hab] at hi; injection hi
    have := Blk.set (j := j) (h3 a b hab).2.2 (.bool u)
    rw [rowV_set] at this
    rw [rowV_congr (g := fun b => if b = j then u else T a b) (fun k _ => by simp)]
    exact this
  · have hne : bi ≠ b := fun e => he (by
      subst e
      exact nodup_inj h2 hab hi)
    rw [rowV_congr (g := T a) (fun k _ => by simp [he])]
    exact (h3 a b hab).2.2.other hne _

/-- One row more. -/
theorem TabB.snoc {w w' : World} {base n : Nat} {v v' : Value} {bls : List Nat} {T : Nat → Nat → Bool} {b : Nat} {xs : List Value} (h : TabB w base n v bls T) (ho : Own (ptrC n) 1 80 w' base v' (bls ++ [b]) xs) (hg : w.grownBy w' v.ownBlock)
    (hat : v'.ownBlock = v.ownBlock ∨ v'.ownBlock = some w.heap.size) (hb : base ≤ b) (hbl : b < w.heap.size) (hbv : some b ≠ v.ownBlock) (hnew : b ∉ bls) (hrow : Blk w b (rowV n (T bls.length)) 4) : TabB w' base n v' (bls ++ [b]) T := by
  obtain ⟨_, h2, h3⟩ := h
  refine ⟨⟨xs, ho⟩, ?_, fun a c hac => ?_⟩
  · rw [List.nodup_append]
    refine ⟨h2, by simp, fun x hx y hy => ?_⟩
    simp only [List.mem_singleton] at hy
    subst hy
    rintro rfl; exact hnew hx
  · have key : base ≤ c ∧ c < w.heap.size ∧ some c ≠ v.ownBlock ∧ Blk w c (rowV n (T a)) 4 := by
      by_cases hlt : a < bls.length
      · rw [List.getElem?_append_left hlt] at hac
        exact ⟨(h3 a c hac).1, (h3 a c hac).2.2.lt, (h3 a c hac).2⟩
      · rw [List.getElem?_append_right (by omega)] at hac
        have ha : a - bls.length = 0 := by have := (List.getElem?_eq_some_iff.1 hac).1; simp at this; omega
        rw [ha] at hac
        simp at hac
        subst hac
        obtain rfl : a = bls.length := by omega
        exact ⟨hb, hbl, hbv, hrow⟩
    refine ⟨key.1, ?_, key.2.2.2.grown hg key.2.2.1⟩
    rcases hat with e | e <;> rw [e]
    · exact key.2.2.1
    · intro he; injection he with he; have := key.2.1; omega
end Go.Proofs.Ytpodgidamoiakaa
