/-
  My own words for memory: a slice that reads as a list of data ('Sl'), a row of the call's own that holds a list ('Own'), and the laws on append, cuts and stores in these words. Nothing of the program is in sight.
-/
import Derived.WalkKit
import Derived.Lib.Hide
import Derived.Maps.AppendAt
import Derived.WalkLawsBesides
import Derived.WalkSpells
namespace Go.Proofs.Ytpodgidamoiakaa
open Go.RowKit

def Cod (α : Type) := World → (Nat → Prop) → α → List Value → Prop

/-- An int that fits. -/
def InI (n : Int) : Prop := -9223372036854775808 ≤ n ∧ n ≤ 9223372036854775807

theorem InI.wf {n : Int} (h : InI n) : (Lit.int .i64 n).wf = true := WalkArith.wf_i64 h
theorem InI.of {n : Int} (h : -1000000000000000 ≤ n) (h' : n ≤ 1000000000000000) : InI n := ⟨by omega, by omega⟩

def intC : Cod Int := fun _ _ n cs => cs = [.int .i64 n] ∧ InI n
def boolC : Cod Bool := fun _ _ b cs => cs = [.bool b]

/-- The cells of the row at A hold the list l, one element behind the other. -/
def RdA {α : Type} (c : Cod α) (size : Nat) (w : World) (S : Nat → Prop) (A : Option Addr) (l : List α) : Prop :=
  ∀ i x, l[i]? = some x → ∃ b off cs, A = some ⟨b, off, none⟩ ∧ S b ∧ c w S x cs ∧ cs.length = size ∧ ∀ j u, cs[j]? = some u → w.cell? ⟨b, off + i * size + j, none⟩ = some u

/-- '.slice A n cap' reads as the list l. -/
structure Sl {α : Type} (c : Cod α) (size : Nat) (w : World) (S : Nat → Prop) (A : Option Addr) (n cap : Nat) (l : List α) : Prop where
  len : l.length = n
  le : n ≤ cap
  max : cap ≤ maxLen
  rd : RdA c size w S A l

def slC {α : Type} (c : Cod α) (size : Nat) : Cod (List α) := fun w S l cs => ∃ A n cap, cs = [.slice A n cap] ∧ Sl c size w S A n cap l

/-- What a codec owes: it is kept where the blocks that it reads are kept. -/
structure Good {α : Type} (c : Cod α) : Prop where
  keep : ∀ {w w' : World} {S S' : Nat → Prop} {x : α} {cs : List Value}, c w S x cs → (∀ b, S b → b < w.heap.size → w'.heap[b]? = w.heap[b]? ∧ S' b) → c w' S' x cs
  one : ∀ {w : World} {S : Nat → Prop} {x : α} {cs : List Value}, c w S x cs → ∀ u ∈ cs, u.oneCell' = true

/-- A codec that looks at no memory. -/
def Flat {α : Type} (c : Cod α) : Prop := ∀ (w w' : World) (S S' : Nat → Prop) (x : α) (cs : List Value), c w S x cs → c w' S' x cs

/-- What stands beside an errno: the value where it is 0, else nothing. -/
def okL {α : Type} (r : Int) (l : List α) : List α := if r = 0 then l else []
def okI (r v : Int) : Int := if r = 0 then v else 0
def okB (r : Int) (b : Bool) : Bool := if r = 0 then b else false
theorem okL_zero {α : Type} (l : List α) : okL 0 l = l := rfl
theorem okI_zero (v : Int) : okI 0 v = v := rfl
theorem okB_zero (b : Bool) : okB 0 b = b := rfl
theorem okL_ne {α : Type} {r : Int} (h : ¬ r = 0) (l : List α) : okL r l = [] := if_neg h
theorem okI_ne {r : Int} (h : ¬ r = 0) (v : Int) : okI r v = 0 := if_neg h
theorem okB_ne {r : Int} (h : ¬ r = 0) (b : Bool) : okB r b = false := if_neg h

def All : Nat → Prop := fun _ => True

theorem intC_flat : Flat intC := fun _ _ _ _ _ _ h => h
theorem boolC_flat : Flat boolC := fun _ _ _ _ _ _ h => h
theorem Good.of_flat {α : Type} {c : Cod α} (hf : Flat c) (h1 : ∀ {w : World} {S : Nat → Prop} {x : α} {cs : List Value}, c w S x cs → ∀ u ∈ cs, u.oneCell' = true) : Good c :=
  ⟨fun h _ => hf _ _ _ _ _ _ h, h1⟩
theorem intC_good : Good intC := .of_flat intC_flat fun h u hu => by obtain ⟨rfl, _⟩ := h; simp at hu; subst hu; rfl
theorem boolC_good : Good boolC := .of_flat boolC_flat fun h u hu => by cases h; simp at hu; subst hu; rfl

section
variable {α : Type} {c : Cod α} {size : Nat} {w w' : World} {S S' : Nat → Prop} {A : Option Addr} {n cap : Nat} {l : List α}

theorem Sl.bd (h : Sl c size w S A n cap l) : n ≤ 9223372036854775807 := by have := h.le; have := h.max; unfold maxLen at this; omega
theorem Sl.nil (w : World) (S : Nat → Prop) (c : Cod α) (size : Nat) : Sl c size w S none 0 0 [] := ⟨rfl, Nat.le_refl _, by simp [maxLen], fun i x h => by simp at h⟩

theorem cell_lt {b off : Nat} {u : Value} (h : w.cell? ⟨b, off, none⟩ = some u) : b < w.heap.size := World.block_lt_of_cell? w ⟨b, off, none⟩ h

theorem Sl.keep (h : Sl c size w S A n cap l) (hg : Good c) (hsz : 0 < size) (hk : ∀ b, S b → b < w.heap.size → w'.heap[b]? = w.heap[b]? ∧ S' b) : Sl c size w' S' A n cap l := by
  refine ⟨h.len, h.le, h.max, fun i x hx => ?_⟩
  obtain ⟨b, off, cs, hA, hS, hc, hl, hcell⟩ := h.rd i x hx
  have hb : b < w.heap.size := by
    obtain ⟨u, hu⟩ : ∃ u, cs[0]? = some u := ⟨cs[0]'(by omega), List.getElem?_eq_getElem (by omega)⟩
    exact cell_lt (hcell 0 u hu)
  exact ⟨b, off, cs, hA, (hk b hS hb).2, hg.keep hc hk, hl, fun j u hu => (World.cell?_of_block (a := ⟨b, _, none⟩) (hk b hS hb).1).trans (hcell j u hu)⟩

/-- Behind a call that keeps all that was there. -/
theorem Sl.below (h : Sl c size w S A n cap l) (hg : Good c) (hsz : 0 < size) (hb : Below w.heap.size w w') : Sl c size w' S A n cap l :=
  h.keep hg hsz fun b hS hlt => ⟨hb.block b hlt, hS⟩
theorem Sl.all (h : Sl c size w S A n cap l) (hg : Good c) (hsz : 0 < size) : Sl c size w All A n cap l :=
  h.keep hg hsz fun _ _ _ => ⟨rfl, trivial⟩

/-- Element k, of one cell. -/
theorem Sl.at1 (h : Sl c 1 w S A n cap l) {k : Nat} (hk : k < n) : ∃ b off x c0, A = some ⟨b, off, none⟩ ∧ l[k]? = some x ∧ c w S x [c0] ∧ w.cell? ⟨b, off + k, none⟩ = some c0 := by
  have hl := h.len
  obtain ⟨b, off, cs, hA, _, hc, hlen, hcell⟩ := h.rd k (l[k]'(by omega)) (List.getElem?_eq_getElem (by omega))
  match cs, hlen with
  | [c0], _ => exact ⟨b, off, _, c0, hA, List.getElem?_eq_getElem (by omega), hc, by simpa using hcell 0 c0 rfl⟩
theorem Sl.at2 (h : Sl c 2 w S A n cap l) {k : Nat} (hk : k < n) : ∃ b off x c0 c1, A = some ⟨b, off, none⟩ ∧ l[k]? = some x ∧ c w S x [c0, c1] ∧
    w.cell? ⟨b, off + k * 2, none⟩ = some c0 ∧ w.cell? ⟨b, off + k * 2 + 1, none⟩ = some c1 := by
  have hl := h.len
  obtain ⟨b, off, cs, hA, _, hc, hlen, hcell⟩ := h.rd k (l[k]'(by omega)) (List.getElem?_eq_getElem (by omega))
  match cs, hlen with
  | [c0, c1], _ => exact ⟨b, off, _, c0, c1, hA, List.getElem?_eq_getElem (by omega), hc, by simpa using hcell 0 c0 rfl, hcell 1 c1 rfl⟩
theorem Sl.at3 (h : Sl c 3 w S A n cap l) {k : Nat} (hk : k < n) : ∃ b off x c0 c1 c2, A = some ⟨b, off, none⟩ ∧ l[k]? = some x ∧ c w S x [c0, c1, c2] ∧
    w.cell? ⟨b, off + k * 3, none⟩ = some c0 ∧ w.cell? ⟨b, off + k * 3 + 1, none⟩ = some c1 ∧ w.cell? ⟨b, off + k * 3 + 2, none⟩ = some c2 := by
  have hl := h.len
  obtain ⟨b, off, cs, hA, _, hc, hlen, hcell⟩ := h.rd k (l[k]'(by omega)) (List.getElem?_eq_getElem (by omega))
  match cs, hlen with
  | [c0, c1, c2], _ => exact ⟨b, off, _, c0, c1, c2, hA, List.getElem?_eq_getElem (by omega), hc, by simpa using hcell 0 c0 rfl, hcell 1 c1 rfl, hcell 2 c2 rfl⟩
theorem Sl.at4 (h : Sl c 4 w S A n cap l) {k : Nat} (hk : k < n) : ∃ b off x c0 c1 c2 c3, A = some ⟨b, off, none⟩ ∧ l[k]? = some x ∧ c w S x [c0, c1, c2, c3] ∧
    w.cell? ⟨b, off + k * 4, none⟩ = some c0 ∧ w.cell? ⟨b, off + k * 4 + 1, none⟩ = some c1 ∧ w.cell? ⟨b, off + k * 4 + 2, none⟩ = some c2 ∧ w.cell? ⟨b, off + k * 4 + 3, none⟩ = some c3 := by
  have hl := h.len
  obtain ⟨b, off, cs, hA, _, hc, hlen, hcell⟩ := h.rd k (l[k]'(by omega)) (List.getElem?_eq_getElem (by omega))
  match cs, hlen with
  | [c0, c1, c2, c3], _ => exact ⟨b, off, _, c0, c1, c2, c3, hA, List.getElem?_eq_getElem (by omega), hc, by simpa using hcell 0 c0 rfl, hcell 1 c1 rfl, hcell 2 c2 rfl, hcell 3 c3 rfl⟩

/-- 's[k:m]'. -/
theorem Sl.cut (h : Sl c size w S A n cap l) {k m : Nat} (hkm : k ≤ m) (hm : m ≤ n) :
    Sl c size w S (if cap = k then A else A.map (·.add (k * size))) (m - k) (cap - k) ((l.drop k).take (m - k)) := by
  have hle := h.le
  refine ⟨by rw [List.length_take, List.length_drop, h.len]; omega, by omega, Nat.le_trans (Nat.sub_le _ _) h.max, fun i x hx => ?_⟩
  have hi : i < m - k := by
    rcases Nat.lt_or_ge i (m - k) with h1 | h1
    · exact h1
    · rw [List.getElem?_eq_none (by rw [List.length_take]; omega)] at hx; cases hx
  rw [List.getElem?_take, if_pos hi, List.getElem?_drop] at hx
  obtain ⟨b, off, cs, hA, hS, hc, hl, hcell⟩ := h.rd _ x hx
  refine ⟨b, off + k * size, cs, ?_, hS, hc, hl, fun j u hu => ?_⟩
  · rw [if_neg (by omega), hA]
    simp only [Option.map_some, Option.some.injEq, Addr.add]
    split
    · next h0 => rw [h0]; rfl
    · rfl
  · have := hcell j u hu
    rw [show off + k * size + i * size + j = off + (k + i) * size + j by rw [Nat.add_mul]; omega]
    exact this

theorem Sl.mono_cod {c' : Cod α} (h : Sl c size w S A n cap l) (hc : ∀ x cs, c w S x cs → c' w S x cs) : Sl c' size w S A n cap l :=
  ⟨h.len, h.le, h.max, fun i x hx => by
    obtain ⟨b, off, cs, hA, hS, hcc, r⟩ := h.rd i x hx
    exact ⟨b, off, cs, hA, hS, hc _ _ hcc, r⟩⟩
end

/-- A literal of one element: '[]T{x}', or the one argument of a variadic call. -/
theorem Sl.lit1 {α : Type} {c : Cod α} (w : World) (S : Nat → Prop) (t : TypeId) (x : α) (cs : List Value) (hc : c (w.alloc (.cells cs.toArray t)) S x cs) (hS : S w.heap.size) :
    Sl c cs.length (w.alloc (.cells cs.toArray t)) S (some ⟨w.heap.size, 0, none⟩) 1 1 [x] := by
  refine ⟨rfl, Nat.le_refl _, by simp [maxLen], fun i y hy => ?_⟩
  have hi : i = 0 := by have := (List.getElem?_eq_some_iff.1 hy).1; simp at this; omega
  subst hi
  simp at hy
  subst hy
  exact ⟨w.heap.size, 0, cs, rfl, hS, hc, rfl, fun j u hu => by simpa using hu⟩

/-- What lies beside an owned row: blocks from 'base' on, but for the row itself. -/
def Beside (base : Nat) (v : Value) : Nat → Prop := fun b => base ≤ b ∧ some b ≠ v.ownBlock

/-- v is a row of the call's own (from block 'base' on), and holds the list l; what its elements lead to lies from 'base' on, in other blocks. -/
structure Own {α : Type} (c : Cod α) (size : Nat) (e : TypeId) (w : World) (base : Nat) (v : Value) (l : List α) (xs : List Value) : Prop where
  row : w.ownsRow base e size v l.length xs
  el : ∀ i x, l[i]? = some x → ∃ cs, c w (Beside base v) x cs ∧ cs.length = size ∧ ∀ j u, cs[j]? = some u → xs[i * size + j]? = some u

section
variable {α : Type} {c : Cod α} {size : Nat} {w w' : World} {e : TypeId} {base : Nat} {v : Value} {l : List α} {xs : List Value}

theorem Own.sl (h : Own c size e w base v l xs) (hg : Good c) : ∃ A n cap, v = .slice A n cap ∧ Sl c size w (fun b => base ≤ b) A n cap l := by
  rcases h.row.2 with ⟨rfl, h0⟩ | ⟨g, cap, cur, rfl, hb, hgg, hnc, hcm, hcs, htake⟩
  · have : l = [] := List.eq_nil_of_length_eq_zero h0
    subst this
    exact ⟨none, 0, 0, rfl, Sl.nil _ _ _ _⟩
  · refine ⟨_, l.length, cap, rfl, rfl, hnc, hcm, fun i x hx => ?_⟩
    obtain ⟨cs, hc, hl, hcell⟩ := h.el i x hx
    refine ⟨g, 0, cs, rfl, hb, hg.keep hc (fun b hS _ => ⟨rfl, hS.1⟩), hl, fun j u hu => ?_⟩
    have hi : i < l.length := (List.getElem?_eq_some_iff.1 hx).1
    have hj : j < size := by have := (List.getElem?_eq_some_iff.1 hu).1; omega
    have hlt : i * size + j < l.length * size := by
      have : (i + 1) * size ≤ l.length * size := Nat.mul_le_mul_right _ hi
      rw [Nat.add_mul] at this; omega
    have := h.row.cellAt (g := g) (i * size + j) hlt
    rw [Nat.zero_add, this]
    exact hcell j u hu

theorem Own.nil (w : World) (c : Cod α) (size : Nat) (e : TypeId) (base : Nat) : Own c size e w base (.slice none 0 0) [] [] :=
  ⟨w.ownsRow_nil base e size, fun i x h => by simp at h⟩

/-- 'make(.., 0, n)', an empty literal. -/
theorem Own.made (w : World) (c : Cod α) (size : Nat) (e : TypeId) (base : Nat) (cur : Array Value) (cap : Nat) (hb : base ≤ w.heap.size) (hm : cap ≤ maxLen) (hs : cur.size = cap * size) :
    Own c size e (w.alloc (.cells cur e)) base (.slice (some ⟨w.heap.size, 0, none⟩) 0 cap) [] [] :=
  ⟨World.ownsRow_made w cur cap hb hm hs, fun i x h => by simp at h⟩

theorem Own.keep (h : Own c size e w base v l xs) (hg : Good c) (hk : ∀ b, base ≤ b → b < w.heap.size → w'.heap[b]? = w.heap[b]?) : Own c size e w' base v l xs := by
  refine ⟨⟨h.row.1, ?_⟩, fun i x hx => ?_⟩
  · rcases h.row.2 with h0 | ⟨g, cap, cur, hv, hb, hgg, r⟩
    · exact .inl h0
    · exact .inr ⟨g, cap, cur, hv, hb, (hk g hb (Array.getElem?_eq_some_iff.1 hgg).1).trans hgg, r⟩
  · obtain ⟨cs, hc, r⟩ := h.el i x hx
    exact ⟨cs, hg.keep hc (fun b hS hlt => ⟨hk b hS.1 hlt, hS⟩), r⟩
theorem Own.below (h : Own c size e w base v l xs) (hg : Good c) (hb : Below w.heap.size w w') : Own c size e w' base v l xs :=
  h.keep hg fun b _ hlt => hb.block b hlt

/-- From a lower block on. -/
theorem Own.mono {base' : Nat} (h : Own c size e w base v l xs) (hg : Good c) (hb : base' ≤ base) : Own c size e w base' v l xs := by
  refine ⟨⟨h.row.1, ?_⟩, fun i x hx => ?_⟩
  · rcases h.row.2 with h0 | ⟨g, cap, cur, hv, hbb, r⟩
    · exact .inl h0
    · exact .inr ⟨g, cap, cur, hv, Nat.le_trans hb hbb, r⟩
  · obtain ⟨cs, hc, r⟩ := h.el i x hx
    exact ⟨cs, hg.keep hc (fun b hS _ => ⟨rfl, Nat.le_trans hb hS.1, hS.2⟩), r⟩

theorem Own.lt (h : Own c size e w base v l xs) : ∀ k, v.ownBlock = some k → base ≤ k ∧ k < w.heap.size := h.row.lt

/-- The heart of 'append' in these words: the row as the kit's law leaves it holds the two lists, one behind the other. -/
theorem Own.joined {l2 : List α} {A : Option Addr} {m cap : Nat} {S : Nat → Prop} {v' : Value} {news : List Value} (h : Own c size e w base v l xs) (hg : Good c) (hsl : Sl c size w S A m cap l2)
    (hS : ∀ x cs, c w S x cs → c w (Beside base v) x cs) (hgr : w.grownBy w' v.ownBlock) (hat : v'.ownBlock = v.ownBlock ∨ v'.ownBlock = some w.heap.size)
    (hnl : news.length = m * size) (hnews : ∀ b off, A = some ⟨b, off, none⟩ → ∀ j u, news[j]? = some u → w.cell? ⟨b, off + j, none⟩ = some u)
    (hrow : w'.ownsRow base e size v' (l ++ l2).length (xs ++ news)) : Own c size e w' base v' (l ++ l2) (xs ++ news) := by
  refine ⟨hrow, fun i x hx => ?_⟩
  have hxl : xs.length = l.length * size := h.row.1
  have move : ∀ {x : α} {cs : List Value}, c w (Beside base v) x cs → c w' (Beside base v') x cs := fun hc =>
    hg.keep hc fun b hS hlt => ⟨hgr.block b hlt hS.2, hS.1, by
      rcases hat with e | e <;> rw [e]
      · exact hS.2
      · intro he; injection he with he; omega⟩
  by_cases hi : i < l.length
  · rw [List.getElem?_append_left hi] at hx
    obtain ⟨cs, hc, hl, hcell⟩ := h.el i x hx
    refine ⟨cs, move hc, hl, fun j u hu => ?_⟩
    have hj : j < size := by have := (List.getElem?_eq_some_iff.1 hu).1; omega
    rw [List.getElem?_append_left (by
      have : (i + 1) * size ≤ l.length * size := Nat.mul_le_mul_right _ hi
      rw [Nat.add_mul] at this; omega)]
    exact hcell j u hu
  · rw [List.getElem?_append_right (by omega)] at hx
    obtain ⟨b, off, cs, hA, _, hc, hl, hcell⟩ := hsl.rd _ x hx
    refine ⟨cs, move (hS _ _ hc), hl, fun j u hu => ?_⟩
    have hj : j < size := by have := (List.getElem?_eq_some_iff.1 hu).1; omega
    have hle : l.length * size ≤ i * size := Nat.mul_le_mul_right _ (by omega)
    rw [List.getElem?_append_right (by omega), hxl]
    have hi2 : i - l.length < m := by
      have := (List.getElem?_eq_some_iff.1 hx).1
      have := hsl.len
      omega
    have hidx : i * size + j - l.length * size = (i - l.length) * size + j := by rw [Nat.sub_mul]; omega
    have hlt : (i - l.length) * size + j < news.length := by
      rw [hnl]
      have : (i - l.length + 1) * size ≤ m * size := Nat.mul_le_mul_right _ hi2
      rw [Nat.add_mul] at this; omega
    rw [hidx]
    have h1 := hnews b off hA ((i - l.length) * size + j) news[(i - l.length) * size + j] (List.getElem?_eq_getElem hlt)
    have h2 := hcell j u hu
    rw [Nat.add_assoc, h1] at h2
    rw [List.getElem?_eq_getElem hlt]
    exact h2
end

/-- The cells of a list that reads, as one list. -/
theorem Sl.news {α : Type} {c : Cod α} {size : Nat} {w : World} {S : Nat → Prop} {A : Option Addr} {m cap : Nat} {l : List α} (h : Sl c size w S A m cap l) (hg : Good c) :
    ∃ news : List Value, news.length = m * size ∧ (∀ u ∈ news, u.oneCell' = true) ∧ ∀ b off, A = some ⟨b, off, none⟩ → ∀ j u, news[j]? = some u → w.cell? ⟨b, off + j, none⟩ = some u := by
  obtain ⟨hlen, _, _, hrd⟩ := h
  subst hlen
  -- by the first elements, one more at a time
  have main : ∀ k, k ≤ l.length → ∃ news : List Value, news.length = k * size ∧ (∀ u ∈ news, u.oneCell' = true) ∧ ∀ b off, A = some ⟨b, off, none⟩ → ∀ j u, news[j]? = some u → w.cell? ⟨b, off + j, none⟩ = some u := by
    intro k
    induction k with
    | zero => exact fun _ => ⟨[], by simp, by simp, by simp⟩
    | succ k ih =>
      intro hk
      obtain ⟨news, hl, h1, hc⟩ := ih (by omega)
      obtain ⟨b, off, cs, hA, _, hcc, hcl, hcell⟩ := hrd k l[k] (List.getElem?_eq_getElem (by omega))
      refine ⟨news ++ cs, by rw [List.length_append, hl, hcl, Nat.add_mul]; omega, ?_, ?_⟩
      · intro u hu
        rcases List.mem_append.1 hu with hu | hu
        · exact h1 u hu
        · exact hg.one hcc u hu
      · intro b' off' hA' j u hu
        rw [hA] at hA'
        injection hA' with hA'
        injection hA' with hb ho _
        subst hb ho
        by_cases hj : j < news.length
        · rw [List.getElem?_append_left hj] at hu
          exact hc b off hA j u hu
        · rw [List.getElem?_append_right (by omega)] at hu
          have := hcell _ u hu
          rw [show off + j = off + k * size + (j - news.length) by omega]
          exact this
  exact main l.length (Nat.le_refl _)

/-- What the table of types says of an element type. -/
structure ElemOf (P : Program) (t e : TypeId) (size bytes : Nat) : Prop where
  ht : P.underlying t = some (.slice e)
  hi : ∃ i z, P.info? e = some i ∧ i.zero = some z ∧ i.size = size ∧ i.bytes = bytes ∧ z.cells.size = size
  pos : 0 < size

theorem ElemOf.mk' {P : Program} {t e : TypeId} {size bytes : Nat} {z : Value} (ht : P.underlying t = some (.slice e)) (hi : (P.info? e).map (fun i => (i.zero, i.size, i.bytes)) = some (some z, size, bytes))
    (hz : z.cells.size = size) (hp : 0 < size) : ElemOf P t e size bytes := by
  obtain ⟨i, hi, hz0, hz1, hz2⟩ := info_parts hi
  exact ⟨ht, ⟨i, z, hi, hz0, hz1, hz2, hz⟩, hp⟩

section
variable {P : Program} {α : Type} {c : Cod α} {size bytes : Nat} {t e : TypeId} {w : World} {base : Nat} {v : Value} {l : List α} {xs : List Value}

theorem run_append_none (h : ElemOf P t e size bytes) (ty : TypeId) (hown : w.ownsRow base e size v l.length xs) (k : Nat) : (Builtin.append_ #[t, t] ty #[v, .slice none 0 k]).run P w = .ok v w := by
  obtain ⟨i, z, hi, _⟩ := h.hi
  rcases hown.2 with ⟨rfl, _⟩ | ⟨g, cap, cur, rfl, _, _, hnc, _⟩
  · simp [Builtin.append_, run_underlying h.ht, sizeOf, typeInfo, hi, Builtin.lenOf, Builtin.firstCells]
  · simp [Builtin.append_, run_underlying h.ht, sizeOf, typeInfo, hi, Builtin.lenOf, Builtin.firstCells, hnc, storeCells]

/-- 'append(v, x...)' onto a row of the call's own. -/
theorem run_app (he : ElemOf P t e size bytes) (hg : Good c) (ty : TypeId) (hown : Own c size e w base v l xs) {A : Option Addr} {m cap : Nat} {S : Nat → Prop} {l2 : List α} (hsl : Sl c size w S A m cap l2)
    (hS : ∀ x cs, c w S x cs → c w (Beside base v) x cs) (hbytes : (l.length + m) * bytes ≤ 140737488355328) (hb1 : 1 ≤ bytes) (hbase : base ≤ w.heap.size) :
    ∃ v' w' xs', (Builtin.append_ #[t, t] ty #[v, .slice A m cap]).run P w = .ok v' w' ∧ Own c size e w' base v' (l ++ l2) xs' ∧ w.grownBy w' v.ownBlock ∧ (v'.ownBlock = v.ownBlock ∨ v'.ownBlock = some w.heap.size) := by
  obtain ⟨news, hnl, h1, hnews⟩ := hsl.news hg
  rcases Nat.eq_zero_or_pos m with rfl | hm
  · have : l2 = [] := List.eq_nil_of_length_eq_zero hsl.len
    subst this
    rcases A with _ | a
    · refine ⟨v, w, xs, run_append_none he ty hown.row cap, by simpa using hown, ⟨rfl, rfl, rfl, Nat.le_refl _, fun _ _ _ => rfl⟩, .inl rfl⟩
    · obtain ⟨i, z, hi, hz, hsize, hby, hzs⟩ := he.hi
      have hn : news = [] := List.eq_nil_of_length_eq_zero (by simpa using hnl)
      subst hn
      obtain ⟨v', w', hr, h2, h3, _, h5⟩ := run_append_own_at w base t ty e i z size bytes he.ht hi hz hsize hby hzs he.pos v l.length xs hown.row a 0 cap [] (by simp) (by simp) (by simp)
        (by have hx : l.length * 1 ≤ l.length * bytes := Nat.mul_le_mul_left _ hb1; simp only [maxLen]; simp at hbytes; omega) hbytes hbase
      have h2' := hown.joined (v' := v') hg hsl hS h3 h5 (news := []) (by simp) (by simp) (by simpa using h2)
      exact ⟨v', w', _, hr, h2', h3, h5⟩
  · obtain ⟨b, off, cs, hA, _⟩ := hsl.rd 0 (l2[0]'(by have := hsl.len; omega)) (List.getElem?_eq_getElem (by have := hsl.len; omega))
    subst hA
    obtain ⟨i, z, hi, hz, hsize, hby, hzs⟩ := he.hi
    have hadd : ∀ j, (⟨b, off, none⟩ : Addr).add j = ⟨b, off + j, none⟩ := fun j => by
      unfold Addr.add; split
      · next h0 => rw [h0]; rfl
      · rfl
    obtain ⟨v', w', hr, h2, h3, _, h5⟩ := run_append_own_at w base t ty e i z size bytes he.ht hi hz hsize hby hzs he.pos v l.length xs hown.row ⟨b, off, none⟩ m cap news hnl
      (fun j u hu => by rw [hadd]; exact hnews b off rfl j u hu) h1
      (by have hx : (l.length + m) * 1 ≤ (l.length + m) * bytes := Nat.mul_le_mul_left _ hb1; simp only [maxLen]; omega) hbytes hbase
    exact ⟨v', w', _, hr, hown.joined hg hsl hS h3 h5 hnl hnews (by rw [List.length_append, hsl.len]; exact h2), h3, h5⟩

theorem wp_app {o : Oper} {a : Act} {K : Act → World → Prop} {Q : Exit → Act → World → Prop} (s x : Operand)
    (ho : o.op = .call { callee := .builtin .append, args := #[s, x], argTypes := #[t, t] })
    (he : ElemOf P t e size bytes) (hg : Good c) {A : Option Addr} {m cap : Nat} {S : Nat → Prop} {l2 : List α} (hs : a.eval s = v) (hown : Own c size e w base v l xs) (hx : a.eval x = .slice A m cap) (hsl : Sl c size w S A m cap l2)
    (hS : ∀ x cs, c w S x cs → c w (Beside base v) x cs) (hbytes : (l.length + m) * bytes ≤ 140737488355328) (hb1 : 1 ≤ bytes) (hbase : base ≤ w.heap.size)
    (h : ∀ v' w' xs', Own c size e w' base v' (l ++ l2) xs' → w.grownBy w' v.ownBlock → (v'.ownBlock = v.ownBlock ∨ v'.ownBlock = some w.heap.size) → K (a.put o.dst v') w') : o.wp P a w K Q := by
  obtain ⟨v', w', xs', hrun, h2, h3, h4⟩ := run_app (P := P) he hg o.type hown hsl hS hbytes hb1 hbase
  unfold Oper.wp execOp
  simp only [ho, resolve, invoke, builtin, Sem.run_bind, Sem.run_pure, Result.andThen_ok, List.map_toArray, List.map_cons, List.map_nil, hs, hx, hrun]
  exact h v' w' xs' h2 h3 h4

theorem list_app {ops : Array Oper} {rest : List Oper} {o : Oper} {a : Act} {Q : Exit → Act → World → Prop} (hgd : o.guard = none) (s x : Operand)
    (ho : o.op = .call { callee := .builtin .append, args := #[s, x], argTypes := #[t, t] })
    (he : ElemOf P t e size bytes) (hg : Good c) {A : Option Addr} {m cap : Nat} {S : Nat → Prop} {l2 : List α} (hs : a.eval s = v) (hown : Own c size e w base v l xs) (hx : a.eval x = .slice A m cap) (hsl : Sl c size w S A m cap l2)
    (hS : ∀ x cs, c w S x cs → c w (Beside base v) x cs) (hbytes : (l.length + m) * bytes ≤ 140737488355328) (hb1 : 1 ≤ bytes) (hbase : base ≤ w.heap.size)
    (h : ∀ v' w' xs', Own c size e w' base v' (l ++ l2) xs' → w.grownBy w' v.ownBlock → (v'.ownBlock = v.ownBlock ∨ v'.ownBlock = some w.heap.size) → wpList P ops Q rest (a.put o.dst v') w') : wpList P ops Q (o :: rest) a w :=
  wpList_plain hgd fun _ hK => wp_app s x ho he hg hs hown hx hsl hS hbytes hb1 hbase fun v' w' xs' h2 h3 h4 => hK _ _ (h v' w' xs' h2 h3 h4)
end

/-- Below, behind an append onto a row of the call's own. -/
theorem below_app {α : Type} {c : Cod α} {size : Nat} {e : TypeId} {a w w' : World} {base : Nat} {v : Value} {l : List α} {xs : List Value} (h : Below base a w) (hown : Own c size e w base v l xs) (hg : w.grownBy w' v.ownBlock) (hB : base ≤ w.heap.size) : Below base a w' :=
  h.grown hg hB fun k hk => (hown.lt k hk).1

end Go.Proofs.Ytpodgidamoiakaa
