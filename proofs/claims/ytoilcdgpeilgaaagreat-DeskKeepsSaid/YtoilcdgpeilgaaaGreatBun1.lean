/-
  Words, laws and contracts: Base, Gen, SpanA, StepApp.
-/
import Derived.WalkKit
import Derived.Lib.Hide
import Derived.Maps.AppendAt
import Derived.WalkLawsBesides
import Derived.WalkSpells
import Derived.Test.YtoilcdgpeilgaaaGreatChecked
import Derived.BigQuiet
import Derived.Shelf.Abstract
import Derived.Deep.LoopGhost
import Derived.Deep.QuietTactic
import Derived.Deep.DeepCutAuto
import Derived.Deep.RegionLaw
set_option linter.unusedSimpArgs false
set_option linter.unusedVariables false
namespace Go.Proofs.YtoilcdgpeilgaaaGreat
open Go.RowKit
def Cod (α : Type) := World → (Nat → Prop) → α → List Value → Prop
def InI (n : Int) : Prop := -9223372036854775808 ≤ n ∧ n ≤ 9223372036854775807
theorem InI.wf {n : Int} (h : InI n) : (Lit.int .i64 n).wf = true := WalkArith.wf_i64 h
theorem InI.of {n : Int} (h : -1000000000000000 ≤ n) (h' : n ≤ 1000000000000000) : InI n := ⟨by omega, by omega⟩
def intC : Cod Int := fun _ _ n cs => cs = [.int .i64 n] ∧ InI n
def RdA {α : Type} (c : Cod α) (size : Nat) (w : World) (S : Nat → Prop) (A : Option Addr) (l : List α) : Prop :=
  ∀ i x, l[i]? = some x → ∃ b off cs, A = some ⟨b, off, none⟩ ∧ S b ∧ c w S x cs ∧ cs.length = size ∧ ∀ j u, cs[j]? = some u → w.cell? ⟨b, off + i * size + j, none⟩ = some u
structure Sl {α : Type} (c : Cod α) (size : Nat) (w : World) (S : Nat → Prop) (A : Option Addr) (n cap : Nat) (l : List α) : Prop where
  len : l.length = n
  le : n ≤ cap
  max : cap ≤ maxLen
  rd : RdA c size w S A l
def slC {α : Type} (c : Cod α) (size : Nat) : Cod (List α) := fun w S l cs => ∃ A n cap, cs = [.slice A n cap] ∧ Sl c size w S A n cap l
structure Good {α : Type} (c : Cod α) : Prop where
  keep : ∀ {w w' : World} {S S' : Nat → Prop} {x : α} {cs : List Value}, c w S x cs → (∀ b, S b → b < w.heap.size → w'.heap[b]? = w.heap[b]? ∧ S' b) → c w' S' x cs
  one : ∀ {w : World} {S : Nat → Prop} {x : α} {cs : List Value}, c w S x cs → ∀ u ∈ cs, u.oneCell' = true
def Flat {α : Type} (c : Cod α) : Prop := ∀ (w w' : World) (S S' : Nat → Prop) (x : α) (cs : List Value), c w S x cs → c w' S' x cs
def okL {α : Type} (r : Int) (l : List α) : List α := if r = 0 then l else []
def okI (r v : Int) : Int := if r = 0 then v else 0
theorem okL_zero {α : Type} (l : List α) : okL 0 l = l := rfl
theorem okI_zero (v : Int) : okI 0 v = v := rfl
theorem okL_ne {α : Type} {r : Int} (h : ¬ r = 0) (l : List α) : okL r l = [] := if_neg h
theorem okI_ne {r : Int} (h : ¬ r = 0) (v : Int) : okI r v = 0 := if_neg h
def All : Nat → Prop := fun _ => True
theorem intC_flat : Flat intC := fun _ _ _ _ _ _ h => h
theorem Good.of_flat {α : Type} {c : Cod α} (hf : Flat c) (h1 : ∀ {w : World} {S : Nat → Prop} {x : α} {cs : List Value}, c w S x cs → ∀ u ∈ cs, u.oneCell' = true) : Good c :=
  ⟨fun h _ => hf _ _ _ _ _ _ h, h1⟩
theorem intC_good : Good intC := .of_flat intC_flat fun h u hu => by obtain ⟨rfl, _⟩ := h; simp at hu; subst hu; rfl
section
variable {α : Type} {c : Cod α} {size : Nat} {w w' : World} {S S' : Nat → Prop} {A : Option Addr} {n cap : Nat} {l : List α}
theorem Sl.bd (h : Sl c size w S A n cap l) : n ≤ 9223372036854775807 := by have := h.le; have := h.max; unfold maxLen at this; omega
theorem Sl.nil (w : World) (S : Nat → Prop) (c : Cod α) (size : Nat) : Sl c size w S none 0 0 [] := ⟨rfl, Nat.le_refl _, by simp [maxLen], fun i x h => by simp at h⟩
theorem cell_lt {b off : Nat} {u : Value} (h : w.cell? ⟨b, off, none⟩ = some u) : b < w.heap.size := World.block_lt_of_cell? w ⟨b, off, none⟩ h
theorem Sl.keep (h : Sl c size w S A n cap l) (hg : Good c) (hsz : 0 < size) (hk : ∀ b, S b → b < w.heap.size → w'.heap[b]? = w.heap[b]? ∧ S' b) : Sl c size w' S' A n cap l := by
  refine ⟨h.len, h.le, h.max, fun i x hx => ?_⟩
  obtain ⟨b, off, cs, hA, hS, hc, hl, hcell⟩ := h.rd i x hx
  have hb : b < w.heap.size := by
    obtain ⟨u, hu⟩ : ∃ u, cs[0]? = some u := ⟨cs[0]'(by omega), List.getElem?_eq_getElem (by omega)⟩
    exact cell_lt (hcell 0 u hu)
  exact ⟨b, off, cs, hA, (hk b hS hb).2, hg.keep hc hk, hl, fun j u hu => (World.cell?_of_block (a := ⟨b, _, none⟩) (hk b hS hb).1).trans (hcell j u hu)⟩
theorem Sl.below (h : Sl c size w S A n cap l) (hg : Good c) (hsz : 0 < size) (hb : Below w.heap.size w w') : Sl c size w' S A n cap l :=
  h.keep hg hsz fun b hS hlt => ⟨hb.block b hlt, hS⟩
theorem Sl.all (h : Sl c size w S A n cap l) (hg : Good c) (hsz : 0 < size) : Sl c size w All A n cap l :=
  h.keep hg hsz fun _ _ _ => ⟨rfl, trivial⟩
theorem Sl.at1 (h : Sl c 1 w S A n cap l) {k : Nat} (hk : k < n) : ∃ b off x c0, A = some ⟨b, off, none⟩ ∧ l[k]? = some x ∧ c w S x [c0] ∧ w.cell? ⟨b, off + k, none⟩ = some c0 := by
  have hl := h.len
  obtain ⟨b, off, cs, hA, _, hc, hlen, hcell⟩ := h.rd k (l[k]'(by omega)) (List.getElem?_eq_getElem (by omega))
  match cs, hlen with
  | [c0], _ => exact ⟨b, off, _, c0, hA, List.getElem?_eq_getElem (by omega), hc, by simpa using hcell 0 c0 rfl⟩
theorem Sl.at2 (h : Sl c 2 w S A n cap l) {k : Nat} (hk : k < n) : ∃ b off x c0 c1, A = some ⟨b, off, none⟩ ∧ l[k]? = some x ∧ c w S x [c0, c1] ∧
    w.cell? ⟨b, off + k * 2, none⟩ = some c0 ∧ w.cell? ⟨b, off + k * 2 + 1, none⟩ = some c1 := by
  have hl := h.len
  obtain ⟨b, off, cs, hA, _, hc, hlen, hcell⟩ := h.rd k (l[k]'(by omega)) (List.getElem?_eq_getElem (by omega))
  match cs, hlen with
  | [c0, c1], _ => exact ⟨b, off, _, c0, c1, hA, List.getElem?_eq_getElem (by omega), hc, by simpa using hcell 0 c0 rfl, hcell 1 c1 rfl⟩
theorem Sl.at3 (h : Sl c 3 w S A n cap l) {k : Nat} (hk : k < n) : ∃ b off x c0 c1 c2, A = some ⟨b, off, none⟩ ∧ l[k]? = some x ∧ c w S x [c0, c1, c2] ∧
    w.cell? ⟨b, off + k * 3, none⟩ = some c0 ∧ w.cell? ⟨b, off + k * 3 + 1, none⟩ = some c1 ∧ w.cell? ⟨b, off + k * 3 + 2, none⟩ = some c2 := by
  have hl := h.len
  obtain ⟨b, off, cs, hA, _, hc, hlen, hcell⟩ := h.rd k (l[k]'(by omega)) (List.getElem?_eq_getElem (by omega))
  match cs, hlen with
  | [c0, c1, c2], _ => exact ⟨b, off, _, c0, c1, c2, hA, List.getElem?_eq_getElem (by omega), hc, by simpa using hcell 0 c0 rfl, hcell 1 c1 rfl, hcell 2 c2 rfl⟩
theorem Sl.at4 (h : Sl c 4 w S A n cap l) {k : Nat} (hk : k < n) : ∃ b off x c0 c1 c2 c3, A = some ⟨b, off, none⟩ ∧ l[k]? = some x ∧ c w S x [c0, c1, c2, c3] ∧
    w.cell? ⟨b, off + k * 4, none⟩ = some c0 ∧ w.cell? ⟨b, off + k * 4 + 1, none⟩ = some c1 ∧ w.cell? ⟨b, off + k * 4 + 2, none⟩ = some c2 ∧ w.cell? ⟨b, off + k * 4 + 3, none⟩ = some c3 := by
  have hl := h.len
  obtain ⟨b, off, cs, hA, _, hc, hlen, hcell⟩ := h.rd k (l[k]'(by omega)) (List.getElem?_eq_getElem (by omega))
  match cs, hlen with
  | [c0, c1, c2, c3], _ => exact ⟨b, off, _, c0, c1, c2, c3, hA, List.getElem?_eq_getElem (by omega), hc, by simpa using hcell 0 c0 rfl, hcell 1 c1 rfl, hcell 2 c2 rfl, hcell 3 c3 rfl⟩
theorem Sl.cut (h : Sl c size w S A n cap l) {k m : Nat} (hkm : k ≤ m) (hm : m ≤ n) :
    Sl c size w S (if cap = k then A else A.map (·.add (k * size))) (m - k) (cap - k) ((l.drop k).take (m - k)) := by
  have hle := h.le
  refine ⟨by rw [List.length_take, List.length_drop, h.len]; omega, by omega, Nat.le_trans (Nat.sub_le _ _) h.max, fun i x hx => ?_⟩
  have hi : i < m - k := by
    rcases Nat.lt_or_ge i (m - k) with h1 | h1
    · exact h1
    · rw [List.getElem?_eq_none (by rw [List.length_take]; omega)] at hx; cases hx
  rw [List.getElem?_take, if_pos hi, List.getElem?_drop] at hx
  obtain ⟨b, off, cs, hA, hS, hc, hl, hcell⟩ := h.rd _ x hx
  refine ⟨b, off + k * size, cs, ?_, hS, hc, hl, fun j u hu => ?_⟩
  · rw [if_neg (by omega), hA]
    simp only [Option.map_some, Option.some.injEq, Addr.add]
    split
    · next h0 => rw [h0]; rfl
    · rfl
  · have := hcell j u hu
    rw [show off + k * size + i * size + j = off + (k + i) * size + j by rw [Nat.add_mul]; omega]
    exact this
theorem Sl.mono_cod {c' : Cod α} (h : Sl c size w S A n cap l) (hc : ∀ x cs, c w S x cs → c' w S x cs) : Sl c' size w S A n cap l :=
  ⟨h.len, h.le, h.max, fun i x hx => by
    obtain ⟨b, off, cs, hA, hS, hcc, r⟩ := h.rd i x hx
    exact ⟨b, off, cs, hA, hS, hc _ _ hcc, r⟩⟩
end
theorem Sl.lit1 {α : Type} {c : Cod α} (w : World) (S : Nat → Prop) (t : TypeId) (x : α) (cs : List Value) (hc : c (w.alloc (.cells cs.toArray t)) S x cs) (hS : S w.heap.size) :
    Sl c cs.length (w.alloc (.cells cs.toArray t)) S (some ⟨w.heap.size, 0, none⟩) 1 1 [x] := by
  refine ⟨rfl, Nat.le_refl _, by simp [maxLen], fun i y hy => ?_⟩
  have hi : i = 0 := by have := (List.getElem?_eq_some_iff.1 hy).1; simp at this; omega
  subst hi
  simp at hy
  subst hy
  exact ⟨w.heap.size, 0, cs, rfl, hS, hc, rfl, fun j u hu => by simpa using hu⟩
def Beside (base : Nat) (v : Value) : Nat → Prop := fun b => base ≤ b ∧ some b ≠ v.ownBlock
structure Own {α : Type} (c : Cod α) (size : Nat) (e : TypeId) (w : World) (base : Nat) (v : Value) (l : List α) (xs : List Value) : Prop where
  row : w.ownsRow base e size v l.length xs
  el : ∀ i x, l[i]? = some x → ∃ cs, c w (Beside base v) x cs ∧ cs.length = size ∧ ∀ j u, cs[j]? = some u → xs[i * size + j]? = some u
section
variable {α : Type} {c : Cod α} {size : Nat} {w w' : World} {e : TypeId} {base : Nat} {v : Value} {l : List α} {xs : List Value}
theorem Own.sl (h : Own c size e w base v l xs) (hg : Good c) : ∃ A n cap, v = .slice A n cap ∧ Sl c size w (fun b => base ≤ b) A n cap l := by
  rcases h.row.2 with ⟨rfl, h0⟩ | ⟨g, cap, cur, rfl, hb, hgg, hnc, hcm, hcs, htake⟩
  · have : l = [] := List.eq_nil_of_length_eq_zero h0
    subst this
    exact ⟨none, 0, 0, rfl, Sl.nil _ _ _ _⟩
  · refine ⟨_, l.length, cap, rfl, rfl, hnc, hcm, fun i x hx => ?_⟩
    obtain ⟨cs, hc, hl, hcell⟩ := h.el i x hx
    refine ⟨g, 0, cs, rfl, hb, hg.keep hc (fun b hS _ => ⟨rfl, hS.1⟩), hl, fun j u hu => ?_⟩
    have hi : i < l.length := (List.getElem?_eq_some_iff.1 hx).1
    have hj : j < size := by have := (List.getElem?_eq_some_iff.1 hu).1; omega
    have hlt : i * size + j < l.length * size := by
      have : (i + 1) * size ≤ l.length * size := Nat.mul_le_mul_right _ hi
      rw [Nat.add_mul] at this; omega
    have := h.row.cellAt (g := g) (i * size + j) hlt
    rw [Nat.zero_add, this]
    exact hcell j u hu
theorem Own.nil (w : World) (c : Cod α) (size : Nat) (e : TypeId) (base : Nat) : Own c size e w base (.slice none 0 0) [] [] :=
  ⟨w.ownsRow_nil base e size, fun i x h => by simp at h⟩
theorem Own.made (w : World) (c : Cod α) (size : Nat) (e : TypeId) (base : Nat) (cur : Array Value) (cap : Nat) (hb : base ≤ w.heap.size) (hm : cap ≤ maxLen) (hs : cur.size = cap * size) :
    Own c size e (w.alloc (.cells cur e)) base (.slice (some ⟨w.heap.size, 0, none⟩) 0 cap) [] [] :=
  ⟨World.ownsRow_made w cur cap hb hm hs, fun i x h => by simp at h⟩
theorem Own.keep (h : Own c size e w base v l xs) (hg : Good c) (hk : ∀ b, base ≤ b → b < w.heap.size → w'.heap[b]? = w.heap[b]?) : Own c size e w' base v l xs := by
  refine ⟨⟨h.row.1, ?_⟩, fun i x hx => ?_⟩
  · rcases h.row.2 with h0 | ⟨g, cap, cur, hv, hb, hgg, r⟩
    · exact .inl h0
    · exact .inr ⟨g, cap, cur, hv, hb, (hk g hb (Array.getElem?_eq_some_iff.1 hgg).1).trans hgg, r⟩
  · obtain ⟨cs, hc, r⟩ := h.el i x hx
    exact ⟨cs, hg.keep hc (fun b hS hlt => ⟨hk b hS.1 hlt, hS⟩), r⟩
theorem Own.below (h : Own c size e w base v l xs) (hg : Good c) (hb : Below w.heap.size w w') : Own c size e w' base v l xs :=
  h.keep hg fun b _ hlt => hb.block b hlt
theorem Own.mono {base' : Nat} (h : Own c size e w base v l xs) (hg : Good c) (hb : base' ≤ base) : Own c size e w base' v l xs := by
  refine ⟨⟨h.row.1, ?_⟩, fun i x hx => ?_⟩
  · rcases h.row.2 with h0 | ⟨g, cap, cur, hv, hbb, r⟩
    · exact .inl h0
    · exact .inr ⟨g, cap, cur, hv, Nat.le_trans hb hbb, r⟩
  · obtain ⟨cs, hc, r⟩ := h.el i x hx
    exact ⟨cs, hg.keep hc (fun b hS _ => ⟨rfl, Nat.le_trans hb hS.1, hS.2⟩), r⟩
theorem Own.lt (h : Own c size e w base v l xs) : ∀ k, v.ownBlock = some k → base ≤ k ∧ k < w.heap.size := h.row.lt
theorem Own.joined {l2 : List α} {A : Option Addr} {m cap : Nat} {S : Nat → Prop} {v' : Value} {news : List Value} (h : Own c size e w base v l xs) (hg : Good c) (hsl : Sl c size w S A m cap l2)
    (hS : ∀ x cs, c w S x cs → c w (Beside base v) x cs) (hgr : w.grownBy w' v.ownBlock) (hat : v'.ownBlock = v.ownBlock ∨ v'.ownBlock = some w.heap.size)
    (hnl : news.length = m * size) (hnews : ∀ b off, A = some ⟨b, off, none⟩ → ∀ j u, news[j]? = some u → w.cell? ⟨b, off + j, none⟩ = some u)
    (hrow : w'.ownsRow base e size v' (l ++ l2).length (xs ++ news)) : Own c size e w' base v' (l ++ l2) (xs ++ news) := by
  refine ⟨hrow, fun i x hx => ?_⟩
  have hxl : xs.length = l.length * size := h.row.1
  have move : ∀ {x : α} {cs : List Value}, c w (Beside base v) x cs → c w' (Beside base v') x cs := fun hc =>
    hg.keep hc fun b hS hlt => ⟨hgr.block b hlt hS.2, hS.1, by
      rcases hat with e | e <;> rw [e]
      · exact hS.2
      · intro he; injection he with he; omega⟩
  by_cases hi : i < l.length
  · rw [List.getElem?_append_left hi] at hx
    obtain ⟨cs, hc, hl, hcell⟩ := h.el i x hx
    refine ⟨cs, move hc, hl, fun j u hu => ?_⟩
    have hj : j < size := by have := (List.getElem?_eq_some_iff.1 hu).1; omega
    rw [List.getElem?_append_left (by
      have : (i + 1) * size ≤ l.length * size := Nat.mul_le_mul_right _ hi
      rw [Nat.add_mul] at this; omega)]
    exact hcell j u hu
  · rw [List.getElem?_append_right (by omega)] at hx
    obtain ⟨b, off, cs, hA, _, hc, hl, hcell⟩ := hsl.rd _ x hx
    refine ⟨cs, move (hS _ _ hc), hl, fun j u hu => ?_⟩
    have hj : j < size := by have := (List.getElem?_eq_some_iff.1 hu).1; omega
    have hle : l.length * size ≤ i * size := Nat.mul_le_mul_right _ (by omega)
    rw [List.getElem?_append_right (by omega), hxl]
    have hi2 : i - l.length < m := by
      have := (List.getElem?_eq_some_iff.1 hx).1
      have := hsl.len
      omega
    have hidx : i * size + j - l.length * size = (i - l.length) * size + j := by rw [Nat.sub_mul]; omega
    have hlt : (i - l.length) * size + j < news.length := by
      rw [hnl]
      have : (i - l.length + 1) * size ≤ m * size := Nat.mul_le_mul_right _ hi2
      rw [Nat.add_mul] at this; omega
    rw [hidx]
    have h1 := hnews b off hA ((i - l.length) * size + j) news[(i - l.length) * size + j] (List.getElem?_eq_getElem hlt)
    have h2 := hcell j u hu
    rw [Nat.add_assoc, h1] at h2
    rw [List.getElem?_eq_getElem hlt]
    exact h2
end
theorem Sl.news {α : Type} {c : Cod α} {size : Nat} {w : World} {S : Nat → Prop} {A : Option Addr} {m cap : Nat} {l : List α} (h : Sl c size w S A m cap l) (hg : Good c) :
    ∃ news : List Value, news.length = m * size ∧ (∀ u ∈ news, u.oneCell' = true) ∧ ∀ b off, A = some ⟨b, off, none⟩ → ∀ j u, news[j]? = some u → w.cell? ⟨b, off + j, none⟩ = some u := by
  obtain ⟨hlen, _, _, hrd⟩ := h
  subst hlen
  have main : ∀ k, k ≤ l.length → ∃ news : List Value, news.length = k * size ∧ (∀ u ∈ news, u.oneCell' = true) ∧ ∀ b off, A = some ⟨b, off, none⟩ → ∀ j u, news[j]? = some u → w.cell? ⟨b, off + j, none⟩ = some u := by
    intro k
    induction k with
    | zero => exact fun _ => ⟨[], by simp, by simp, by simp⟩
    | succ k ih =>
      intro hk
      obtain ⟨news, hl, h1, hc⟩ := ih (by omega)
      obtain ⟨b, off, cs, hA, _, hcc, hcl, hcell⟩ := hrd k l[k] (List.getElem?_eq_getElem (by omega))
      refine ⟨news ++ cs, by rw [List.length_append, hl, hcl, Nat.add_mul]; omega, ?_, ?_⟩
      · intro u hu
        rcases List.mem_append.1 hu with hu | hu
        · exact h1 u hu
        · exact hg.one hcc u hu
      · intro b' off' hA' j u hu
        rw [hA] at hA'
        injection hA' with hA'
        injection hA' with hb ho _
        subst hb ho
        by_cases hj : j < news.length
        · rw [List.getElem?_append_left hj] at hu
          exact hc b off hA j u hu
        · rw [List.getElem?_append_right (by omega)] at hu
          have := hcell _ u hu
          rw [show off + j = off + k * size + (j - news.length) by omega]
          exact this
  exact main l.length (Nat.le_refl _)
structure ElemOf (P : Program) (t e : TypeId) (size bytes : Nat) : Prop where
  ht : P.underlying t = some (.slice e)
  hi : ∃ i z, P.info? e = some i ∧ i.zero = some z ∧ i.size = size ∧ i.bytes = bytes ∧ z.cells.size = size
  pos : 0 < size
theorem ElemOf.mk' {P : Program} {t e : TypeId} {size bytes : Nat} {z : Value} (ht : P.underlying t = some (.slice e)) (hi : (P.info? e).map (fun i => (i.zero, i.size, i.bytes)) = some (some z, size, bytes))
    (hz : z.cells.size = size) (hp : 0 < size) : ElemOf P t e size bytes := by
  obtain ⟨i, hi, hz0, hz1, hz2⟩ := info_parts hi
  exact ⟨ht, ⟨i, z, hi, hz0, hz1, hz2, hz⟩, hp⟩
section
variable {P : Program} {α : Type} {c : Cod α} {size bytes : Nat} {t e : TypeId} {w : World} {base : Nat} {v : Value} {l : List α} {xs : List Value}
theorem run_append_none (h : ElemOf P t e size bytes) (ty : TypeId) (hown : w.ownsRow base e size v l.length xs) (k : Nat) : (Builtin.append_ #[t, t] ty #[v, .slice none 0 k]).run P w = .ok v w := by
  obtain ⟨i, z, hi, _⟩ := h.hi
  rcases hown.2 with ⟨rfl, _⟩ | ⟨g, cap, cur, rfl, _, _, hnc, _⟩
  · simp [Builtin.append_, run_underlying h.ht, sizeOf, typeInfo, hi, Builtin.lenOf, Builtin.firstCells]
  · simp [Builtin.append_, run_underlying h.ht, sizeOf, typeInfo, hi, Builtin.lenOf, Builtin.firstCells, hnc, storeCells]
theorem run_app (he : ElemOf P t e size bytes) (hg : Good c) (ty : TypeId) (hown : Own c size e w base v l xs) {A : Option Addr} {m cap : Nat} {S : Nat → Prop} {l2 : List α} (hsl : Sl c size w S A m cap l2)
    (hS : ∀ x cs, c w S x cs → c w (Beside base v) x cs) (hbytes : (l.length + m) * bytes ≤ 140737488355328) (hb1 : 1 ≤ bytes) (hbase : base ≤ w.heap.size) :
    ∃ v' w' xs', (Builtin.append_ #[t, t] ty #[v, .slice A m cap]).run P w = .ok v' w' ∧ Own c size e w' base v' (l ++ l2) xs' ∧ w.grownBy w' v.ownBlock ∧ (v'.ownBlock = v.ownBlock ∨ v'.ownBlock = some w.heap.size) := by
  obtain ⟨news, hnl, h1, hnews⟩ := hsl.news hg
  rcases Nat.eq_zero_or_pos m with rfl | hm
  · have : l2 = [] := List.eq_nil_of_length_eq_zero hsl.len
    subst this
    rcases A with _ | a
    · refine ⟨v, w, xs, run_append_none he ty hown.row cap, by simpa using hown, ⟨rfl, rfl, rfl, Nat.le_refl _, fun _ _ _ => rfl⟩, .inl rfl⟩
    · obtain ⟨i, z, hi, hz, hsize, hby, hzs⟩ := he.hi
      have hn : news = [] := List.eq_nil_of_length_eq_zero (by simpa using hnl)
      subst hn
      obtain ⟨v', w', hr, h2, h3, _, h5⟩ := run_append_own_at w base t ty e i z size bytes he.ht hi hz hsize hby hzs he.pos v l.length xs hown.row a 0 cap [] (by simp) (by simp) (by simp)
        (by have hx : l.length * 1 ≤ l.length * bytes := Nat.mul_le_mul_left _ hb1; simp only [maxLen]; simp at hbytes; omega) hbytes hbase
      have h2' := hown.joined (v' := v') hg hsl hS h3 h5 (news := []) (by simp) (by simp) (by simpa using h2)
      exact ⟨v', w', _, hr, h2', h3, h5⟩
  · obtain ⟨b, off, cs, hA, _⟩ := hsl.rd 0 (l2[0]'(by have := hsl.len; omega)) (List.getElem?_eq_getElem (by have := hsl.len; omega))
    subst hA
    obtain ⟨i, z, hi, hz, hsize, hby, hzs⟩ := he.hi
    have hadd : ∀ j, (⟨b, off, none⟩ : Addr).add j = ⟨b, off + j, none⟩ := fun j => by
      unfold Addr.add; split
      · next h0 => rw [h0]; rfl
      · rfl
    obtain ⟨v', w', hr, h2, h3, _, h5⟩ := run_append_own_at w base t ty e i z size bytes he.ht hi hz hsize hby hzs he.pos v l.length xs hown.row ⟨b, off, none⟩ m cap news hnl
      (fun j u hu => by rw [hadd]; exact hnews b off rfl j u hu) h1
      (by have hx : (l.length + m) * 1 ≤ (l.length + m) * bytes := Nat.mul_le_mul_left _ hb1; simp only [maxLen]; omega) hbytes hbase
    exact ⟨v', w', _, hr, hown.joined hg hsl hS h3 h5 hnl hnews (by rw [List.length_append, hsl.len]; exact h2), h3, h5⟩
theorem wp_app {o : Oper} {a : Act} {K : Act → World → Prop} {Q : Exit → Act → World → Prop} (s x : Operand)
    (ho : o.op = .call { callee := .builtin .append, args := #[s, x], argTypes := #[t, t] })
    (he : ElemOf P t e size bytes) (hg : Good c) {A : Option Addr} {m cap : Nat} {S : Nat → Prop} {l2 : List α} (hs : a.eval s = v) (hown : Own c size e w base v l xs) (hx : a.eval x = .slice A m cap) (hsl : Sl c size w S A m cap l2)
    (hS : ∀ x cs, c w S x cs → c w (Beside base v) x cs) (hbytes : (l.length + m) * bytes ≤ 140737488355328) (hb1 : 1 ≤ bytes) (hbase : base ≤ w.heap.size)
    (h : ∀ v' w' xs', Own c size e w' base v' (l ++ l2) xs' → w.grownBy w' v.ownBlock → (v'.ownBlock = v.ownBlock ∨ v'.ownBlock = some w.heap.size) → K (a.put o.dst v') w') : o.wp P a w K Q := by
  obtain ⟨v', w', xs', hrun, h2, h3, h4⟩ := run_app (P := P) he hg o.type hown hsl hS hbytes hb1 hbase
  unfold Oper.wp execOp
  simp only [ho, resolve, invoke, builtin, Sem.run_bind, Sem.run_pure, Result.andThen_ok, List.map_toArray, List.map_cons, List.map_nil, hs, hx, hrun]
  exact h v' w' xs' h2 h3 h4
theorem list_app {ops : Array Oper} {rest : List Oper} {o : Oper} {a : Act} {Q : Exit → Act → World → Prop} (hgd : o.guard = none) (s x : Operand)
    (ho : o.op = .call { callee := .builtin .append, args := #[s, x], argTypes := #[t, t] })
    (he : ElemOf P t e size bytes) (hg : Good c) {A : Option Addr} {m cap : Nat} {S : Nat → Prop} {l2 : List α} (hs : a.eval s = v) (hown : Own c size e w base v l xs) (hx : a.eval x = .slice A m cap) (hsl : Sl c size w S A m cap l2)
    (hS : ∀ x cs, c w S x cs → c w (Beside base v) x cs) (hbytes : (l.length + m) * bytes ≤ 140737488355328) (hb1 : 1 ≤ bytes) (hbase : base ≤ w.heap.size)
    (h : ∀ v' w' xs', Own c size e w' base v' (l ++ l2) xs' → w.grownBy w' v.ownBlock → (v'.ownBlock = v.ownBlock ∨ v'.ownBlock = some w.heap.size) → wpList P ops Q rest (a.put o.dst v') w') : wpList P ops Q (o :: rest) a w :=
  wpList_plain hgd fun _ hK => wp_app s x ho he hg hs hown hx hsl hS hbytes hb1 hbase fun v' w' xs' h2 h3 h4 => hK _ _ (h v' w' xs' h2 h3 h4)
end
theorem below_app {α : Type} {c : Cod α} {size : Nat} {e : TypeId} {a w w' : World} {base : Nat} {v : Value} {l : List α} {xs : List Value} (h : Below base a w) (hown : Own c size e w base v l xs) (hg : w.grownBy w' v.ownBlock) (hB : base ≤ w.heap.size) : Below base a w' :=
  h.grown hg hB fun k hk => (hown.lt k hk).1
end Go.Proofs.YtoilcdgpeilgaaaGreat
namespace Go.Proofs.YtoilcdgpeilgaaaGreat
open Go.RowKit Go.Shelf
theorem gA {α : Type} {l : List α} {i : Nat} {x : α} (h : l[i]? = some x) : l.toArray[i]? = some x := by simpa using h
theorem retI {k : IntKind} {a b : Int} (h : a = b) : Ending.returned (.int k a) = .returned (.int k b) := by rw [h]
theorem retB {a b : Bool} (h : a = b) : Ending.returned (.bool a) = .returned (.bool b) := by rw [h]
def firstErr (f : Nat → Int) : Nat → Int
  | 0 => 0
  | n + 1 => if firstErr f n = 0 then f n else firstErr f n
theorem firstErr_succ {f : Nat → Int} {n : Nat} (h : firstErr f n = 0) : firstErr f (n + 1) = f n := by simp [firstErr, h]
theorem firstErr_at {f : Nat → Int} {k n : Nat} (h : firstErr f k = 0) (hk : f k ≠ 0) (hn : k < n) : firstErr f n = f k := by
  induction n with
  | zero => omega
  | succ n ih =>
    by_cases e : n = k
    · subst e; exact firstErr_succ h
    · have := ih (by omega)
      simp only [firstErr, this, if_neg hk]
def betB (n a b : Int) : Bool := decide (a ≤ n) && decide (n ≤ b)
theorem betB_true {n a b : Int} (h : a ≤ n) (h2 : n ≤ b) : betB n a b = true := by simp [betB, h, h2]
theorem betB_false {n a b : Int} (h : n < a ∨ b < n) : betB n a b = false := by simp [betB]; omega
theorem betB_iff {n a b : Int} : betB n a b = true ↔ a ≤ n ∧ n ≤ b := by simp [betB]
theorem take_snoc {α : Type} {l : List α} {k : Nat} {x : α} (h : l[k]? = some x) : l.take (k + 1) = l.take k ++ [x] := by
  rw [List.take_add_one, h]; rfl
def idxF {α : Type} (p : α → Bool) (l : List α) : Int := if l.any p then (l.findIdx p : Int) else -1
section
variable {α : Type} {p : α → Bool} {l : List α} {k : Nat} {x : α}
theorem any_take_succ (hx : l[k]? = some x) : (l.take (k + 1)).any p = ((l.take k).any p || p x) := by rw [take_snoc hx]; simp
theorem any_at (hx : l[k]? = some x) (hp : p x = true) : l.any p = true := List.any_eq_true.2 ⟨x, List.mem_of_getElem? hx, hp⟩
theorem idxF_at (h : (l.take k).any p = false) (hx : l[k]? = some x) (hp : p x = true) : idxF p l = (k : Int) := by
  have hlt : k < l.length := (List.getElem?_eq_some_iff.1 hx).1
  have hi : l.findIdx p = k := by
    rw [List.findIdx_eq hlt]
    refine ⟨?_, fun j hj => ?_⟩
    · rw [List.getElem?_eq_getElem hlt] at hx; injection hx with hx; rw [hx]; exact hp
    · have := List.any_eq_false.1 h (l[j]'(by omega)) (List.mem_take_iff_getElem.2 ⟨j, by omega, rfl⟩)
      simpa using this
  unfold idxF
  rw [any_at hx hp, hi]; rfl
theorem idxF_none (h : l.any p = false) : idxF p l = -1 := by unfold idxF; rw [h]; rfl
theorem idxF_any : decide (0 ≤ idxF p l) = l.any p := by
  unfold idxF
  cases l.any p <;> simp
theorem idxF_bd (h : l.length ≤ 9223372036854775807) : -1 ≤ idxF p l ∧ idxF p l < 9223372036854775807 := by
  unfold idxF
  cases e : l.any p
  · simp
  · have : l.findIdx p < l.length := List.findIdx_lt_length.2 (by simpa using e)
    simp; omega
end
theorem cell_of_blk {w : World} {b j : Nat} {cs : Array Value} {t : TypeId} {fz : Nat × Nat} {v : Value} (h : w.heap[b]? = some (.cells cs t fz)) (hj : cs[j]? = some v) : w.cell? ⟨b, j, none⟩ = some v := by simp [World.cell?, h, hj]
theorem blk1 (w : World) (A : Obj) : (w.alloc A).heap[w.heap.size]? = some A := heap_alloc_new _ _
theorem blk2_0 (w : World) (A B : Obj) : ((w.alloc A).alloc B).heap[w.heap.size]? = some A := (Below.heap_alloc _ _ _ (by simp)).trans (blk1 _ _)
theorem blk2_1 (w : World) (A B : Obj) : ((w.alloc A).alloc B).heap[w.heap.size + 1]? = some B := by
  have := blk1 (w.alloc A) B
  rwa [show (w.alloc A).heap.size = w.heap.size + 1 by simp] at this
theorem blk3_0 (w : World) (A B C : Obj) : (((w.alloc A).alloc B).alloc C).heap[w.heap.size]? = some A := (Below.heap_alloc _ _ _ (by simp; omega)).trans (blk2_0 _ _ _)
theorem blk3_1 (w : World) (A B C : Obj) : (((w.alloc A).alloc B).alloc C).heap[w.heap.size + 1]? = some B := (Below.heap_alloc _ _ _ (by simp)).trans (blk2_1 _ _ _)
theorem blk3_2 (w : World) (A B C : Obj) : (((w.alloc A).alloc B).alloc C).heap[w.heap.size + 1 + 1]? = some C := by
  have := blk2_1 (w.alloc A) B C
  rwa [show (w.alloc A).heap.size = w.heap.size + 1 by simp] at this
theorem Own.form {α : Type} {c : Cod α} {size : Nat} {e : TypeId} {w : World} {base : Nat} {v : Value} {l : List α} {xs : List Value} (h : Own c size e w base v l xs) (hn : 0 < l.length) :
    ∃ g cap, v = .slice (some ⟨g, 0, none⟩) l.length cap ∧ base ≤ g ∧ g < w.heap.size := by
  rcases h.row.2 with ⟨_, h0⟩ | ⟨g, cap, cur, hv, hb, hgg, _⟩
  · omega
  · exact ⟨g, cap, hv, hb, (Array.getElem?_eq_some_iff.1 hgg).1⟩
section
variable {α : Type} {c : Cod α} {size : Nat} {e : TypeId} {w : World} {base g n cap : Nat} {l : List α} {xs : List Value}
theorem Own.cells (h : Own c size e w base (.slice (some ⟨g, 0, none⟩) n cap) l xs) {i : Nat} {x : α} (hx : l[i]? = some x) :
    ∃ cs, c w (Beside base (.slice (some ⟨g, 0, none⟩) n cap)) x cs ∧ cs.length = size ∧ (∀ j u, cs[j]? = some u → w.cell? ⟨g, i * size + j, none⟩ = some u) ∧ ∀ j, w.frozen? ⟨g, j, none⟩ = false := by
  obtain ⟨cs, hc, hl, hcell⟩ := h.el i x hx
  have hi : i < l.length := (List.getElem?_eq_some_iff.1 hx).1
  have hrow := h.row
  have hn : n = l.length := by
    rcases hrow.2 with ⟨hv, _⟩ | ⟨g', cap', cur, hv, _⟩
    · cases hv
    · injection hv
  subst hn
  refine ⟨cs, hc, hl, fun j u hu => ?_, fun j => hrow.frozenAt j⟩
  have hj : j < size := by have := (List.getElem?_eq_some_iff.1 hu).1; omega
  rw [hrow.cellAt _ (by
    have : (i + 1) * size ≤ l.length * size := Nat.mul_le_mul_right _ hi
    rw [Nat.add_mul] at this; omega)]
  exact hcell j u hu
theorem Own.put (hf : Flat c) (h : Own c size e w base (.slice (some ⟨g, 0, none⟩) n cap) l xs) {i j : Nat} {x x' : α} {u : Value} (hx : l[i]? = some x) (hj : j < size)
    (hc : ∀ w S cs, c w S x cs → c w S x' (cs.set j u)) :
    Own c size e (w.setCell ⟨g, i * size + j, none⟩ u) base (.slice (some ⟨g, 0, none⟩) n cap) (l.set i x') (xs.set (i * size + j) u) := by
  have hrow := h.row
  have hn : n = l.length := by
    rcases hrow.2 with ⟨hv, _⟩ | ⟨g', cap', cur, hv, _⟩
    · cases hv
    · injection hv
  subst hn
  have hil : i < l.length := (List.getElem?_eq_some_iff.1 hx).1
  have hxl : xs.length = l.length * size := hrow.1
  have hlt : i * size + j < xs.length := by
    have : (i + 1) * size ≤ l.length * size := Nat.mul_le_mul_right _ hil
    rw [Nat.add_mul] at this; omega
  refine ⟨by rw [List.length_set]; exact (hrow.stored _ u).1, fun k y hy => ?_⟩
  by_cases hk : k = i
  · subst hk
    rw [List.getElem?_set_self hil] at hy
    injection hy with hy
    subst hy
    obtain ⟨cs, hcc, hl, hcell⟩ := h.el k x hx
    refine ⟨cs.set j u, hf _ _ _ _ _ _ (hc _ _ _ hcc), by simpa using hl, fun q v hv => ?_⟩
    by_cases hq : q = j
    · subst hq
      rw [List.getElem?_set_self (by omega)] at hv
      rw [List.getElem?_set_self hlt]
      exact hv
    · rw [List.getElem?_set_ne (by omega)] at hv
      rw [List.getElem?_set_ne (by omega)]
      exact hcell q v hv
  · rw [List.getElem?_set_ne (by omega)] at hy
    obtain ⟨cs, hcc, hl, hcell⟩ := h.el k y hy
    refine ⟨cs, hf _ _ _ _ _ _ hcc, hl, fun q v hv => ?_⟩
    have hq : q < size := by have := (List.getElem?_eq_some_iff.1 hv).1; omega
    rw [List.getElem?_set_ne ?_]
    · exact hcell q v hv
    · intro he
      rcases Nat.lt_or_ge k i with h1 | h1
      · have : (k + 1) * size ≤ i * size := Nat.mul_le_mul_right _ h1
        rw [Nat.add_mul] at this; omega
      · have : (i + 1) * size ≤ k * size := Nat.mul_le_mul_right _ (by omega)
        rw [Nat.add_mul] at this; omega
end
class CodK {α : Type} (c : Cod α) (size : Nat) : Prop where
  good : Good c
  pos : 0 < size
instance intK : CodK intC 1 := ⟨intC_good, by omega⟩
theorem Sl.bel {α : Type} {c : Cod α} {size : Nat} [k : CodK c size] {w w' : World} {S : Nat → Prop} {A : Option Addr} {n cap : Nat} {l : List α} (h : Sl c size w S A n cap l) (hb : Below w.heap.size w w') : Sl c size w' S A n cap l :=
  h.below k.good k.pos hb
theorem Own.bel {α : Type} {c : Cod α} {size : Nat} [k : CodK c size] {w w' : World} {e : TypeId} {base : Nat} {v : Value} {l : List α} {xs : List Value} (h : Own c size e w base v l xs) (hb : Below w.heap.size w w') : Own c size e w' base v l xs :=
  h.below k.good hb
def Blk (w : World) (b : Nat) (cs : Array Value) (t : TypeId) : Prop := w.heap[b]? = some (.cells cs t (0, 0))
theorem Blk.lt {w : World} {b : Nat} {cs : Array Value} {t : TypeId} (h : Blk w b cs t) : b < w.heap.size := lt_of_block h
theorem Blk.bel {w w' : World} {b : Nat} {cs : Array Value} {t : TypeId} (h : Blk w b cs t) (hb : Below w.heap.size w w') : Blk w' b cs t := (hb.block _ (lt_of_block h)).trans h
theorem Blk.new (w : World) (cs : Array Value) (t : TypeId) : Blk (w.alloc (.cells cs t)) w.heap.size cs t := blk1 _ _
theorem Blk.old {w : World} {b : Nat} {cs : Array Value} {t : TypeId} (h : Blk w b cs t) (o : Obj) : Blk (w.alloc o) b cs t := (Below.heap_alloc _ _ _ h.lt).trans h
theorem Blk.cell {w : World} {b j : Nat} {cs : Array Value} {t : TypeId} {v : Value} (h : Blk w b cs t) (hj : cs[j]? = some v) : w.cell? ⟨b, j, none⟩ = some v := cell_of_blk h hj
theorem bel1 (w : World) (o : Obj) : Below w.heap.size w (w.alloc o) := (Below.refl _ _).alloc (Nat.le_refl _) _
theorem bel2 (w : World) (o p : Obj) : Below w.heap.size w ((w.alloc o).alloc p) := (bel1 w o).alloc (by simp) _
theorem bel3 (w : World) (o p q : Obj) : Below w.heap.size w (((w.alloc o).alloc p).alloc q) := (bel2 w o p).alloc (by simp; omega) _
theorem Sl.ofBlk {α : Type} {c : Cod α} {size : Nat} {w : World} {S : Nat → Prop} {b : Nat} {cs : Array Value} {t : TypeId} (h : Blk w b cs t) (l : List α) (hm : l.length ≤ 1000000) (hS : S b)
    (hel : ∀ i x, l[i]? = some x → ∃ c5, c w S x c5 ∧ c5.length = size ∧ ∀ j u, c5[j]? = some u → cs[i * size + j]? = some u) : Sl c size w S (some ⟨b, 0, none⟩) l.length l.length l := by
  refine ⟨rfl, Nat.le_refl _, by simp only [maxLen]; omega, fun i x hx => ?_⟩
  obtain ⟨c5, hc, hl, hcell⟩ := hel i x hx
  exact ⟨b, 0, c5, rfl, hS, hc, hl, fun j u hu => by rw [Nat.zero_add]; exact h.cell (hcell j u hu)⟩
theorem Sl.ofInts {w : World} {S : Nat → Prop} {b : Nat} {t : TypeId} (l : List Int) (h : Blk w b (l.map (Value.int .i64)).toArray t) (hm : l.length ≤ 1000000) (hS : S b) (hi : ∀ x ∈ l, -1000000000000000 ≤ x ∧ x ≤ 1000000000000000) :
    Sl intC 1 w S (some ⟨b, 0, none⟩) l.length l.length l :=
  Sl.ofBlk h l hm hS fun i x hx => ⟨[.int .i64 x], ⟨rfl, .of (hi x (List.mem_of_getElem? hx)).1 (hi x (List.mem_of_getElem? hx)).2⟩, rfl, fun j u hu => by
    rcases j with _ | j
    · simp at hu; subst hu; simp [hx]
    · simp at hu⟩
theorem Blk.new1 (w : World) (o : Obj) (cs : Array Value) (t : TypeId) : Blk ((w.alloc o).alloc (.cells cs t)) (w.heap.size + 1) cs t := by
  have := Blk.new (w.alloc o) cs t
  rwa [show (w.alloc o).heap.size = w.heap.size + 1 by simp] at this
theorem Blk.new2 (w : World) (o p : Obj) (cs : Array Value) (t : TypeId) : Blk (((w.alloc o).alloc p).alloc (.cells cs t)) (w.heap.size + 1 + 1) cs t := by
  have := Blk.new ((w.alloc o).alloc p) cs t
  rwa [show ((w.alloc o).alloc p).heap.size = w.heap.size + 1 + 1 by simp] at this
theorem Blk.new3 (w : World) (o p q : Obj) (cs : Array Value) (t : TypeId) : Blk ((((w.alloc o).alloc p).alloc q).alloc (.cells cs t)) (w.heap.size + 1 + 1 + 1) cs t := by
  have := Blk.new (((w.alloc o).alloc p).alloc q) cs t
  rwa [show (((w.alloc o).alloc p).alloc q).heap.size = w.heap.size + 1 + 1 + 1 by simp] at this
theorem Blk.new4 (w : World) (o p q r : Obj) (cs : Array Value) (t : TypeId) : Blk (((((w.alloc o).alloc p).alloc q).alloc r).alloc (.cells cs t)) (w.heap.size + 1 + 1 + 1 + 1) cs t := by
  have := Blk.new ((((w.alloc o).alloc p).alloc q).alloc r) cs t
  rwa [show ((((w.alloc o).alloc p).alloc q).alloc r).heap.size = w.heap.size + 1 + 1 + 1 + 1 by simp] at this
theorem Blk.new5 (w : World) (o p q r s : Obj) (cs : Array Value) (t : TypeId) : Blk ((((((w.alloc o).alloc p).alloc q).alloc r).alloc s).alloc (.cells cs t)) (w.heap.size + 1 + 1 + 1 + 1 + 1) cs t := by
  have := Blk.new (((((w.alloc o).alloc p).alloc q).alloc r).alloc s) cs t
  rwa [show (((((w.alloc o).alloc p).alloc q).alloc r).alloc s).heap.size = w.heap.size + 1 + 1 + 1 + 1 + 1 by simp] at this
theorem Sl.lit {α : Type} {c : Cod α} {size : Nat} (w : World) (S : Nat → Prop) (t : TypeId) (cells : List Value) (l : List α) (hm : l.length ≤ 1000000) (hS : S w.heap.size)
    (h : ∀ i x, l[i]? = some x → ∃ cs, c (w.alloc (.cells cells.toArray t)) S x cs ∧ cs.length = size ∧ ∀ j u, cs[j]? = some u → cells[i * size + j]? = some u) :
    Sl c size (w.alloc (.cells cells.toArray t)) S (some ⟨w.heap.size, 0, none⟩) l.length l.length l := by
  refine ⟨rfl, Nat.le_refl _, by simp only [maxLen]; omega, fun i x hx => ?_⟩
  obtain ⟨cs, hc, hl, hcell⟩ := h i x hx
  exact ⟨w.heap.size, 0, cs, rfl, hS, hc, hl, fun j u hu => by simpa using hcell j u hu⟩
theorem slC_good {α : Type} {c : Cod α} {size : Nat} (hg : Good c) (hs : 0 < size) : Good (slC c size) :=
  ⟨fun ⟨A, n, cap, e, h⟩ hk => ⟨A, n, cap, e, h.keep hg hs hk⟩, fun ⟨A, n, cap, e, _⟩ u hu => by subst e; simp at hu; subst hu; rfl⟩
theorem list_builtin_append {P : Program} {t t2 : TypeId} {ops : Array Oper} {rest : List Oper} {o : Oper} {a : Act} {w w' : World} {v u v' : Value} {Q : Exit → Act → World → Prop} (hgd : o.guard = none) (s x : Operand)
    (ho : o.op = .call { callee := .builtin .append, args := #[s, x], argTypes := #[t, t2] }) (hs : a.eval s = v) (hx : a.eval x = u)
    (hrun : (Builtin.append_ #[t, t2] o.type #[v, u]).run P w = .ok v' w') (h : wpList P ops Q rest (a.put o.dst v') w') : wpList P ops Q (o :: rest) a w :=
  wpList_plain hgd fun _ hK => by
    unfold Oper.wp execOp
    simp only [ho, resolve, invoke, builtin, Sem.run_bind, Sem.run_pure, Result.andThen_ok, List.map_toArray, List.map_cons, List.map_nil, hs, hx, hrun]
    exact hK _ _ h
theorem own_setCell_flat {α : Type} {c : Cod α} (hf : Flat c) {size : Nat} {e : TypeId} {w : World} {base : Nat} {v : Value} {l : List α} {xs : List Value} (h : Own c size e w base v l xs) {a : Addr} (ha : v.ownBlock ≠ some a.block) (u : Value) : Own c size e (w.setCell a u) base v l xs :=
  ⟨ownsRow_setCell_other h.row ha u, fun i x hx => by
    obtain ⟨cs, hc, r⟩ := h.el i x hx
    exact ⟨cs, hf _ _ _ _ _ _ hc, r⟩⟩
structure Kept (S : Nat → Prop) (w w' : World) : Prop where
  os : w'.os = w.os
  tape : w'.tape = w.tape
  output : w'.output = w.output
  size : w.heap.size ≤ w'.heap.size
  block : ∀ k, k < w.heap.size → ¬ S k → w'.heap[k]? = w.heap[k]?
theorem Kept.refl (S : Nat → Prop) (w : World) : Kept S w w := ⟨rfl, rfl, rfl, Nat.le_refl _, fun _ _ _ => rfl⟩
theorem Kept.trans {S : Nat → Prop} {a b c : World} (h : Kept S a b) (k : Kept S b c) : Kept S a c :=
  ⟨k.os.trans h.os, k.tape.trans h.tape, k.output.trans h.output, Nat.le_trans h.size k.size, fun i hi hS => (k.block i (Nat.lt_of_lt_of_le hi h.size) hS).trans (h.block i hi hS)⟩
theorem Kept.mono {S T : Nat → Prop} {a b : World} (h : Kept S a b) (hS : ∀ k, k < a.heap.size → S k → T k) : Kept T a b :=
  ⟨h.os, h.tape, h.output, h.size, fun i hi hT => h.block i hi fun hs => hT (hS i hi hs)⟩
theorem Kept.of_below {S : Nat → Prop} {a b : World} {B : Nat} (h : Below B a b) (hB : ∀ k, k < a.heap.size → B ≤ k → S k) : Kept S a b :=
  ⟨h.os, h.tape, h.output, h.size, fun i hi hS => h.block i (by rcases Nat.lt_or_ge i B with h1 | h1; exact h1; exact absurd (hB i hi h1) hS)⟩
theorem Kept.below {S : Nat → Prop} {a b : World} {B : Nat} (h : Kept S a b) (hB : B ≤ a.heap.size) (hS : ∀ k, k < B → ¬ S k) : Below B a b :=
  ⟨h.os, h.tape, h.output, h.size, fun i hi => h.block i (by omega) (hS i hi)⟩
theorem Kept.alloc {S : Nat → Prop} {a w : World} (h : Kept S a w) (o : Obj) : Kept S a (w.alloc o) :=
  h.trans ⟨rfl, rfl, rfl, by simp, fun k hk _ => Below.heap_alloc _ _ _ hk⟩
theorem Kept.drew {S : Nat → Prop} {a w : World} (h : Kept S a w) : Kept S a w.drew := ⟨h.os, h.tape, h.output, h.size, h.block⟩
theorem Kept.setCell {S : Nat → Prop} {a w : World} (h : Kept S a w) {p : Addr} (hp : S p.block ∨ a.heap.size ≤ p.block) (u : Value) : Kept S a (w.setCell p u) :=
  ⟨h.os, h.tape, h.output, by simpa [World.setCell] using h.size, fun k hk hS => (Below.heap_setCell _ _ _ _ (by rintro rfl; rcases hp with hp | hp; exact hS hp; omega)).trans (h.block k hk hS)⟩
theorem Blk.kept {S : Nat → Prop} {w w' : World} {b : Nat} {cs : Array Value} {t : TypeId} (h : Blk w b cs t) (hk : Kept S w w') (hS : ¬ S b) : Blk w' b cs t := (hk.block b h.lt hS).trans h
theorem Sl.kept {α : Type} {c : Cod α} {size : Nat} [k : CodK c size] {w w' : World} {S T : Nat → Prop} {A : Option Addr} {n cap : Nat} {l : List α} (h : Sl c size w T A n cap l) (hk : Kept S w w') (hS : ∀ b, b < w.heap.size → T b → ¬ S b) : Sl c size w' T A n cap l :=
  h.keep k.good k.pos fun b hT hlt => ⟨hk.block b hlt (hS b hlt hT), hT⟩
end Go.Proofs.YtoilcdgpeilgaaaGreat
namespace Go.Proofs.YtoilcdgpeilgaaaGreat
open Go.RowKit Go.Shelf
theorem int_elem : ElemOf Tryz.prog 47 3 1 8 := .mk' Tryz.underlying47 (z := .int .i64 0) (by kernel_rfl) rfl (by omega)
set_option maxHeartbeats 1000000 in
theorem IndexFunc_int (A : Option Addr) (n cap : Nat) (l : List Int) (g : Nat) (lb : Array Value) (p : Int → Bool) (w : World) (h : Sl intC 1 w All A n cap l)
    (eg : ∀ args w, (callFunc g args).run Tryz.prog w = .ok (.enter g args) w)
    (hp : ∀ (x : Int) (w1 : World), x ∈ l → Below w.heap.size w w1 → Calls Tryz.prog g (#[.int .i64 x] ++ lb) w1 fun e w' => e = .returned (.bool (p x)) ∧ Below w1.heap.size w1 w') :
    Calls Tryz.prog 226 #[.slice A n cap, .func (.func g) #[] lb] w fun e w' => e = .returned (.int .i64 (idxF p l)) ∧ Below w.heap.size w w' := by
  have Hp := Lib.hid hp
  clear hp
  have hbd := h.bd
  go_enter Tryz.func226, Tryz.ntmps226
  go_wp2_with fail
  go_loopg [8] n (fun gk i wr => ∃ k : Nat, k ≤ n ∧ n - k ≤ gk ∧ i = .int .i64 k ∧ Aside ((l.take k).any p = false) ∧ Below w.heap.size w wr)
  case atStart => exact ⟨0, Nat.zero_le _, by omega, rfl, rfl, Below.refl _ _⟩
  case round =>
    obtain ⟨k, hk, hgk, rfl, HA, hb⟩ := hrel
    by_cases hlt : k < n
    · obtain ⟨b, off, x, c0, rfl, hx, hc, g0⟩ := (h.below intC_good (by omega) hb).at1 hlt
      obtain ⟨hc, hw⟩ := hc
      simp only [List.cons.injEq, and_true] at hc
      obtain rfl := hc
      have HX := Lib.hid hx
      have HM := Lib.hid (List.mem_of_getElem? hx)
      clear hx
      have hcall := fun w1 (hb1 : Below w.heap.size w w1) => Hp.out x w1 HM.out hb1
      cases hq : p x with
      | true =>
        rw [hq] at hcall
        have HQ := Lib.hid hq
        clear hq
        go_wp2_with (go_at_fn g; refine (hcall _ hb).mono ?_; rintro e w1 ⟨rfl, hb1⟩; replace hb1 := hb.trans (hb1.mono hb.size); clear hcall)
        go_ret
        exact ⟨retI (idxF_at HA HX.out HQ.out).symm, hb1⟩
      | false =>
        rw [hq] at hcall
        have HQ := Lib.hid hq
        clear hq
        go_wp2_with (go_at_fn g; refine (hcall _ hb).mono ?_; rintro e w1 ⟨rfl, hb1⟩; replace hb1 := hb.trans (hb1.mono hb.size); clear hcall)
        go_roundg (n - (k + 1))
        case measure => omega
        case rel => exact ⟨k + 1, by omega, by omega, by go_num, by show _ = _; rw [any_take_succ HX.out, HA, HQ.out]; rfl, hb1⟩
    · have : k = n := by omega
      subst this
      have HT := Lib.hid (List.take_of_length_le (Nat.le_of_eq h.len))
      go_wp2_with fail
      go_ret
      exact ⟨retI (by rw [idxF_none (by rw [← HT.out]; exact HA)]), hb⟩
theorem ContainsFunc_int (A : Option Addr) (n cap : Nat) (l : List Int) (g : Nat) (lb : Array Value) (p : Int → Bool) (w : World) (h : Sl intC 1 w All A n cap l)
    (eg : ∀ args w, (callFunc g args).run Tryz.prog w = .ok (.enter g args) w)
    (hp : ∀ (x : Int) (w1 : World), x ∈ l → Below w.heap.size w w1 → Calls Tryz.prog g (#[.int .i64 x] ++ lb) w1 fun e w' => e = .returned (.bool (p x)) ∧ Below w1.heap.size w1 w') :
    Calls Tryz.prog 148 #[.slice A n cap, .func (.func g) #[] lb] w fun e w' => e = .returned (.bool (l.any p)) ∧ Below w.heap.size w w' := by
  have HC := IndexFunc_int A n cap l g lb p w h eg hp
  clear hp
  go_enter Tryz.func148, Tryz.ntmps148
  go_wp2_with fail
  refine HC.mono ?_
  rintro e w1 ⟨rfl, hb⟩
  have HI := Lib.hid (idxF_any (p := p) (l := l))
  have hbd := idxF_bd (p := p) (l := l) (by have := h.bd; have := h.len; omega)
  go_wp2_with fail
  go_ret
  exact ⟨retB HI.out, hb⟩
set_option maxHeartbeats 1000000 in
theorem Clone_int (A : Option Addr) (n cap : Nat) (l : List Int) (w : World) (h : Sl intC 1 w All A n cap l) (hn : n * 8 ≤ 140737488355328) :
    Calls Tryz.prog 243 #[.slice A n cap] w fun e w' => ∃ v xs, e = .returned v ∧ Own intC 1 3 w' w.heap.size v l xs ∧ Below w.heap.size w w' := by
  have hnil := fun (W : World) (a : Option Addr) => Lib.run_eql_slice_nil (P := Tryz.prog) W 47 3 a n cap 0 0 Tryz.underlying47
  rcases A with _ | a
  · have hl : l = [] := by
      rcases l with _ | ⟨x, l⟩
      · rfl
      · obtain ⟨b, off, cs, hA, _⟩ := h.rd 0 x rfl
        cases hA
    subst hl
    go_enter Tryz.func243, Tryz.ntmps243
    go_wp2
    go_ret
    exact ⟨_, _, rfl, Own.nil _ _ _ _ _, Below.refl _ _⟩
  · go_enter Tryz.func243, Tryz.ntmps243
    go_wp2_with (at_builtin; refine list_app (t := 47) (e := 3) (bytes := 8) rfl (.tmp 5) (.tmp 6) rfl int_elem intC_good rfl (Own.made w intC 1 3 w.heap.size #[] 0 (Nat.le_refl _) (by simp [maxLen]) rfl) rfl (h.below intC_good (by omega) ((Below.refl _ _).alloc (Nat.le_refl _) _)) (fun _ _ hc => hc) (by simp; omega) (by omega) (by simp) ?_; intro v' w' xs' hown hg _)
    go_ret
    exact ⟨_, _, rfl, hown, below_app (Below.alloc (Below.refl _ _) (Nat.le_refl _) _) (Own.made w intC 1 3 w.heap.size #[] 0 (Nat.le_refl _) (by simp [maxLen]) rfl) hg (by simp)⟩
def mx (l : List Int) : Int := l.foldl max (-1)
theorem mx_snoc (l : List Int) (x : Int) : mx (l ++ [x]) = max (mx l) x := by simp [mx]
theorem mx_succ {l : List Int} {k : Nat} {x : Int} (h : l[k]? = some x) : mx (l.take (k + 1)) = max (mx (l.take k)) x := by rw [take_snoc h, mx_snoc]
theorem foldl_ge (l : List Int) : ∀ a, a ≤ l.foldl max a ∧ (∀ x ∈ l, x ≤ l.foldl max a) ∧ (l.foldl max a = a ∨ l.foldl max a ∈ l) := by
  induction l with
  | nil => intro a; simp
  | cons y l ih =>
    intro a
    obtain ⟨h1, h2, h3⟩ := ih (max a y)
    rw [List.foldl_cons]
    refine ⟨by omega, ?_, ?_⟩
    · intro x hx
      rcases List.mem_cons.1 hx with rfl | hx
      · omega
      · exact h2 x hx
    · rcases h3 with h3 | h3
      · rw [h3]
        rcases Int.le_total a y with h | h
        · right; rw [Int.max_eq_right h]; simp
        · left; rw [Int.max_eq_left h]
      · right; exact List.mem_cons_of_mem _ h3
theorem mx_in {l : List Int} (h : ∀ x ∈ l, InI x) : InI (mx l) := by
  rcases (foldl_ge l (-1)).2.2 with e | e
  · unfold mx; rw [e]; exact .of (by omega) (by omega)
  · exact h _ e
theorem Sl.ints {w : World} {A : Option Addr} {n cap : Nat} {l : List Int} (h : Sl intC 1 w All A n cap l) : ∀ x ∈ l, InI x := by
  intro x hx
  obtain ⟨i, hi⟩ := List.getElem?_of_mem hx
  obtain ⟨_, _, _, _, _, hc, _⟩ := h.rd i x hi
  exact hc.2
set_option maxHeartbeats 1000000 in
theorem Max_int (A : Option Addr) (n cap : Nat) (l : List Int) (w : World) (h : Sl intC 1 w All A n cap l) (hn : 0 < n) (h0 : ∀ x ∈ l, 0 ≤ x) :
    Calls Tryz.prog 153 #[.slice A n cap] w fun e w' => e = .returned (.int .i64 (mx l)) ∧ w' = w := by
  have hbd := h.bd
  obtain ⟨b, off, x, c0, rfl, hx, ⟨hc, b0⟩, g0⟩ := h.at1 hn
  simp only [List.cons.injEq, and_true] at hc
  subst hc
  have hx0 := h0 x (List.mem_of_getElem? hx)
  have HX := Lib.hid (show mx (l.take 1) = x by rw [mx_succ hx]; simp [mx]; omega)
  have H0 := Lib.hid h0
  clear hx h0
  simp only [Nat.add_zero] at g0
  go_enter Tryz.func153, Tryz.ntmps153
  go_wp2_with fail
  go_loopg [3, 4] n (fun gk m i wr => ∃ k : Nat, k ≤ n ∧ 1 ≤ k ∧ n - k ≤ gk ∧ i = .int .i64 k ∧ m = .int .i64 (mx (l.take k)) ∧ wr = w)
  case atStart => exact ⟨1, by omega, by omega, by omega, rfl, by rw [HX.out], rfl⟩
  case round =>
    obtain ⟨k, hk, hk1, hgk, rfl, rfl, rfl⟩ := hrel
    by_cases hlt : k < n
    · obtain ⟨b', off', y, c1, hA, hy, ⟨hc, b1⟩, g1⟩ := h.at1 hlt
      simp only [List.cons.injEq, and_true] at hc
      subst hc
      injection hA with hA
      injection hA with e1 e2 _
      subst e1 e2
      have HS := Lib.hid (mx_succ hy)
      have hm := mx_in (l := l.take k) (fun z hz => Sl.ints h z (List.mem_of_mem_take hz))
      clear hy
      go_wp2_with fail
      all_goals go_roundg (n - (k + 1))
      all_goals first
        | omega
        | exact ⟨k + 1, by omega, by omega, by omega, by go_num, by rw [HS.out]; congr 1; omega, rfl⟩
    · have : k = n := by omega
      subst this
      have HT := Lib.hid (List.take_of_length_le (Nat.le_of_eq h.len))
      go_wp2_with fail
      go_ret
      exact ⟨retI (by rw [HT.out]), rfl⟩
set_option maxHeartbeats 1000000 in
theorem Index_int (A : Option Addr) (n cap : Nat) (l : List Int) (v : Int) (w : World) (h : Sl intC 1 w All A n cap l) :
    Calls Tryz.prog 227 #[.slice A n cap, .int .i64 v] w fun e w' => e = .returned (.int .i64 (idxF (fun x => v == x) l)) ∧ w' = w := by
  have hbd := h.bd
  go_enter Tryz.func227, Tryz.ntmps227
  go_wp2_with fail
  go_loopg [8] n (fun gk i wr => ∃ k : Nat, k ≤ n ∧ n - k ≤ gk ∧ i = .int .i64 k ∧ Aside ((l.take k).any (fun x => v == x) = false) ∧ wr = w)
  case atStart => exact ⟨0, Nat.zero_le _, by omega, rfl, rfl, rfl⟩
  case round =>
    obtain ⟨k, hk, hgk, rfl, HA, rfl⟩ := hrel
    by_cases hlt : k < n
    · obtain ⟨b, off, x, c0, rfl, hx, ⟨hc, b0⟩, g0⟩ := h.at1 hlt
      simp only [List.cons.injEq, and_true] at hc
      subst hc
      have HX := Lib.hid hx
      clear hx
      by_cases hq : v = x
      · subst hq
        go_wp2_with fail
        go_ret
        exact ⟨retI (idxF_at HA HX.out (by simp)).symm, rfl⟩
      · have hq' : (v == x) = false := by simpa using hq
        clear hq
        have HQ := Lib.hid hq'
        go_wp2_with fail
        go_roundg (n - (k + 1))
        case measure => omega
        case rel => exact ⟨k + 1, by omega, by omega, by go_num, by show _ = _; rw [any_take_succ HX.out, HA, HQ.out]; rfl, rfl⟩
    · have : k = n := by omega
      subst this
      have HT := Lib.hid (List.take_of_length_le (Nat.le_of_eq h.len))
      go_wp2_with fail
      go_ret
      exact ⟨retI (by rw [idxF_none (by rw [← HT.out]; exact HA)]), rfl⟩
structure Span where
  frm : Int
  upto : Int
  deriving DecidableEq, Inhabited
def spanC : Cod Span := fun _ _ x cs => cs = [.int .i64 x.frm, .int .i64 x.upto] ∧ InI x.frm ∧ InI x.upto
theorem spanC_flat : Flat spanC := fun _ _ _ _ _ _ h => h
theorem spanC_good : Good spanC := .of_flat spanC_flat fun h u hu => by obtain ⟨rfl, _⟩ := h; simp at hu; rcases hu with rfl | rfl <;> rfl
def legsB (n : Int) : Bool := betB n 1 7
def spanE (s : Span) (legs : Int) : Int := if legsB legs = false ∨ s.frm < 0 ∨ legs < s.upto then 3 else if s.upto ≤ s.frm then 4 else 0
theorem legs_any (n : Int) (w : World) : Calls Tryz.prog 167 #[.int .i64 n] w fun e w' => e = .returned (.bool (legsB n)) ∧ w = w' := by
  go_enter Tryz.func167, Tryz.ntmps167
  go_wp2
  all_goals go_ret
  all_goals exact ⟨retB (by simp [legsB, betB]; try omega), rfl⟩
set_option maxHeartbeats 1000000 in
theorem spanCheck_any (a b : Int) (legs : Int) (w : World) : Calls Tryz.prog 93 #[.agg #[.int .i64 a, .int .i64 b], .int .i64 legs] w fun e w' => e = .returned (.int .i64 (spanE ⟨a, b⟩ legs)) ∧ Below w.heap.size w w' := by
  go_enter Tryz.func93, Tryz.ntmps93
  have hl : ∃ q, q = legsB legs := ⟨_, rfl⟩
  obtain ⟨q, hq⟩ := hl
  have HQ := Lib.hid hq
  have hc := fun W => legs_any legs W
  rw [← hq] at hc
  clear hq
  cases q
  all_goals go_wp2_with (go_at_call 167; refine (hc _).mono ?_; rintro e w' ⟨rfl, rfl⟩)
  all_goals go_ret
  all_goals refine ⟨retI ?_, (Below.refl _ _).alloc (Nat.le_refl _) _⟩
  all_goals (try simp at *)
  all_goals unfold spanE
  all_goals rw [HQ.out]
  all_goals dsimp only
  all_goals simp
  all_goals (repeat' split)
  all_goals omega
def seg (l : List Int) (a b : Int) : List Int := (l.drop a.toNat).take (b.toNat - a.toNat)
theorem Sl.segm {w : World} {A : Option Addr} {n cap f t : Nat} {l : List Int} (h : Sl intC 1 w All A n cap l) (hft : f < t) (ht : t ≤ n) : Sl intC 1 w All (A.map fun x => x.add f) (t - f) (cap - f) (seg l f t) := by
  have hc := h.cut (k := f) (m := t) (by omega) ht
  rw [if_neg (by have := h.le; omega)] at hc
  unfold seg
  simpa using hc
theorem seg_mem {l : List Int} {a b x : Int} (h : x ∈ seg l a b) : x ∈ l := List.mem_of_mem_drop (List.mem_of_mem_take h)
theorem sl_int (w : World) (S : Nat → Prop) (x : Int) (t : TypeId) (hx : InI x) (hS : S w.heap.size) : Sl intC 1 (w.alloc (.cells #[.int .i64 x] t)) S (some ⟨w.heap.size, 0, none⟩) 1 1 [x] :=
  Sl.lit1 w S t x [.int .i64 x] ⟨rfl, hx⟩ hS
def SpanAt (w : World) (b : Nat) (x y : Int) : Prop := w.heap[b]? = some (.cells #[.int .i64 x, .int .i64 y] 34 (0, 0))
theorem SpanAt.c0 {w : World} {b : Nat} {x y : Int} (h : SpanAt w b x y) : w.cell? ⟨b, 0, none⟩ = some (.int .i64 x) := cell_of_blk h rfl
theorem SpanAt.c1 {w : World} {b : Nat} {x y : Int} (h : SpanAt w b x y) : w.cell? ⟨b, 1, none⟩ = some (.int .i64 y) := cell_of_blk h rfl
theorem SpanAt.below {w w' : World} {b : Nat} {x y : Int} (h : SpanAt w b x y) (hb : Below w.heap.size w w') : SpanAt w' b x y := (hb.block _ (lt_of_block h)).trans h
theorem SpanAt.new (w : World) (x y : Int) : SpanAt (w.alloc (.cells #[.int .i64 x, .int .i64 y] 34)) w.heap.size x y := blk1 _ _
end Go.Proofs.YtoilcdgpeilgaaaGreat
namespace Go.Proofs.YtoilcdgpeilgaaaGreat
open Go.RowKit
section
variable {P : Program} {α : Type} {c : Cod α} {size bytes : Nat} {t e : TypeId} {w : World} {base : Nat} {v : Value} {l : List α} {xs : List Value}
theorem step_app {ops : Array Oper} {o : Oper} {a : Act} {K : Act → World → Prop} {Q : Exit → Act → World → Prop} {E : Prop} (hgd : o.guard = none) (s x : Operand)
    (ho : o.op = .call { callee := .builtin .append, args := #[s, x], argTypes := #[t, t] })
    (he : ElemOf P t e size bytes) (hg : Good c) {A : Option Addr} {m cap : Nat} {S : Nat → Prop} {l2 : List α} (hs : a.eval s = v) (hx : a.eval x = .slice A m cap) (hown : Own c size e w base v l xs) (hsl : Sl c size w S A m cap l2)
    (hS : ∀ x cs, c w S x cs → c w (Beside base v) x cs) (hbytes : (l.length + m) * bytes ≤ 140737488355328) (hb1 : 1 ≤ bytes) (hbase : base ≤ w.heap.size)
    (h : ∀ v' w' xs', Own c size e w' base v' (l ++ l2) xs' → w.grownBy w' v.ownBlock → (v'.ownBlock = v.ownBlock ∨ v'.ownBlock = some w.heap.size) → K (a.put o.dst v') w') :
    if Region.wanted o (yielded ops a.tmps) = true then Oper.wp P o a w K Q else E := by
  have hw : Region.wanted o (yielded ops a.tmps) = true := by simp [Region.wanted, hgd]
  rw [if_pos hw]
  exact wp_app s x ho he hg hs hown hx hsl hS hbytes hb1 hbase h
end
end Go.Proofs.YtoilcdgpeilgaaaGreat
