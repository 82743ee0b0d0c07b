/-
  Short words for the walks: codecs that are good, as a class; blocks that are known whole; facts that a call keeps.
-/
import Derived.Test.YtehebngkjfjkbaaSlA
namespace Go.Proofs.Ytehebngkjfjkbaa
open Go.RowKit Go.Shelf

class CodK {α : Type} (c : Cod α) (size : Nat) : Prop where
  good : Good c
  pos : 0 < size

instance intK : CodK intC 1 := ⟨intC_good, by omega⟩
instance boolK : CodK boolC 1 := ⟨boolC_good, by omega⟩

theorem Sl.bel {α : Type} {c : Cod α} {size : Nat} [k : CodK c size] {w w' : World} {S : Nat → Prop} {A : Option Addr} {n cap : Nat} {l : List α} (h : Sl c size w S A n cap l) (hb : Below w.heap.size w w') : Sl c size w' S A n cap l :=
  h.below k.good k.pos hb
theorem Own.bel {α : Type} {c : Cod α} {size : Nat} [k : CodK c size] {w w' : World} {e : TypeId} {base : Nat} {v : Value} {l : List α} {xs : List Value} (h : Own c size e w base v l xs) (hb : Below w.heap.size w w') : Own c size e w' base v l xs :=
  h.below k.good hb

/-- A block that is known whole. -/
def Blk (w : World) (b : Nat) (cs : Array Value) (t : TypeId) : Prop := w.heap[b]? = some (.cells cs t (0, 0))
theorem Blk.lt {w : World} {b : Nat} {cs : Array Value} {t : TypeId} (h : Blk w b cs t) : b < w.heap.size := lt_of_block h
theorem Blk.bel {w w' : World} {b : Nat} {cs : Array Value} {t : TypeId} (h : Blk w b cs t) (hb : Below w.heap.size w w') : Blk w' b cs t := (hb.block _ (lt_of_block h)).trans h
theorem Blk.new (w : World) (cs : Array Value) (t : TypeId) : Blk (w.alloc (.cells cs t)) w.heap.size cs t := blk1 _ _
theorem Blk.old {w : World} {b : Nat} {cs : Array Value} {t : TypeId} (h : Blk w b cs t) (o : Obj) : Blk (w.alloc o) b cs t := (Below.heap_alloc _ _ _ h.lt).trans h
theorem Blk.cell {w : World} {b j : Nat} {cs : Array Value} {t : TypeId} {v : Value} (h : Blk w b cs t) (hj : cs[j]? = some v) : w.cell? ⟨b, j, none⟩ = some v := cell_of_blk h hj

theorem bel1 (w : World) (o : Obj) : Below w.heap.size w (w.alloc o) := (Below.refl _ _).alloc (Nat.le_refl _) _
theorem bel2 (w : World) (o p : Obj) : Below w.heap.size w ((w.alloc o).alloc p) := (bel1 w o).alloc (by simp) _
theorem bel3 (w : World) (o p q : Obj) : Below w.heap.size w (((w.alloc o).alloc p).alloc q) := (bel2 w o p).alloc (by simp; omega) _

/-- What a block that is known whole holds, as a list. -/
theorem Sl.ofBlk {α : Type} {c : Cod α} {size : Nat} {w : World} {S : Nat → Prop} {b : Nat} {cs : Array Value} {t : TypeId} (h : Blk w b cs t) (l : List α) (hm : l.length ≤ 1000000) (hS : S b)
    (hel : ∀ i x, l[i]? = some x → ∃ c5, c w S x c5 ∧ c5.length = size ∧ ∀ j u, c5[j]? = some u → cs[i * size + j]? = some u) : Sl c size w S (some ⟨b, 0, none⟩) l.length l.length l := by
  refine ⟨rfl, Nat.le_refl _, by simp only [maxLen]; omega, fun i x hx => ?_⟩
  obtain ⟨c5, hc, hl, hcell⟩ := hel i x hx
  exact ⟨b, 0, c5, rfl, hS, hc, hl, fun j u hu => by rw [Nat.zero_add]; exact h.cell (hcell j u hu)⟩
theorem Sl.ofInts {w : World} {S : Nat → Prop} {b : Nat} {t : TypeId} (l : List Int) (h : Blk w b (l.map (Value.int .i64)).toArray t) (hm : l.length ≤ 1000000) (hS : S b) (hi : ∀ x ∈ l, -1000000000000000 ≤ x ∧ x ≤ 1000000000000000) :
    Sl intC 1 w S (some ⟨b, 0, none⟩) l.length l.length l :=
  Sl.ofBlk h l hm hS fun i x hx => ⟨[.int .i64 x], ⟨rfl, .of (hi x (List.mem_of_getElem? hx)).1 (hi x (List.mem_of_getElem? hx)).2⟩, rfl, fun j u hu => by
    rcases j with _ | j
    · simp at hu; subst hu; simp [hx]
    · simp at hu⟩
theorem Blk.new1 (w : World) (o : Obj) (cs : Array Value) (t : TypeId) : Blk ((w.alloc o).alloc (.cells cs t)) (w.heap.size + 1) cs t := by
  have := Blk.new (w.alloc o) cs t
  rwa [show (w.alloc o).heap.size = w.heap.size + 1 by simp] at this
theorem Blk.new2 (w : World) (o p : Obj) (cs : Array Value) (t : TypeId) : Blk (((w.alloc o).alloc p).alloc (.cells cs t)) (w.heap.size + 1 + 1) cs t := by
  have := Blk.new ((w.alloc o).alloc p) cs t
  rwa [show ((w.alloc o).alloc p).heap.size = w.heap.size + 1 + 1 by simp] at this
theorem Blk.new3 (w : World) (o p q : Obj) (cs : Array Value) (t : TypeId) : Blk ((((w.alloc o).alloc p).alloc q).alloc (.cells cs t)) (w.heap.size + 1 + 1 + 1) cs t := by
  have := Blk.new (((w.alloc o).alloc p).alloc q) cs t
  rwa [show (((w.alloc o).alloc p).alloc q).heap.size = w.heap.size + 1 + 1 + 1 by simp] at this
theorem Blk.new4 (w : World) (o p q r : Obj) (cs : Array Value) (t : TypeId) : Blk (((((w.alloc o).alloc p).alloc q).alloc r).alloc (.cells cs t)) (w.heap.size + 1 + 1 + 1 + 1) cs t := by
  have := Blk.new ((((w.alloc o).alloc p).alloc q).alloc r) cs t
  rwa [show ((((w.alloc o).alloc p).alloc q).alloc r).heap.size = w.heap.size + 1 + 1 + 1 + 1 by simp] at this
theorem Blk.new5 (w : World) (o p q r s : Obj) (cs : Array Value) (t : TypeId) : Blk ((((((w.alloc o).alloc p).alloc q).alloc r).alloc s).alloc (.cells cs t)) (w.heap.size + 1 + 1 + 1 + 1 + 1) cs t := by
  have := Blk.new (((((w.alloc o).alloc p).alloc q).alloc r).alloc s) cs t
  rwa [show (((((w.alloc o).alloc p).alloc q).alloc r).alloc s).heap.size = w.heap.size + 1 + 1 + 1 + 1 + 1 by simp] at this
end Go.Proofs.Ytehebngkjfjkbaa
