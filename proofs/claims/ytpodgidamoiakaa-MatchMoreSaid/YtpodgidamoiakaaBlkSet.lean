/-
  A block of cells that is written into.
-/
import Derived.Test.YtpodgidamoiakaaGen
namespace Go.Proofs.Ytpodgidamoiakaa
open Go.RowKit

theorem Blk.free {w : World} {b : Nat} {cs : Array Value} {t : TypeId} (h : Blk w b cs t) (j : Nat) : w.frozen? ⟨b, j, none⟩ = false := by
  unfold Blk at h
  simp [World.frozen?, h]
theorem Blk.set {w : World} {b j : Nat} {cs : Array Value} {t : TypeId} (h : Blk w b cs t) (u : Value) : Blk (w.setCell ⟨b, j, none⟩ u) b (cs.set! j u) t := by
  unfold Blk at h ⊢
  simp only [World.setCell, Array.getElem?_modify, if_true]
  rw [h]; rfl
theorem Blk.other {w : World} {b : Nat} {cs : Array Value} {t : TypeId} (h : Blk w b cs t) {p : Addr} (hp : p.block ≠ b) (u : Value) : Blk (w.setCell p u) b cs t :=
  (Below.heap_setCell _ _ _ _ (fun e => hp e.symm)).trans h

/-- A block that holds numbers. -/
def RowI (w : World) (g : Nat) (m : List Int) (t : TypeId) : Prop := Blk w g (m.map (Value.int .i64)).toArray t
theorem RowI.cell {w : World} {g : Nat} {m : List Int} {t : TypeId} (h : RowI w g m t) {i : Nat} (hi : i < m.length) : w.cell? ⟨g, i, none⟩ = some (.int .i64 (m.getD i 0)) := by
  refine Blk.cell h ?_
  rw [List.getElem?_toArray, List.getElem?_map, List.getElem?_eq_getElem hi, List.getD_eq_getElem?_getD, List.getElem?_eq_getElem hi]; rfl
theorem RowI.free {w : World} {g : Nat} {m : List Int} {t : TypeId} (h : RowI w g m t) (i : Nat) : w.frozen? ⟨g, i, none⟩ = false := Blk.free h i
theorem RowI.set {w : World} {g : Nat} {m : List Int} {t : TypeId} (h : RowI w g m t) (i : Nat) (v : Int) : RowI (w.setCell ⟨g, i, none⟩ (.int .i64 v)) g (m.set i v) t := by
  have := Blk.set (j := i) h (.int .i64 v)
  unfold RowI
  rw [List.map_set]
  simpa using this
theorem RowI.other {w : World} {g : Nat} {m : List Int} {t : TypeId} (h : RowI w g m t) {p : Addr} (hp : p.block ≠ g) (u : Value) : RowI (w.setCell p u) g m t := Blk.other h hp u
theorem RowI.bel {w w' : World} {g : Nat} {m : List Int} {t : TypeId} (h : RowI w g m t) (hb : Below w.heap.size w w') : RowI w' g m t := Blk.bel h hb
end Go.Proofs.Ytpodgidamoiakaa
