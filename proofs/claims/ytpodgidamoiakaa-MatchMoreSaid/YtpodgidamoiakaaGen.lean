/-
  Words and small laws for all walks: no function of the program is in sight but the references' between.
-/
import Derived.Test.YtpodgidamoiakaaBase
import Derived.Test.YtpodgidamoiakaaChecked
import Derived.BigQuiet
import Derived.Shelf.Abstract
import Derived.Deep.LoopGhost
import Derived.Deep.QuietTactic
import Derived.Deep.DeepCutAuto
namespace Go.Proofs.Ytpodgidamoiakaa
open Go.RowKit Go.Shelf

theorem retI {k : IntKind} {a b : Int} (h : a = b) : Ending.returned (.int k a) = .returned (.int k b) := by rw [h]
theorem retB {a b : Bool} (h : a = b) : Ending.returned (.bool a) = .returned (.bool b) := by rw [h]

/-- The first of f 0, f 1, .. f (n - 1) that is not 0; else 0. -/
def firstErr (f : Nat → Int) : Nat → Int
  | 0 => 0
  | n + 1 => if firstErr f n = 0 then f n else firstErr f n
theorem firstErr_succ {f : Nat → Int} {n : Nat} (h : firstErr f n = 0) : firstErr f (n + 1) = f n := by simp [firstErr, h]
theorem firstErr_at {f : Nat → Int} {k n : Nat} (h : firstErr f k = 0) (hk : f k ≠ 0) (hn : k < n) : firstErr f n = f k := by
  induction n with
  | zero => omega
  | succ n ih =>
    by_cases e : n = k
    · subst e; exact firstErr_succ h
    · have := ih (by omega)
      simp only [firstErr, this, if_neg hk]

/-- Is n between a and b? -/
def betB (n a b : Int) : Bool := decide (a ≤ n) && decide (n ≤ b)
theorem betB_true {n a b : Int} (h : a ≤ n) (h2 : n ≤ b) : betB n a b = true := by simp [betB, h, h2]
theorem betB_false {n a b : Int} (h : n < a ∨ b < n) : betB n a b = false := by simp [betB]; omega
theorem betB_iff {n a b : Int} : betB n a b = true ↔ a ≤ n ∧ n ≤ b := by simp [betB]
theorem between_any (n a b : Int) (w : World) : Calls Try.prog 49 #[.int .i64 n, .int .i64 a, .int .i64 b] w fun e w' => e = .returned (.bool (betB n a b)) ∧ w = w' := by
  go_enter Try.func49, Try.ntmps49
  go_wp2
  all_goals go_ret
  all_goals exact ⟨retB (by unfold betB; simp; try omega), rfl⟩

theorem take_snoc {α : Type} {l : List α} {k : Nat} {x : α} (h : l[k]? = some x) : l.take (k + 1) = l.take k ++ [x] := by
  rw [List.take_add_one, h]; rfl

/-- Where the first one lies for which p holds; else -1. -/
def idxF {α : Type} (p : α → Bool) (l : List α) : Int := if l.any p then (l.findIdx p : Int) else -1

section
variable {α : Type} {p : α → Bool} {l : List α} {k : Nat} {x : α}
theorem any_take_succ (hx : l[k]? = some x) : (l.take (k + 1)).any p = ((l.take k).any p || p x) := by rw [take_snoc hx]; simp
theorem any_of_take (h : (l.take k).any p = true) : l.any p = true := by
  rw [List.any_eq_true] at h ⊢
  obtain ⟨x, hx, hp⟩ := h
  exact ⟨x, List.mem_of_mem_take hx, hp⟩
theorem any_at (hx : l[k]? = some x) (hp : p x = true) : l.any p = true := List.any_eq_true.2 ⟨x, List.mem_of_getElem? hx, hp⟩
theorem idxF_at (h : (l.take k).any p = false) (hx : l[k]? = some x) (hp : p x = true) : idxF p l = (k : Int) := by
  have hlt : k < l.length := (List.getElem?_eq_some_iff.1 hx).1
  have hi : l.findIdx p = k := by
    rw [List.findIdx_eq hlt]
    refine ⟨?_, fun j hj => ?_⟩
    · rw [List.getElem?_eq_getElem hlt] at hx; injection hx with hx; rw [hx]; exact hp
    · have := List.any_eq_false.1 h (l[j]'(by omega)) (List.mem_take_iff_getElem.2 ⟨j, by omega, rfl⟩)
      simpa using this
  unfold idxF
  rw [any_at hx hp, hi]; rfl
theorem idxF_none (h : l.any p = false) : idxF p l = -1 := by unfold idxF; rw [h]; rfl
theorem idxF_any : decide (0 ≤ idxF p l) = l.any p := by
  unfold idxF
  cases l.any p <;> simp
theorem idxF_bd (h : l.length ≤ 9223372036854775807) : -1 ≤ idxF p l ∧ idxF p l < 9223372036854775807 := by
  unfold idxF
  cases e : l.any p
  · simp
  · have : l.findIdx p < l.length := List.findIdx_lt_length.2 (by simpa using e)
    simp; omega
theorem idxF_lt (h : l.any p = true) : 0 ≤ idxF p l ∧ idxF p l < l.length := by
  unfold idxF
  have : l.findIdx p < l.length := List.findIdx_lt_length.2 (by simpa using h)
  rw [h, if_pos rfl]; constructor <;> omega
end

theorem cell_of_blk {w : World} {b j : Nat} {cs : Array Value} {t : TypeId} {fz : Nat × Nat} {v : Value} (h : w.heap[b]? = some (.cells cs t fz)) (hj : cs[j]? = some v) : w.cell? ⟨b, j, none⟩ = some v := by simp [World.cell?, h, hj]
/-- Block k of the three that were made last. -/
theorem blk1 (w : World) (A : Obj) : (w.alloc A).heap[w.heap.size]? = some A := heap_alloc_new _ _
theorem blk2_0 (w : World) (A B : Obj) : ((w.alloc A).alloc B).heap[w.heap.size]? = some A := (Below.heap_alloc _ _ _ (by simp)).trans (blk1 _ _)
theorem blk2_1 (w : World) (A B : Obj) : ((w.alloc A).alloc B).heap[w.heap.size + 1]? = some B := by
  have := blk1 (w.alloc A) B
  rwa [show (w.alloc A).heap.size = w.heap.size + 1 by simp] at this
theorem blk3_0 (w : World) (A B C : Obj) : (((w.alloc A).alloc B).alloc C).heap[w.heap.size]? = some A := (Below.heap_alloc _ _ _ (by simp; omega)).trans (blk2_0 _ _ _)
theorem blk3_1 (w : World) (A B C : Obj) : (((w.alloc A).alloc B).alloc C).heap[w.heap.size + 1]? = some B := (Below.heap_alloc _ _ _ (by simp)).trans (blk2_1 _ _ _)
theorem blk3_2 (w : World) (A B C : Obj) : (((w.alloc A).alloc B).alloc C).heap[w.heap.size + 1 + 1]? = some C := by
  have := blk2_1 (w.alloc A) B C
  rwa [show (w.alloc A).heap.size = w.heap.size + 1 by simp] at this

/-- A row of the call's own with an element in it has a block. -/
theorem Own.form {α : Type} {c : Cod α} {size : Nat} {e : TypeId} {w : World} {base : Nat} {v : Value} {l : List α} {xs : List Value} (h : Own c size e w base v l xs) (hn : 0 < l.length) :
    ∃ g cap, v = .slice (some ⟨g, 0, none⟩) l.length cap ∧ base ≤ g ∧ g < w.heap.size := by
  rcases h.row.2 with ⟨_, h0⟩ | ⟨g, cap, cur, hv, hb, hgg, _⟩
  · omega
  · exact ⟨g, cap, hv, hb, (Array.getElem?_eq_some_iff.1 hgg).1⟩

section
variable {α : Type} {c : Cod α} {size : Nat} {e : TypeId} {w : World} {base g n cap : Nat} {l : List α} {xs : List Value}

theorem Own.cells (h : Own c size e w base (.slice (some ⟨g, 0, none⟩) n cap) l xs) {i : Nat} {x : α} (hx : l[i]? = some x) :
    ∃ cs, c w (Beside base (.slice (some ⟨g, 0, none⟩) n cap)) x cs ∧ cs.length = size ∧ (∀ j u, cs[j]? = some u → w.cell? ⟨g, i * size + j, none⟩ = some u) ∧ ∀ j, w.frozen? ⟨g, j, none⟩ = false := by
  obtain ⟨cs, hc, hl, hcell⟩ := h.el i x hx
  have hi : i < l.length := (List.getElem?_eq_some_iff.1 hx).1
  have hrow := h.row
  have hn : n = l.length := by
    rcases hrow.2 with ⟨hv, _⟩ | ⟨g', cap', cur, hv, _⟩
    · cases hv
    · injection hv
  subst hn
  refine ⟨cs, hc, hl, fun j u hu => ?_, fun j => hrow.frozenAt j⟩
  have hj : j < size := by have := (List.getElem?_eq_some_iff.1 hu).1; omega
  rw [hrow.cellAt _ (by
    have : (i + 1) * size ≤ l.length * size := Nat.mul_le_mul_right _ hi
    rw [Nat.add_mul] at this; omega)]
  exact hcell j u hu

/-- A store of one cell into an own row whose elements lead nowhere. -/
theorem Own.put (hf : Flat c) (h : Own c size e w base (.slice (some ⟨g, 0, none⟩) n cap) l xs) {i j : Nat} {x x' : α} {u : Value} (hx : l[i]? = some x) (hj : j < size)
    (hc : ∀ w S cs, c w S x cs → c w S x' (cs.set j u)) :
    Own c size e (w.setCell ⟨g, i * size + j, none⟩ u) base (.slice (some ⟨g, 0, none⟩) n cap) (l.set i x') (xs.set (i * size + j) u) := by
  have hrow := h.row
  have hn : n = l.length := by
    rcases hrow.2 with ⟨hv, _⟩ | ⟨g', cap', cur, hv, _⟩
    · cases hv
    · injection hv
  subst hn
  have hil : i < l.length := (List.getElem?_eq_some_iff.1 hx).1
  have hxl : xs.length = l.length * size := hrow.1
  have hlt : i * size + j < xs.length := by
    have : (i + 1) * size ≤ l.length * size := Nat.mul_le_mul_right _ hil
    rw [Nat.add_mul] at this; omega
  refine ⟨by rw [List.length_set]; exact (hrow.stored _ u).1, fun k y hy => ?_⟩
  by_cases hk : k = i
  · subst hk
    rw [List.getElem?_set_self hil] at hy
    injection hy with hy
    subst hy
    obtain ⟨cs, hcc, hl, hcell⟩ := h.el k x hx
    refine ⟨cs.set j u, hf _ _ _ _ _ _ (hc _ _ _ hcc), by simpa using hl, fun q v hv => ?_⟩
    by_cases hq : q = j
    · subst hq
      rw [List.getElem?_set_self (by omega)] at hv
      rw [List.getElem?_set_self hlt]
      exact hv
    · rw [List.getElem?_set_ne (by omega)] at hv
      rw [List.getElem?_set_ne (by omega)]
      exact hcell q v hv
  · rw [List.getElem?_set_ne (by omega)] at hy
    obtain ⟨cs, hcc, hl, hcell⟩ := h.el k y hy
    refine ⟨cs, hf _ _ _ _ _ _ hcc, hl, fun q v hv => ?_⟩
    have hq : q < size := by have := (List.getElem?_eq_some_iff.1 hv).1; omega
    rw [List.getElem?_set_ne ?_]
    · exact hcell q v hv
    · intro he
      rcases Nat.lt_or_ge k i with h1 | h1
      · have : (k + 1) * size ≤ i * size := Nat.mul_le_mul_right _ h1
        rw [Nat.add_mul] at this; omega
      · have : (i + 1) * size ≤ k * size := Nat.mul_le_mul_right _ (by omega)
        rw [Nat.add_mul] at this; omega
end

class CodK {α : Type} (c : Cod α) (size : Nat) : Prop where
  good : Good c
  pos : 0 < size

instance intK : CodK intC 1 := ⟨intC_good, by omega⟩
instance boolK : CodK boolC 1 := ⟨boolC_good, by omega⟩

theorem Sl.bel {α : Type} {c : Cod α} {size : Nat} [k : CodK c size] {w w' : World} {S : Nat → Prop} {A : Option Addr} {n cap : Nat} {l : List α} (h : Sl c size w S A n cap l) (hb : Below w.heap.size w w') : Sl c size w' S A n cap l :=
  h.below k.good k.pos hb
theorem Own.bel {α : Type} {c : Cod α} {size : Nat} [k : CodK c size] {w w' : World} {e : TypeId} {base : Nat} {v : Value} {l : List α} {xs : List Value} (h : Own c size e w base v l xs) (hb : Below w.heap.size w w') : Own c size e w' base v l xs :=
  h.below k.good hb

/-- A block that is known whole. -/
def Blk (w : World) (b : Nat) (cs : Array Value) (t : TypeId) : Prop := w.heap[b]? = some (.cells cs t (0, 0))
theorem Blk.lt {w : World} {b : Nat} {cs : Array Value} {t : TypeId} (h : Blk w b cs t) : b < w.heap.size := lt_of_block h
theorem Blk.bel {w w' : World} {b : Nat} {cs : Array Value} {t : TypeId} (h : Blk w b cs t) (hb : Below w.heap.size w w') : Blk w' b cs t := (hb.block _ (lt_of_block h)).trans h
theorem Blk.new (w : World) (cs : Array Value) (t : TypeId) : Blk (w.alloc (.cells cs t)) w.heap.size cs t := blk1 _ _
theorem Blk.old {w : World} {b : Nat} {cs : Array Value} {t : TypeId} (h : Blk w b cs t) (o : Obj) : Blk (w.alloc o) b cs t := (Below.heap_alloc _ _ _ h.lt).trans h
theorem Blk.cell {w : World} {b j : Nat} {cs : Array Value} {t : TypeId} {v : Value} (h : Blk w b cs t) (hj : cs[j]? = some v) : w.cell? ⟨b, j, none⟩ = some v := cell_of_blk h hj

theorem bel1 (w : World) (o : Obj) : Below w.heap.size w (w.alloc o) := (Below.refl _ _).alloc (Nat.le_refl _) _
theorem bel2 (w : World) (o p : Obj) : Below w.heap.size w ((w.alloc o).alloc p) := (bel1 w o).alloc (by simp) _
theorem bel3 (w : World) (o p q : Obj) : Below w.heap.size w (((w.alloc o).alloc p).alloc q) := (bel2 w o p).alloc (by simp; omega) _

/-- What a block that is known whole holds, as a list. -/
theorem Sl.ofBlk {α : Type} {c : Cod α} {size : Nat} {w : World} {S : Nat → Prop} {b : Nat} {cs : Array Value} {t : TypeId} (h : Blk w b cs t) (l : List α) (hm : l.length ≤ 1000000) (hS : S b)
    (hel : ∀ i x, l[i]? = some x → ∃ c5, c w S x c5 ∧ c5.length = size ∧ ∀ j u, c5[j]? = some u → cs[i * size + j]? = some u) : Sl c size w S (some ⟨b, 0, none⟩) l.length l.length l := by
  refine ⟨rfl, Nat.le_refl _, by simp only [maxLen]; omega, fun i x hx => ?_⟩
  obtain ⟨c5, hc, hl, hcell⟩ := hel i x hx
  exact ⟨b, 0, c5, rfl, hS, hc, hl, fun j u hu => by rw [Nat.zero_add]; exact h.cell (hcell j u hu)⟩
theorem Sl.ofInts {w : World} {S : Nat → Prop} {b : Nat} {t : TypeId} (l : List Int) (h : Blk w b (l.map (Value.int .i64)).toArray t) (hm : l.length ≤ 1000000) (hS : S b) (hi : ∀ x ∈ l, -1000000000000000 ≤ x ∧ x ≤ 1000000000000000) :
    Sl intC 1 w S (some ⟨b, 0, none⟩) l.length l.length l :=
  Sl.ofBlk h l hm hS fun i x hx => ⟨[.int .i64 x], ⟨rfl, .of (hi x (List.mem_of_getElem? hx)).1 (hi x (List.mem_of_getElem? hx)).2⟩, rfl, fun j u hu => by
    rcases j with _ | j
    · simp at hu; subst hu; simp [hx]
    · simp at hu⟩
theorem Blk.new1 (w : World) (o : Obj) (cs : Array Value) (t : TypeId) : Blk ((w.alloc o).alloc (.cells cs t)) (w.heap.size + 1) cs t := by
  have := Blk.new (w.alloc o) cs t
  rwa [show (w.alloc o).heap.size = w.heap.size + 1 by simp] at this
theorem Blk.new2 (w : World) (o p : Obj) (cs : Array Value) (t : TypeId) : Blk (((w.alloc o).alloc p).alloc (.cells cs t)) (w.heap.size + 1 + 1) cs t := by
  have := Blk.new ((w.alloc o).alloc p) cs t
  rwa [show ((w.alloc o).alloc p).heap.size = w.heap.size + 1 + 1 by simp] at this
theorem Blk.new3 (w : World) (o p q : Obj) (cs : Array Value) (t : TypeId) : Blk ((((w.alloc o).alloc p).alloc q).alloc (.cells cs t)) (w.heap.size + 1 + 1 + 1) cs t := by
  have := Blk.new (((w.alloc o).alloc p).alloc q) cs t
  rwa [show (((w.alloc o).alloc p).alloc q).heap.size = w.heap.size + 1 + 1 + 1 by simp] at this
theorem Blk.new4 (w : World) (o p q r : Obj) (cs : Array Value) (t : TypeId) : Blk (((((w.alloc o).alloc p).alloc q).alloc r).alloc (.cells cs t)) (w.heap.size + 1 + 1 + 1 + 1) cs t := by
  have := Blk.new ((((w.alloc o).alloc p).alloc q).alloc r) cs t
  rwa [show ((((w.alloc o).alloc p).alloc q).alloc r).heap.size = w.heap.size + 1 + 1 + 1 + 1 by simp] at this
theorem Blk.new5 (w : World) (o p q r s : Obj) (cs : Array Value) (t : TypeId) : Blk ((((((w.alloc o).alloc p).alloc q).alloc r).alloc s).alloc (.cells cs t)) (w.heap.size + 1 + 1 + 1 + 1 + 1) cs t := by
  have := Blk.new (((((w.alloc o).alloc p).alloc q).alloc r).alloc s) cs t
  rwa [show (((((w.alloc o).alloc p).alloc q).alloc r).alloc s).heap.size = w.heap.size + 1 + 1 + 1 + 1 + 1 by simp] at this

/-- A literal of several elements. -/
theorem Sl.lit {α : Type} {c : Cod α} {size : Nat} (w : World) (S : Nat → Prop) (t : TypeId) (cells : List Value) (l : List α) (hm : l.length ≤ 1000000) (hS : S w.heap.size)
    (h : ∀ i x, l[i]? = some x → ∃ cs, c (w.alloc (.cells cells.toArray t)) S x cs ∧ cs.length = size ∧ ∀ j u, cs[j]? = some u → cells[i * size + j]? = some u) :
    Sl c size (w.alloc (.cells cells.toArray t)) S (some ⟨w.heap.size, 0, none⟩) l.length l.length l := by
  refine ⟨rfl, Nat.le_refl _, by simp only [maxLen]; omega, fun i x hx => ?_⟩
  obtain ⟨cs, hc, hl, hcell⟩ := h i x hx
  exact ⟨w.heap.size, 0, cs, rfl, hS, hc, hl, fun j u hu => by simpa using hcell j u hu⟩


theorem slC_good {α : Type} {c : Cod α} {size : Nat} (hg : Good c) (hs : 0 < size) : Good (slC c size) :=
  ⟨fun ⟨A, n, cap, e, h⟩ hk => ⟨A, n, cap, e, h.keep hg hs hk⟩, fun ⟨A, n, cap, e, _⟩ u hu => by subst e; simp at hu; subst hu; rfl⟩

/-- append with a plain run of its own: one operation of a list. -/
theorem list_builtin_append {P : Program} {t t2 : TypeId} {ops : Array Oper} {rest : List Oper} {o : Oper} {a : Act} {w w' : World} {v u v' : Value} {Q : Exit → Act → World → Prop} (hgd : o.guard = none) (s x : Operand)
    (ho : o.op = .call { callee := .builtin .append, args := #[s, x], argTypes := #[t, t2] }) (hs : a.eval s = v) (hx : a.eval x = u)
    (hrun : (Builtin.append_ #[t, t2] o.type #[v, u]).run P w = .ok v' w') (h : wpList P ops Q rest (a.put o.dst v') w') : wpList P ops Q (o :: rest) a w :=
  wpList_plain hgd fun _ hK => by
    unfold Oper.wp execOp
    simp only [ho, resolve, invoke, builtin, Sem.run_bind, Sem.run_pure, Result.andThen_ok, List.map_toArray, List.map_cons, List.map_nil, hs, hx, hrun]
    exact hK _ _ h


/-- An errno, or that a number may not stand there. -/
def guardE (u : Int) (b : Bool) : Int := if u ≠ 0 then u else if b then 0 else 3
theorem guard_f {u v : Int} {b : Bool} (h : v = guardE u b) (hq : Aside (false = (u == 0 && !b))) : v = u := by
  have hq : false = (u == 0 && !b) := hq
  rw [h]; unfold guardE
  by_cases h0 : u = 0
  · rw [if_neg (by simp [h0])]
    cases b
    · rw [h0] at hq; simp at hq
    · rw [h0]; rfl
  · rw [if_pos h0]
theorem guard_t {u v : Int} {b : Bool} (h : v = guardE u b) (hq : Aside (true = (u == 0 && !b))) : v = 3 := by
  have hq : true = (u == 0 && !b) := hq
  rw [h]; unfold guardE
  by_cases h0 : u = 0
  · rw [if_neg (by simp [h0])]
    cases b
    · rfl
    · rw [h0] at hq; simp at hq
  · have : (u == 0) = false := by simpa using h0
    rw [this] at hq; simp at hq

theorem own_setCell_flat {α : Type} {c : Cod α} (hf : Flat c) {size : Nat} {e : TypeId} {w : World} {base : Nat} {v : Value} {l : List α} {xs : List Value} (h : Own c size e w base v l xs) {a : Addr} (ha : v.ownBlock ≠ some a.block) (u : Value) : Own c size e (w.setCell a u) base v l xs :=
  ⟨ownsRow_setCell_other h.row ha u, fun i x hx => by
    obtain ⟨cs, hc, r⟩ := h.el i x hx
    exact ⟨cs, hf _ _ _ _ _ _ hc, r⟩⟩

/-- All blocks that were there are as they were, but for those of S. -/
structure Kept (S : Nat → Prop) (w w' : World) : Prop where
  os : w'.os = w.os
  tape : w'.tape = w.tape
  output : w'.output = w.output
  size : w.heap.size ≤ w'.heap.size
  block : ∀ k, k < w.heap.size → ¬ S k → w'.heap[k]? = w.heap[k]?
theorem Kept.refl (S : Nat → Prop) (w : World) : Kept S w w := ⟨rfl, rfl, rfl, Nat.le_refl _, fun _ _ _ => rfl⟩
theorem Kept.trans {S : Nat → Prop} {a b c : World} (h : Kept S a b) (k : Kept S b c) : Kept S a c :=
  ⟨k.os.trans h.os, k.tape.trans h.tape, k.output.trans h.output, Nat.le_trans h.size k.size, fun i hi hS => (k.block i (Nat.lt_of_lt_of_le hi h.size) hS).trans (h.block i hi hS)⟩
theorem Kept.mono {S T : Nat → Prop} {a b : World} (h : Kept S a b) (hS : ∀ k, k < a.heap.size → S k → T k) : Kept T a b :=
  ⟨h.os, h.tape, h.output, h.size, fun i hi hT => h.block i hi fun hs => hT (hS i hi hs)⟩
theorem Kept.of_below {S : Nat → Prop} {a b : World} {B : Nat} (h : Below B a b) (hB : ∀ k, k < a.heap.size → B ≤ k → S k) : Kept S a b :=
  ⟨h.os, h.tape, h.output, h.size, fun i hi hS => h.block i (by rcases Nat.lt_or_ge i B with h1 | h1; exact h1; exact absurd (hB i hi h1) hS)⟩
theorem Kept.below {S : Nat → Prop} {a b : World} {B : Nat} (h : Kept S a b) (hB : B ≤ a.heap.size) (hS : ∀ k, k < B → ¬ S k) : Below B a b :=
  ⟨h.os, h.tape, h.output, h.size, fun i hi => h.block i (by omega) (hS i hi)⟩
theorem Kept.alloc {S : Nat → Prop} {a w : World} (h : Kept S a w) (o : Obj) : Kept S a (w.alloc o) :=
  h.trans ⟨rfl, rfl, rfl, by simp, fun k hk _ => Below.heap_alloc _ _ _ hk⟩
theorem Kept.drew {S : Nat → Prop} {a w : World} (h : Kept S a w) : Kept S a w.drew := ⟨h.os, h.tape, h.output, h.size, h.block⟩
theorem Kept.setCell {S : Nat → Prop} {a w : World} (h : Kept S a w) {p : Addr} (hp : S p.block ∨ a.heap.size ≤ p.block) (u : Value) : Kept S a (w.setCell p u) :=
  ⟨h.os, h.tape, h.output, by simpa [World.setCell] using h.size, fun k hk hS => (Below.heap_setCell _ _ _ _ (by rintro rfl; rcases hp with hp | hp; exact hS hp; omega)).trans (h.block k hk hS)⟩
theorem Blk.kept {S : Nat → Prop} {w w' : World} {b : Nat} {cs : Array Value} {t : TypeId} (h : Blk w b cs t) (hk : Kept S w w') (hS : ¬ S b) : Blk w' b cs t := (hk.block b h.lt hS).trans h
theorem Sl.kept {α : Type} {c : Cod α} {size : Nat} [k : CodK c size] {w w' : World} {S T : Nat → Prop} {A : Option Addr} {n cap : Nat} {l : List α} (h : Sl c size w T A n cap l) (hk : Kept S w w') (hS : ∀ b, b < w.heap.size → T b → ¬ S b) : Sl c size w' T A n cap l :=
  h.keep k.good k.pos fun b hT hlt => ⟨hk.block b hlt (hS b hlt hT), hT⟩
end Go.Proofs.Ytpodgidamoiakaa
