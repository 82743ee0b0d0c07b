/-
  A map of the call's own that tells numbers: what it says of each key; its look-up and its store as laws at the operation.
-/
import Derived.Test.YtpodgidamoiakaaGen
import Derived.Maps.OwnOps
import Derived.Maps.Views
import Derived.Maps.Keyed
namespace Go.Proofs.Ytpodgidamoiakaa
open Go.RowKit Go.Maps

/-- Block B is a map of at most n entries, which says cnt. -/
def Tally (P : Program) (w : World) (k e : TypeId) (B n : Nat) (cnt : Lit → Int) : Prop :=
  ∃ D : DataW Unit, w.ownsMap P k (plainElem P e) B n D ∧ IsMap D ∧ ∀ kl, D.atKey kl (.lit (.int .i64 0)) = .lit (.int .i64 (cnt kl))

theorem Tally.made (P : Program) (w : World) (k e : TypeId) : Tally P (w.alloc (.map #[] 0)) k e w.heap.size 0 (fun _ => 0) :=
  ⟨.map [], World.ownsMap_made _ _ _ _, isMap_empty, fun _ => rfl⟩
theorem Tally.bel {P : Program} {w w' : World} {k e : TypeId} {B n : Nat} {cnt : Lit → Int} (h : Tally P w k e B n cnt) (hb : Below w.heap.size w w') : Tally P w' k e B n cnt := by
  obtain ⟨D, h1, h2, h3⟩ := h
  exact ⟨D, h1.kept (row := none) ⟨hb.os, hb.tape, hb.output, hb.size, fun i hi _ => hb.block i hi⟩ (by simp), h2, h3⟩
theorem Tally.lt {P : Program} {w : World} {k e : TypeId} {B n : Nat} {cnt : Lit → Int} (h : Tally P w k e B n cnt) : B < w.heap.size := by
  obtain ⟨D, h1, _⟩ := h
  exact h1.lt
theorem Tally.mono {P : Program} {w : World} {k e : TypeId} {B n m : Nat} {cnt : Lit → Int} (h : Tally P w k e B n cnt) (hm : n ≤ m) : Tally P w k e B m cnt := by
  obtain ⟨D, h1, h2⟩ := h
  exact ⟨D, h1.mono hm, h2⟩

theorem wpList_lookup_tally {P : Program} (w : World) {ops : Array Oper} {rest : List Oper} {o : Oper} {a : Act} {Q : Exit → Act → World → Prop}
    (hg : o.guard = none) (m x : Operand) (t : TypeId) (hop : o.op = Op.lookup t m x false)
    (k e : TypeId) (K : Keyed P k) (ht : P.underlying t = some (.map k e)) (he : P.underlying e = some (.int .i64)) (hz : (zeroValue e).run P w = .ok (.int .i64 0) w) (b n : Nat) (cnt : Lit → Int)
    (hm : a.eval m = .map (some b)) (h : Tally P w k e b n cnt) (key : Value) (kl : Lit) (hx : a.eval x = key) (hkey : keyOf P k key = some kl) (v : Int) (hv : cnt kl = v)
    (hK : wpList P ops Q rest (a.put o.dst (.int .i64 v)) w) :
    wpList P ops Q (o :: rest) a w := by
  obtain ⟨D, hown, h2, h3⟩ := h
  subst hv
  refine wpList_lookup_own_int w hg m x t hop k e .i64 K ht he hz b n D hm hown key kl hx hkey fun c hat _ => ?_
  have : c = cnt kl := by
    have := hat.symm.trans (h3 kl)
    injection this with this
    injection this
  subst this
  exact hK

theorem wpList_update_tally {P : Program} (w : World) {ops : Array Oper} {rest : List Oper} {o : Oper} {a : Act} {Q : Exit → Act → World → Prop}
    (hg : o.guard = none) (m x v : Operand) (t : TypeId) (hop : o.op = Op.mapUpdate t m x v)
    (k e : TypeId) (K : Keyed P k) (ht : P.underlying t = some (.map k e)) (he : P.underlying e = some (.int .i64)) (b n : Nat) (cnt cnt' : Lit → Int)
    (hm : a.eval m = .map (some b)) (h : Tally P w k e b n cnt) (hn : n < maxLen) (key : Value) (kl : Lit) (i : Int) (hx : a.eval x = key) (hv : a.eval v = .int .i64 i) (hkey : keyOf P k key = some kl) (hkl : WideAt.IsKeyLit kl)
    (hi : (Lit.int .i64 i).wf = true) (h1 : cnt' kl = i) (h2 : ∀ y, y ≠ kl → cnt' y = cnt y)
    (hK : ∀ w', Tally P w' k e b (n + 1) cnt' → w.grownBy w' (some b) → wpList P ops Q rest (a.put o.dst undef) w') :
    wpList P ops Q (o :: rest) a w := by
  obtain ⟨D, hown, g2, g3⟩ := h
  refine wpList_mapUpdate_own w hg m x v t hop k e K ht _ b n D hm hown hn key (.int .i64 i) kl hx hv hkey _ [] (plainElem_int he hi) fun w' hw' hgr => ?_
  refine hK w' ⟨_, hw', g2.put _ _, fun y => ?_⟩ hgr
  by_cases hy : y = kl
  · subst hy; rw [atKey_put_same g2 hkl, h1]
  · rw [atKey_put_other hy, g3, h2 y hy]

/-- How often each of them is there. -/
def cntS (l : List (List UInt8)) : Lit → Int
  | .string s => (l.count s : Nat)
  | _ => 0
theorem cntS_nil : cntS [] = fun _ => 0 := by funext x; cases x <;> rfl
theorem cntS_snoc (l : List (List UInt8)) (s : List UInt8) : cntS (l ++ [s]) (.string s) = (l.count s : Nat) + 1 := by simp [cntS]
theorem cntS_other (l : List (List UInt8)) (s : List UInt8) (x : Lit) (h : x ≠ .string s) : cntS (l ++ [s]) x = cntS l x := by
  cases x <;> try rfl
  rename_i y
  have : y ≠ s := fun e => h (by rw [e])
  simp only [cntS, List.count_append, List.count_singleton]
  rw [if_neg (by simpa using fun e => this e.symm)]; rfl
end Go.Proofs.Ytpodgidamoiakaa
