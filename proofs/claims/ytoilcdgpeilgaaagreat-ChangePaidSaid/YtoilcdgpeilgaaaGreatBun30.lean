/-
  Words, laws and contracts: Elem, StockZ, SellA, SellB, SellC.
-/
import Derived.Test.YtoilcdgpeilgaaaGreatBun26
import Derived.Deep.MidRow
import Derived.BigQuiet
set_option linter.unusedSimpArgs false
set_option linter.unusedVariables false
namespace Go.Proofs.YtoilcdgpeilgaaaGreat
open Go.RowKit Go.Shelf
section
variable {α : Type} {c : Cod α} {size : Nat} {e : TypeId} {w w' : World} {base g n cap : Nat} {l : List α} {xs : List Value}
theorem Own.len (h : Own c size e w base (.slice (some ⟨g, 0, none⟩) n cap) l xs) : n = l.length := by
  rcases h.row.2 with ⟨hv, _⟩ | ⟨g', cap', cur, hv, _⟩
  · cases hv
  · injection hv
theorem idx_in {i L k s : Nat} (hi : i < L) (hk : k < s) : i * s + k < L * s := by
  have : (i + 1) * s ≤ L * s := Nat.mul_le_mul_right _ hi
  rw [Nat.add_mul] at this; omega
theorem idx_lt {i k s j : Nat} (hi : k < i) (hj : j < s) : k * s + j < i * s := by
  have : (k + 1) * s ≤ i * s := Nat.mul_le_mul_right _ hi
  rw [Nat.add_mul] at this; omega
theorem Own.range (h : Own c size e w base (.slice (some ⟨g, 0, none⟩) n cap) l xs) {i : Nat} {x : α} (hx : l[i]? = some x) :
    ∃ cs, c w (Beside base (.slice (some ⟨g, 0, none⟩) n cap)) x cs ∧ cs.length = size ∧ w.rangeAt g (i * size) cs ∧ w.there g (i * size) size := by
  obtain ⟨cs, h1, h2, h3, h4⟩ := h.cells hx
  refine ⟨cs, h1, h2, h3, fun j hj => ⟨?_, h4 _⟩⟩
  rw [h3 j _ (List.getElem?_eq_getElem (by omega))]; rfl
end
end Go.Proofs.YtoilcdgpeilgaaaGreat
namespace Go.Proofs.YtoilcdgpeilgaaaGreat
open Go.RowKit Go.Shelf
theorem freshG {n : Nat} {a w : World} (_ : Below n a w) (cs : Array Value) (t : TypeId) : ∀ g, g = w.heap.size → Blk (w.alloc (.cells cs t)) g cs t := fun g hg => by subst hg; exact Blk.new w cs t
theorem geOf {a w : World} (h : Below a.heap.size a w) : ∀ g, g = w.heap.size → a.heap.size ≤ g := fun g hg => by subst hg; exact h.size
theorem step_load_mid {P : Program} {ops : Array Oper} {op : Oper} {a : Act} {w : World} {K : Act → World → Prop} {Q : Exit → Act → World → Prop} {E : Prop} (hgd : op.guard = none) (ty : TypeId) (x : Operand) (ho : op.op = .load ty x)
    (b o : Nat) (hx : a.eval x = .pointer (some ⟨b, o, none⟩)) (cs : List Value) (d : TypeDesc) (hc : w.rangeAt b o cs) (hu : P.underlying ty = some d) (hd : d.isRow = true) (hi : (P.info? ty).map (·.size) = some cs.length)
    (h : K (a.put op.dst (.agg cs.toArray)) w) : if Region.wanted op (yielded ops a.tmps) = true then Oper.wp P op a w K Q else E := by
  rw [if_pos (by simp [Region.wanted, hgd])]
  exact wp_load_mid ty x ho b o hx cs d hc hu hd hi h
end Go.Proofs.YtoilcdgpeilgaaaGreat
namespace Go.Proofs.YtoilcdgpeilgaaaGreat
open Go.RowKit Go.Shelf
theorem SaiW.bel {w0 : World} {b0 : Nat} {w w' : World} {base : Nat} {x : Sai} {p : SaiV} (h : SaiW w0 b0 w base x p) (hb : Below w.heap.size w w') : SaiW w0 b0 w' base x p := by
  obtain ⟨a1, a2, a3, a4, a5, xs, a6⟩ := h
  exact ⟨a1, a2, Nat.le_trans a3 hb.size, fun k hk0 hkl => (hb.block k (by omega)).trans (a4 k hk0 hkl), a5, xs, a6.bel hb⟩
theorem SaiW.sai {w0 : World} {b0 : Nat} {w : World} {base : Nat} {x : Sai} {p : SaiV} (h : SaiW w0 b0 w base x p) : SaiR w x p := SaiO.sai ⟨w0, b0, h⟩
end Go.Proofs.YtoilcdgpeilgaaaGreat
namespace Go.Proofs.YtoilcdgpeilgaaaGreat
open Go.RowKit Go.Shelf
theorem ids_of {x : Sai} (ho : OkSai x) : ∀ b ∈ x.bks, 1 ≤ b.id ∧ b.id ≤ 999999 := fun b hb => betB_iff.1 (ho.bs.bk b hb).id
def IfOK (r : Int) (P : Prop) : Prop := r = 0 → P
end Go.Proofs.YtoilcdgpeilgaaaGreat
namespace Go.Proofs.YtoilcdgpeilgaaaGreat
open Go.RowKit Go.Shelf
def zeroS : Sai := ⟨⟨0, 0, [], []⟩, ⟨[], 0, 0, [], 0⟩, 0, 0, [], false⟩
abbrev zeroP : SaiV := ⟨none, 0, 0, none, 0, 0, none, 0, 0, none, 0, 0, none, 0, 0⟩
def okS (e : Int) (x : Sai) : Sai := if e = 0 then x else zeroS
theorem okS_zero (x : Sai) : okS 0 x = x := rfl
theorem okS_ne {e : Int} (h : ¬ e = 0) (x : Sai) : okS e x = zeroS := if_neg h
theorem zero_in : InI 0 := .of (by decide) (by decide)
theorem zeroS_own (w : World) (base : Nat) (h : base ≤ w.heap.size) : SaiO w base zeroS zeroP :=
  ⟨w, base, Nat.le_refl _, h, Nat.le_refl _, fun _ _ _ => rfl, ⟨⟨[], Own.nil _ _ _ _ _⟩, ⟨[], Own.nil _ _ _ _ _⟩, ⟨[], Own.nil _ _ _ _ _⟩, ⟨[], Own.nil _ _ _ _ _⟩, zero_in, zero_in, zero_in⟩, [], Own.nil _ _ _ _ _⟩
theorem Blk.ret2 {fn : Func} {k u : Tmp} {ty t : TypeId} (hf : fn.results = #[.cell k ty, .tmp u]) {tmps : Array Value} {w : World} {g : Nat} {cs : Array Value} {d : TypeDesc} (hg : Blk w g cs t) (hp : tmps.getD k undef = .pointer (some ⟨g, 0, none⟩)) {e : Value} (he : tmps.getD u undef = e)
    (hu : Tryz.prog.underlying ty = some d) (hd : (match d with | .struct _ | .array _ _ => true | _ => false) = true) (hi : (Tryz.prog.info? ty).map (·.size) = some cs.size) : (results fn tmps).run Tryz.prog w = .ok (.tuple #[.agg cs, e]) w := by
  have h' : w.heap[g]? = some (.cells cs t (0, 0)) := hg
  rw [results_cell_tmp (p := k) (u := u) (ty := ty) hf, hp, he]
  cases d <;> first | simp [asAddr, run_loadVar_row w g t ty cs (0, 0) _ h' hu rfl hi, Sem.run_pure] | simp at hd
def ResS (w' : World) (base : Nat) (E : Int) (X : Sai) (e : Ending) : Prop := ∃ y p', e = .returned (.tuple #[.agg (saiA y p'), .int .i64 E]) ∧ y = okS E X ∧ SaiO w' base y p'
end Go.Proofs.YtoilcdgpeilgaaaGreat
