/-
  Words, laws and contracts: StockZ, SellA, SellB, SellC, SellD.
-/
import Derived.Test.YtoilcdgpeilgaaaGreatBun24
import Derived.Test.YtoilcdgpeilgaaaGreatBun26
import Derived.BigQuiet
set_option linter.unusedSimpArgs false
set_option linter.unusedVariables false
namespace Go.Proofs.YtoilcdgpeilgaaaGreat
open Go.RowKit Go.Shelf
theorem emptyO {α : Type} {a w : World} (c : Cod α) (size : Nat) (e : TypeId) (h : Below a.heap.size a w) : ∀ g, g = w.heap.size → Own c size e (w.alloc (.cells #[] e)) a.heap.size (.slice (some ⟨g, 0, none⟩) 0 0) [] [] := fun g hg => by subst hg; exact Own.empty c size h.size (blk1 w _)
theorem freshG {n : Nat} {a w : World} (_ : Below n a w) (cs : Array Value) (t : TypeId) : ∀ g, g = w.heap.size → Blk (w.alloc (.cells cs t)) g cs t := fun g hg => by subst hg; exact Blk.new w cs t
theorem geOf {a w : World} (h : Below a.heap.size a w) : ∀ g, g = w.heap.size → a.heap.size ≤ g := fun g hg => by subst hg; exact h.size
theorem bkgA_ones (b : Bkg) (A : Option Addr) (n cap : Nat) : ∀ u ∈ (bkgA b (.slice A n cap)).toList, u.oneCell' = true := fun u hu => by
  simp at hu; rcases hu with rfl | rfl | rfl | rfl | rfl | rfl | rfl | rfl | rfl | rfl | rfl <;> rfl
theorem step_load_mid {P : Program} {ops : Array Oper} {op : Oper} {a : Act} {w : World} {K : Act → World → Prop} {Q : Exit → Act → World → Prop} {E : Prop} (hgd : op.guard = none) (ty : TypeId) (x : Operand) (ho : op.op = .load ty x)
    (b o : Nat) (hx : a.eval x = .pointer (some ⟨b, o, none⟩)) (cs : List Value) (d : TypeDesc) (hc : w.rangeAt b o cs) (hu : P.underlying ty = some d) (hd : d.isRow = true) (hi : (P.info? ty).map (·.size) = some cs.length)
    (h : K (a.put op.dst (.agg cs.toArray)) w) : if Region.wanted op (yielded ops a.tmps) = true then Oper.wp P op a w K Q else E := by
  rw [if_pos (by simp [Region.wanted, hgd])]
  exact wp_load_mid ty x ho b o hx cs d hc hu hd hi h
end Go.Proofs.YtoilcdgpeilgaaaGreat
namespace Go.Proofs.YtoilcdgpeilgaaaGreat
open Go.RowKit Go.Shelf
theorem SaiW.bel {w0 : World} {b0 : Nat} {w w' : World} {base : Nat} {x : Sai} {p : SaiV} (h : SaiW w0 b0 w base x p) (hb : Below w.heap.size w w') : SaiW w0 b0 w' base x p := by
  obtain ⟨a1, a2, a3, a4, a5, xs, a6⟩ := h
  exact ⟨a1, a2, Nat.le_trans a3 hb.size, fun k hk0 hkl => (hb.block k (by omega)).trans (a4 k hk0 hkl), a5, xs, a6.bel hb⟩
theorem SaiW.sai {w0 : World} {b0 : Nat} {w : World} {base : Nat} {x : Sai} {p : SaiV} (h : SaiW w0 b0 w base x p) : SaiR w x p := SaiO.sai ⟨w0, b0, h⟩
end Go.Proofs.YtoilcdgpeilgaaaGreat
namespace Go.Proofs.YtoilcdgpeilgaaaGreat
open Go.RowKit Go.Shelf
theorem ids_of {x : Sai} (ho : OkSai x) : ∀ b ∈ x.bks, 1 ≤ b.id ∧ b.id ≤ 999999 := fun b hb => betB_iff.1 (ho.bs.bk b hb).id
theorem sl_entryS {w : World} {e : Nat} {a b c : Int} (h : Blk w e #[.int .i64 a, .int .i64 b, .int .i64 c] 57) (ha : InI a) (hb : InI b) (hc : InI c) : Sl entryC 3 w All (some ⟨e, 0, none⟩) 1 1 [⟨a, b, c⟩] :=
  Sl.ofBlk (c := entryC) (size := 3) h ([⟨a, b, c⟩] : List Entry) (by simp) trivial fun i x hx => by
    rcases i with _ | i
    · simp at hx; subst hx; exact ⟨[.int .i64 a, .int .i64 b, .int .i64 c], ⟨rfl, ha, hb, hc⟩, rfl, fun j u hu => by simpa using hu⟩
    · simp at hx
def IfOK (r : Int) (P : Prop) : Prop := r = 0 → P
end Go.Proofs.YtoilcdgpeilgaaaGreat
namespace Go.Proofs.YtoilcdgpeilgaaaGreat
open Go.RowKit Go.Shelf
def zeroS : Sai := ⟨⟨0, 0, [], []⟩, ⟨[], 0, 0, [], 0⟩, 0, 0, [], false⟩
abbrev zeroP : SaiV := ⟨none, 0, 0, none, 0, 0, none, 0, 0, none, 0, 0, none, 0, 0⟩
def okS (e : Int) (x : Sai) : Sai := if e = 0 then x else zeroS
theorem okS_zero (x : Sai) : okS 0 x = x := rfl
theorem okS_ne {e : Int} (h : ¬ e = 0) (x : Sai) : okS e x = zeroS := if_neg h
theorem zero_in : InI 0 := .of (by decide) (by decide)
theorem zeroS_own (w : World) (base : Nat) (h : base ≤ w.heap.size) : SaiO w base zeroS zeroP :=
  ⟨w, base, Nat.le_refl _, h, Nat.le_refl _, fun _ _ _ => rfl, ⟨⟨[], Own.nil _ _ _ _ _⟩, ⟨[], Own.nil _ _ _ _ _⟩, ⟨[], Own.nil _ _ _ _ _⟩, ⟨[], Own.nil _ _ _ _ _⟩, zero_in, zero_in, zero_in⟩, [], Own.nil _ _ _ _ _⟩
theorem zeroS_rd (w : World) : SaiR w zeroS zeroP := (zeroS_own w 0 (Nat.zero_le _)).sai
theorem Blk.ret2 {fn : Func} {k u : Tmp} {ty t : TypeId} (hf : fn.results = #[.cell k ty, .tmp u]) {tmps : Array Value} {w : World} {g : Nat} {cs : Array Value} {d : TypeDesc} (hg : Blk w g cs t) (hp : tmps.getD k undef = .pointer (some ⟨g, 0, none⟩)) {e : Value} (he : tmps.getD u undef = e)
    (hu : Tryz.prog.underlying ty = some d) (hd : (match d with | .struct _ | .array _ _ => true | _ => false) = true) (hi : (Tryz.prog.info? ty).map (·.size) = some cs.size) : (results fn tmps).run Tryz.prog w = .ok (.tuple #[.agg cs, e]) w := by
  have h' : w.heap[g]? = some (.cells cs t (0, 0)) := hg
  rw [results_cell_tmp (p := k) (u := u) (ty := ty) hf, hp, he]
  cases d <;> first | simp [asAddr, run_loadVar_row w g t ty cs (0, 0) _ h' hu rfl hi, Sem.run_pure] | simp at hd
def ResS (w' : World) (base : Nat) (E : Int) (X : Sai) (e : Ending) : Prop := ∃ y p', e = .returned (.tuple #[.agg (saiA y p'), .int .i64 E]) ∧ y = okS E X ∧ SaiO w' base y p'
end Go.Proofs.YtoilcdgpeilgaaaGreat
namespace Go.Proofs.YtoilcdgpeilgaaaGreat
open Go.RowKit Go.Shelf
def NewSame (w w' V : World) : Prop := ∀ b, w.heap.size ≤ b → b < w'.heap.size → V.heap[b]? = w'.heap[b]?
def ResK (K : World → Prop) (w w' : World) (E : Int) (X : Sai) (e : Ending) : Prop := ∃ y p', e = .returned (.tuple #[.agg (saiA y p'), .int .i64 E]) ∧ y = okS E X ∧ ∀ V, K V → NewSame w w' V → SaiR V y p'
end Go.Proofs.YtoilcdgpeilgaaaGreat
