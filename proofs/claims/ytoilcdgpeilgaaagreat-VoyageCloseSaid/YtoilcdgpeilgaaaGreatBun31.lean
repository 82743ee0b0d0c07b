/-
  Words, laws and contracts: StockZ, SellA, SellC.
-/
import Derived.Test.YtoilcdgpeilgaaaGreatBun26
import Derived.Test.YtoilcdgpeilgaaaGreatBun30
import Derived.BigQuiet
set_option linter.unusedSimpArgs false
set_option linter.unusedVariables false
namespace Go.Proofs.YtoilcdgpeilgaaaGreat
open Go.RowKit Go.Shelf
theorem bkgA_ones (b : Bkg) (A : Option Addr) (n cap : Nat) : ∀ u ∈ (bkgA b (.slice A n cap)).toList, u.oneCell' = true := fun u hu => by
  simp at hu; rcases hu with rfl | rfl | rfl | rfl | rfl | rfl | rfl | rfl | rfl | rfl | rfl <;> rfl
end Go.Proofs.YtoilcdgpeilgaaaGreat
namespace Go.Proofs.YtoilcdgpeilgaaaGreat
open Go.RowKit Go.Shelf
theorem bkgO_keepTy {w w' : World} {S : Nat → Prop} {z : Nat} {zs : Array Value} {t : TypeId} {x : Bkg} {cs : List Value} (h : bkgO w S x cs) (hZ : Blk w z zs t) (ht : t ≠ 57) (hk : Kept (fun k => k = z) w w') : bkgO w' S x cs := by
  obtain ⟨v, rfl, ⟨xs, hO, hS⟩, hI⟩ := h
  exact ⟨v, rfl, ⟨xs, hO.keepB entryC_flat2 (fun k hk2 => hk.block k (hO.lt k hk2).2 (fun e => hO.neTy hZ ht (by rw [hk2, e]))), hS⟩, hI⟩
theorem SaiW.keepZ {w0 : World} {b0 : Nat} {w w' : World} {base : Nat} {x : Sai} {p : SaiV} {z : Nat} {zs : Array Value} {t : TypeId} (h : SaiW w0 b0 w base x p) (hZ : Blk w z zs t) (h1 : t ≠ 57) (h2 : t ≠ 37) (hz : w0.heap.size ≤ z)
    (hk : Kept (fun k => k = z) w w') : SaiW w0 b0 w' base x p := by
  obtain ⟨a1, a2, a3, a4, a5, xs, a6⟩ := h
  have hv := a6.neTy hZ h2
  refine ⟨a1, a2, Nat.le_trans a3 hk.size, fun k hk0 hkl => (hk.block k (by omega) (by omega)).trans (a4 k hk0 hkl), a5, xs, ⟨⟨a6.row.1, ?_⟩, fun i y hy => ?_⟩⟩
  · rcases a6.row.2 with h0 | ⟨g, cap, cur, hv', hb, hgg, r⟩
    · exact .inl h0
    · exact .inr ⟨g, cap, cur, hv', hb, (hk.block g (Array.getElem?_eq_some_iff.1 hgg).1 (fun e => hv (by rw [hv', e]; rfl))).trans hgg, r⟩
  · obtain ⟨cs, hc, r⟩ := a6.el i y hy
    exact ⟨cs, bkgO_keepTy hc hZ h1 hk, r⟩
theorem SaiW.bel {w0 : World} {b0 : Nat} {w w' : World} {base : Nat} {x : Sai} {p : SaiV} (h : SaiW w0 b0 w base x p) (hb : Below w.heap.size w w') : SaiW w0 b0 w' base x p := by
  obtain ⟨a1, a2, a3, a4, a5, xs, a6⟩ := h
  exact ⟨a1, a2, Nat.le_trans a3 hb.size, fun k hk0 hkl => (hb.block k (by omega)).trans (a4 k hk0 hkl), a5, xs, a6.bel hb⟩
theorem SaiW.sai {w0 : World} {b0 : Nat} {w : World} {base : Nat} {x : Sai} {p : SaiV} (h : SaiW w0 b0 w base x p) : SaiR w x p := SaiO.sai ⟨w0, b0, h⟩
end Go.Proofs.YtoilcdgpeilgaaaGreat
namespace Go.Proofs.YtoilcdgpeilgaaaGreat
open Go.RowKit Go.Shelf
def zeroS : Sai := ⟨⟨0, 0, [], []⟩, ⟨[], 0, 0, [], 0⟩, 0, 0, [], false⟩
abbrev zeroP : SaiV := ⟨none, 0, 0, none, 0, 0, none, 0, 0, none, 0, 0, none, 0, 0⟩
def okS (e : Int) (x : Sai) : Sai := if e = 0 then x else zeroS
theorem okS_zero (x : Sai) : okS 0 x = x := rfl
theorem okS_ne {e : Int} (h : ¬ e = 0) (x : Sai) : okS e x = zeroS := if_neg h
theorem zero_in : InI 0 := .of (by decide) (by decide)
theorem zeroS_own (w : World) (base : Nat) (h : base ≤ w.heap.size) : SaiO w base zeroS zeroP :=
  ⟨w, base, Nat.le_refl _, h, Nat.le_refl _, fun _ _ _ => rfl, ⟨⟨[], Own.nil _ _ _ _ _⟩, ⟨[], Own.nil _ _ _ _ _⟩, ⟨[], Own.nil _ _ _ _ _⟩, ⟨[], Own.nil _ _ _ _ _⟩, zero_in, zero_in, zero_in⟩, [], Own.nil _ _ _ _ _⟩
theorem Blk.ret2 {fn : Func} {k u : Tmp} {ty t : TypeId} (hf : fn.results = #[.cell k ty, .tmp u]) {tmps : Array Value} {w : World} {g : Nat} {cs : Array Value} {d : TypeDesc} (hg : Blk w g cs t) (hp : tmps.getD k undef = .pointer (some ⟨g, 0, none⟩)) {e : Value} (he : tmps.getD u undef = e)
    (hu : Tryz.prog.underlying ty = some d) (hd : (match d with | .struct _ | .array _ _ => true | _ => false) = true) (hi : (Tryz.prog.info? ty).map (·.size) = some cs.size) : (results fn tmps).run Tryz.prog w = .ok (.tuple #[.agg cs, e]) w := by
  have h' : w.heap[g]? = some (.cells cs t (0, 0)) := hg
  rw [results_cell_tmp (p := k) (u := u) (ty := ty) hf, hp, he]
  cases d <;> first | simp [asAddr, run_loadVar_row w g t ty cs (0, 0) _ h' hu rfl hi, Sem.run_pure] | simp at hd
def ResS (w' : World) (base : Nat) (E : Int) (X : Sai) (e : Ending) : Prop := ∃ y p', e = .returned (.tuple #[.agg (saiA y p'), .int .i64 E]) ∧ y = okS E X ∧ SaiO w' base y p'
end Go.Proofs.YtoilcdgpeilgaaaGreat
