/-
  Words, laws and contracts: ChgA, ChgB.
-/
import Derived.Test.YtoilcdgpeilgaaaGreatBun25
import Derived.BigQuiet
set_option linter.unusedSimpArgs false
set_option linter.unusedVariables false
namespace Go.Proofs.YtoilcdgpeilgaaaGreat
open Go.RowKit Go.Shelf
def setS (x : Sai) (i : Nat) (b : Bkg) : Sai := { x with bks := x.bks.set i b }
def curB (x : Sai) (t : Int) : Bkg := x.bks.getD (posI x.bks t) default
theorem cellK {S : Nat → Prop} {W X : World} {p : Addr} {v : Value} (hK : Kept S W X) (hS : ¬ S p.block) (hc : W.cell? p = some v) : X.cell? p = some v := (World.cell?_of_block (hK.block _ (World.block_lt_of_cell? W p hc) hS)).trans hc
theorem idxF_has {l : List Bkg} {t : Int} (hr : Rise l) (h : hasId l t = true) : ∃ b, l[posI l t]? = some b ∧ b.id = t ∧ posI l t < l.length ∧ atI l t = (posI l t : Int) := by
  unfold hasId at h
  obtain ⟨b, hb, he⟩ := List.any_eq_true.1 h
  have he := of_decide_eq_true he
  obtain ⟨i, hi⟩ := List.getElem?_of_mem hb
  have hil := (List.getElem?_eq_some_iff.1 hi).1
  have hlo : LowTo l t i := fun q c hq hc => by have := hr q i c b hq hc hi; omega
  have hhi : HighFrom l t i := fun q c hq hc => by
    rcases Nat.lt_or_ge i q with h1 | h1
    · have := hr i q b c h1 hi hc; omega
    · obtain rfl : q = i := by omega
      rw [hi] at hc; injection hc with hc; subst hc; omega
  have hp := pos_of (by omega) hlo hhi
  rw [hp]
  refine ⟨b, hi, he, hil, ?_⟩
  refine idxF_at (x := b) ?_ hi (decide_eq_true he)
  refine List.any_eq_false.2 fun c hc => ?_
  obtain ⟨q, hq⟩ := List.getElem?_of_mem hc
  have hql := (List.getElem?_eq_some_iff.1 hq).1
  rw [List.length_take] at hql
  rw [List.getElem?_take, if_pos (by omega)] at hq
  have := hlo q c (by omega) hq
  simp; omega
end Go.Proofs.YtoilcdgpeilgaaaGreat
namespace Go.Proofs.YtoilcdgpeilgaaaGreat
open Go.RowKit Go.Shelf
section
variable {α : Type} {c : Cod α} {size : Nat} {e : TypeId} {w : World} {base g n cap : Nat} {l : List α} {xs : List Value}
theorem Own.putG (hg : Good c) (h : Own c size e w base (.slice (some ⟨g, 0, none⟩) n cap) l xs) {i j : Nat} {x x' : α} {u : Value} (hx : l[i]? = some x) (hj : j < size)
    (hc : ∀ cs, c (w.setCell ⟨g, i * size + j, none⟩ u) (Beside base (.slice (some ⟨g, 0, none⟩) n cap)) x cs → c (w.setCell ⟨g, i * size + j, none⟩ u) (Beside base (.slice (some ⟨g, 0, none⟩) n cap)) x' (cs.set j u)) :
    Own c size e (w.setCell ⟨g, i * size + j, none⟩ u) base (.slice (some ⟨g, 0, none⟩) n cap) (l.set i x') (xs.set (i * size + j) u) := by
  have hrow := h.row
  have hn := h.len
  subst hn
  have hk : Kept (fun b => b = g) w (w.setCell ⟨g, i * size + j, none⟩ u) := (Kept.refl (fun b => b = g) w).setCell (p := ⟨g, i * size + j, none⟩) (.inl rfl) u
  have hmove : ∀ (x : α) (cs0 : List Value), c w (Beside base (.slice (some ⟨g, 0, none⟩) l.length cap)) x cs0 → c (w.setCell ⟨g, i * size + j, none⟩ u) (Beside base (.slice (some ⟨g, 0, none⟩) l.length cap)) x cs0 := fun x cs0 h0 =>
    hg.keep h0 fun b hb hlt => ⟨hk.block b hlt (fun e => by subst e; exact hb.2 rfl), hb⟩
  have hil : i < l.length := (List.getElem?_eq_some_iff.1 hx).1
  have hxl : xs.length = l.length * size := hrow.1
  have hlt : i * size + j < xs.length := by have := idx_in hil hj; omega
  refine ⟨by rw [List.length_set]; exact (hrow.stored _ u).1, fun k y hy => ?_⟩
  by_cases hki : k = i
  · subst hki
    rw [List.getElem?_set_self hil] at hy
    injection hy with hy
    subst hy
    obtain ⟨cs, hcc, hl, hcell⟩ := h.el k x hx
    refine ⟨cs.set j u, hc _ (hmove _ _ hcc), by simpa using hl, fun q v hv => ?_⟩
    by_cases hq : q = j
    · subst hq
      rw [List.getElem?_set_self (by omega)] at hv
      rw [List.getElem?_set_self hlt]
      exact hv
    · rw [List.getElem?_set_ne (by omega)] at hv
      rw [List.getElem?_set_ne (by omega)]
      exact hcell q v hv
  · rw [List.getElem?_set_ne (by omega)] at hy
    obtain ⟨cs, hcc, hl, hcell⟩ := h.el k y hy
    refine ⟨cs, hmove _ _ hcc, hl, fun q v hv => ?_⟩
    have hq : q < size := by have := (List.getElem?_eq_some_iff.1 hv).1; omega
    rw [List.getElem?_set_ne ?_]
    · exact hcell q v hv
    · intro he
      rcases Nat.lt_or_ge k i with h1 | h1
      · have := idx_lt h1 hq; omega
      · have := idx_lt (show i < k by omega) hj; omega
end
section
variable {w0 : World} {b0 : Nat} {w : World} {base : Nat} {x : Sai} {p : SaiV} {g i : Nat} {b : Bkg}
theorem SaiW.put {j : Nat} {b' : Bkg} {u : Value} (h : SaiW w0 b0 w base x p) (hC : p.C = some ⟨g, 0, none⟩) (hb : x.bks[i]? = some b) (hj : j < 11)
    (hc : ∀ cs, bkgO (w.setCell ⟨g, i * 11 + j, none⟩ u) (Beside w0.heap.size (.slice (some ⟨g, 0, none⟩) p.nb p.cb)) b cs → bkgO (w.setCell ⟨g, i * 11 + j, none⟩ u) (Beside w0.heap.size (.slice (some ⟨g, 0, none⟩) p.nb p.cb)) b' (cs.set j u)) :
    SaiW w0 b0 (w.setCell ⟨g, i * 11 + j, none⟩ u) base (setS x i b') p := by
  obtain ⟨a1, a2, a3, a4, a5, xs, a6⟩ := h
  rw [hC] at a6
  have hg := (a6.lt g rfl).1
  have hk : Kept (fun b => b = g) w (w.setCell ⟨g, i * 11 + j, none⟩ u) := (Kept.refl (fun b => b = g) w).setCell (p := ⟨g, i * 11 + j, none⟩) (.inl rfl) u
  refine ⟨a1, a2, Nat.le_trans a3 hk.size, fun k h1 h2 => (hk.block k (by omega) (by omega)).trans (a4 k h1 h2), ⟨a5.cats, a5.cabs, a5.leg, a5.bands, a5.a, a5.t, a5.d⟩, xs.set (i * 11 + j) u, ?_⟩
  rw [hC]
  exact a6.putG bkgO_good hb hj hc
theorem SaiW.at (h : SaiW w0 b0 w base x p) (hb : x.bks[i]? = some b) : ∃ g A3 n3 c3, p.C = some ⟨g, 0, none⟩ ∧ w0.heap.size ≤ g ∧ g < w.heap.size ∧ (∀ j u, (bkgA b (.slice A3 n3 c3)).toList[j]? = some u → w.cell? ⟨g, i * 11 + j, none⟩ = some u) ∧
    (∀ j, w.frozen? ⟨g, j, none⟩ = false) ∧ Sl entryC 3 w All A3 n3 c3 b.fol ∧ BkIn b ∧ x.bks.length = p.nb := by
  obtain ⟨a1, a2, a3, a4, a5, xs, a6⟩ := h
  obtain ⟨g, cap, hv, hg, hgl⟩ := a6.form (by have := (List.getElem?_eq_some_iff.1 hb).1; omega)
  injection hv with e1 e2 e3
  rw [e1] at a6
  obtain ⟨cs, hc, hl, hcell, hf⟩ := a6.cells hb
  obtain ⟨v, rfl, hi, hI⟩ := hc
  obtain ⟨A3, n3, c3, rfl, hs⟩ := hi.sl entryC_good entryC_flat2
  exact ⟨g, A3, n3, c3, e1, hg, hgl, hcell, hf, hs.all entryC_good (by omega), hI, e2.symm⟩
end
end Go.Proofs.YtoilcdgpeilgaaaGreat
