/-
  Categories by their cells alone: a name, and where those above lie.
-/
import Derived.Test.YtpodgidamoiakaaShipM
import Derived.Test.YtpodgidamoiakaaBlkSet
import Derived.Test.YtpodgidamoiakaaStepApp
namespace Go.Proofs.Ytpodgidamoiakaa
open Go.RowKit Go.Shelf

structure CP where
  name : List UInt8
  A : Option Addr
  n : Nat
  cap : Nat
def catP : Cod CP := fun _ _ x cs => cs = [strV x.name, .slice x.A x.n x.cap]
theorem catP_flat : Flat catP := fun _ _ _ _ _ _ h => h
theorem catP_good : Good catP := .of_flat catP_flat fun h u hu => by cases h; simp at hu; rcases hu with rfl | rfl <;> rfl
instance catPK : CodK catP 2 := ⟨catP_good, by omega⟩

/-- What a category's cells lead to. -/
def Leads (w : World) (p : CP) (x : Cat) : Prop := p.name = x.name ∧ Sl intC 1 w All p.A p.n p.cap x.high ∧ x.name.length ≤ maxLen
theorem Leads.bel {w w' : World} {p : CP} {x : Cat} (h : Leads w p x) (hb : Below w.heap.size w w') : Leads w' p x := ⟨h.1, h.2.1.bel hb, h.2.2⟩

theorem cats_ptrs {w : World} {A : Option Addr} {n cap : Nat} {cats : List Cat} (h : Sl catC 2 w All A n cap cats) : ∃ L : List CP, L.length = cats.length ∧ Sl catP 2 w All A n cap L ∧ ∀ (i : Nat) (x : Cat), cats[i]? = some x → ∃ p, L[i]? = some p ∧ Leads w p x := by
  have key : ∀ i : Fin cats.length, ∃ p : CP, ∃ b off, A = some ⟨b, off, none⟩ ∧ Leads w p cats[i] ∧ w.cell? ⟨b, off + i.1 * 2, none⟩ = some (strV p.name) ∧ w.cell? ⟨b, off + i.1 * 2 + 1, none⟩ = some (.slice p.A p.n p.cap) := fun i => by
    obtain ⟨b, off, x, c0, c1, hA, hx, ⟨A2, n2, cap2, hcs, hs2, hl⟩, g0, g1⟩ := h.at2 (k := i.1) (by rw [← h.len]; exact i.2)
    simp only [List.cons.injEq, and_true] at hcs
    obtain ⟨rfl, rfl⟩ := hcs
    have hxi : cats[i] = x := by
      have := List.getElem?_eq_getElem i.2
      rw [hx] at this; injection this with e; exact e.symm
    refine ⟨⟨x.name, A2, n2, cap2⟩, b, off, hA, ?_, g0, g1⟩
    rw [hxi]
    exact ⟨rfl, hs2, hl⟩
  refine ⟨List.ofFn fun i => Classical.choose (key i), by simp, ⟨by simp [h.len], h.le, h.max, fun i y hy => ?_⟩, fun i x hx => ?_⟩
  · have hi : i < cats.length := by have := (List.getElem?_eq_some_iff.1 hy).1; simpa using this
    rw [List.getElem?_eq_getElem (by simpa using hi)] at hy
    simp only [List.getElem_ofFn, Option.some.injEq] at hy
    obtain ⟨b, off, hA, _, g0, g1⟩ := Classical.choose_spec (key ⟨i, hi⟩)
    rw [hy] at g0 g1
    refine ⟨b, off, _, hA, trivial, rfl, rfl, fun j u hu => ?_⟩
    rcases j with _ | _ | j
    · simp at hu; subst hu; exact g0
    · simp at hu; subst hu; exact g1
    · simp at hu
  · have hi : i < cats.length := (List.getElem?_eq_some_iff.1 hx).1
    obtain ⟨b, off, hA, hl, _, _⟩ := Classical.choose_spec (key ⟨i, hi⟩)
    refine ⟨Classical.choose (key ⟨i, hi⟩), by rw [List.getElem?_eq_getElem (by simpa using hi)]; simp, ?_⟩
    have hxi : cats[i] = x := (List.getElem?_eq_some_iff.1 hx).2
    have hl2 : Leads w (Classical.choose (key ⟨i, hi⟩)) cats[i] := hl
    rwa [hxi] at hl2
theorem ptrs_cats {w : World} {A : Option Addr} {n cap : Nat} {cats : List Cat} {L : List CP} (h : Sl catP 2 w All A n cap L) (hl : L.length = cats.length) (hp : ∀ (i : Nat) (x : Cat) (p : CP), cats[i]? = some x → L[i]? = some p → Leads w p x) : Sl catC 2 w All A n cap cats := by
  refine ⟨by rw [← hl]; exact h.len, h.le, h.max, fun i x hx => ?_⟩
  have hi : i < L.length := by rw [hl]; exact (List.getElem?_eq_some_iff.1 hx).1
  obtain ⟨b, off, cs, hA, _, hc, hcl, hcell⟩ := h.rd i L[i] (List.getElem?_eq_getElem hi)
  obtain ⟨h1, h2, h3⟩ := hp i x L[i] hx (List.getElem?_eq_getElem hi)
  refine ⟨b, off, cs, hA, trivial, ⟨L[i].A, L[i].n, L[i].cap, ?_, h2, h3⟩, hcl, hcell⟩
  rw [show cs = [strV L[i].name, .slice L[i].A L[i].n L[i].cap] from hc, h1]

theorem cat_elem : ElemOf Try.prog 22 32 2 40 := .mk' Try.underlying22 (z := .agg #[strV [], .slice none 0 0]) (by kernel_rfl) rfl (by omega)
theorem cell_st {X : World} {p i ob k : Nat} {v u : Value} (h : X.cell? ⟨p, i, none⟩ = some v) (hne : p ≠ ob) : (X.setCell ⟨ob, k, none⟩ u).cell? ⟨p, i, none⟩ = some v :=
  (World.cell?_of_block (a := ⟨p, i, none⟩) (Below.heap_setCell _ _ _ _ hne)).trans h
end Go.Proofs.Ytpodgidamoiakaa
