/-
  Words, laws and contracts: Lift.
-/
import Derived.Test.YtoilcdgpeilgaaaGreatBun1
import Derived.Test.YtoilcdgpeilgaaaGreatRows
import Derived.ProofKit
import Derived.OpenShut
import Derived.ShutString
import Derived.ChangeOld
import Derived.Deep.Slices
set_option linter.unusedSimpArgs false
set_option linter.unusedVariables false
namespace Go.Proofs.YtoilcdgpeilgaaaGreat
open Go.ChangeShapes Go.WideShapes Go.ChangeAt Go.RowKit
theorem own : ownKnob Tryz.prog.godebug = none := by kernel_rfl
theorem laidOut : laidOutB Tryz.prog = true := by kernel_rfl
theorem InI.of_wf {n : Int} (h : (Lit.int .i64 n).wf = true) : InI n := bounds_i64 h
def Opens {α : Type} (c : Cod α) (t : TypeId) : Prop :=
  ∀ {H : Type} {enc : TypeId × Value → H} {W : World} {base : Nat} {spare : Nat → Bool} {held : Bool} {fuel : Nat} {cs : List Value} {x : DataW H × List MemPlace}, DataW.trod enc Tryz.prog W base (fun b => spare b) held fuel t cs = some x → ∃ a, c W All a cs
theorem opens_sl {α : Type} {c : Cod α} {size : Nat} {t e : TypeId} (ht : Tryz.prog.underlying t = some (.slice e)) (hs : Tryz.prog.cellsOf e = size) (hp : 0 < size) (he : Opens c e) : Opens (slC c size) t := by
  intro H enc W base spare held fuel cs x h
  rcases Deep.open_slice ht h with ⟨rfl, _⟩ | ⟨a, len, cap, m, n, D, Pl, rfl, _, hl, hm, hmm, _, hi⟩
  · exact ⟨[], none, 0, 0, rfl, Sl.nil _ _ _ _⟩
  · have hlm : len ≤ m := by rw [hmm]; split <;> omega
    have key : ∀ i : Fin len, ∃ a' : α, ∃ b off cs', a = ⟨b, off, none⟩ ∧ c W All a' cs' ∧ cs'.length = size ∧ ∀ j u, cs'[j]? = some u → W.cell? ⟨b, off + i.1 * size + j, none⟩ = some u := fun i => by
      obtain ⟨cs', hc, ht'⟩ := hi i.1 (by omega)
      obtain ⟨a', ha'⟩ := he ht'
      rw [hs] at hc
      obtain ⟨_, hcl, hat⟩ := World.cells?_some hc
      have hspot : a.spot = none := by
        have h0 := hat 0 hp
        rw [List.getElem?_eq_getElem (by omega)] at h0
        have h1 := World.cell?_spot h0
        simp only [Addr.add] at h1
        by_cases hi0 : i.1 * size = 0
        · simpa [hi0] using h1
        · have h2 := World.cell?_spot h0
          have hi1 : 0 < size := hp
          obtain ⟨cs0, hc0, _⟩ := hi 0 (by have := i.2; omega)
          rw [hs] at hc0
          obtain ⟨_, hcl0, hat0⟩ := World.cells?_some hc0
          have h00 := hat0 0 hp
          rw [List.getElem?_eq_getElem (by omega)] at h00
          have h01 := World.cell?_spot h00
          simpa [Addr.add] using h01
      obtain ⟨b, off, sp⟩ := a
      simp only at hspot
      subst hspot
      refine ⟨a', b, off, cs', rfl, ha', hcl, fun j u hu => ?_⟩
      have hj : j < size := by rw [← hcl]; exact (List.getElem?_eq_some_iff.1 hu).1
      have h3 := (hat j hj).trans hu
      have hadd : ((⟨b, off, none⟩ : Addr).add (i.1 * size)).add j = ⟨b, off + i.1 * size + j, none⟩ := by
        rw [Deep.add_add]
        generalize i.1 * size = q
        unfold Addr.add
        split
        · next h0 => simp only [Addr.mk.injEq, true_and, and_true]; omega
        · simp only [Addr.mk.injEq, true_and, and_true]; omega
      rw [hadd] at h3
      exact h3
    have hch : ∃ f : Fin len → α, ∀ i, ∃ b off cs', a = ⟨b, off, none⟩ ∧ c W All (f i) cs' ∧ cs'.length = size ∧ ∀ j u, cs'[j]? = some u → W.cell? ⟨b, off + i.1 * size + j, none⟩ = some u :=
      ⟨fun i => Classical.choose (key i), fun i => Classical.choose_spec (key i)⟩
    obtain ⟨f, hf⟩ := hch
    refine ⟨List.ofFn f, some a, len, cap, rfl, by simp, hl, hm, fun i y hy => ?_⟩
    have hilt : i < len := by have := (List.getElem?_eq_some_iff.1 hy).1; simpa using this
    rw [List.getElem?_eq_getElem (by simpa using hilt)] at hy
    simp only [List.getElem_ofFn, Option.some.injEq] at hy
    obtain ⟨b, off, cs', ha, hc, hcl, hcell⟩ := hf ⟨i, hilt⟩
    rw [← hy, ha]
    exact ⟨b, off, cs', rfl, trivial, hc, hcl, hcell⟩
section
variable {H : Type} {enc : TypeId × Value → H} {W : World} {base : Nat} {t : TypeId} {v : Value} {d : DataW H} {p : List MemPlace}
set_option maxRecDepth 100000 in
theorem arg_int (ht : Tryz.prog.underlying t = some (.int .i64)) (hv : Value.okWide Tryz.prog W .any base t v) (h : DataW.Trod enc Tryz.prog W 0 (fun _ => true) true t v d p) : ∃ n, v = .int .i64 n ∧ InI n := by
  obtain ⟨n, rfl⟩ := okWide_int ht hv
  obtain ⟨fuel, hf⟩ := h
  obtain ⟨m, hm, _, hw⟩ := DataW.trod_int ht hf
  simp [Value.cells] at hm
  subst hm
  exact ⟨n, rfl, .of_wf hw⟩
set_option maxRecDepth 100000 in
theorem arg_agg {α : Type} {c : Cod α} {fs : Array Field} (ht : Tryz.prog.underlying t = some (.struct fs)) (he : Opens c t) (hv : Value.okWide Tryz.prog W .any base t v)
    (h : DataW.Trod enc Tryz.prog W 0 (fun _ => true) true t v d p) : ∃ cs x, v = .agg cs ∧ c W All x cs.toList := by
  obtain ⟨cs, rfl, _⟩ := okWide_struct ht hv
  obtain ⟨fuel, hf⟩ := h
  obtain ⟨x, hx⟩ := he hf
  exact ⟨cs, x, rfl, by simpa [Value.cells] using hx⟩
set_option maxRecDepth 100000 in
theorem arg_lt (h : DataW.Trod enc Tryz.prog W 0 (fun _ => true) true t v d p) : ∀ x ∈ p, x.block < W.heap.size := by
  obtain ⟨m, hm⟩ := h
  exact DataW.trod_lt m _ _ _ hm
end
end Go.Proofs.YtoilcdgpeilgaaaGreat
