/-
  Words, laws and contracts: SpanLift, CodeLift, BookLift.
-/
import Derived.Test.YtoilcdgpeilgaaaGreatBun3
import Derived.Test.YtoilcdgpeilgaaaGreatBun10
import Derived.Test.YtoilcdgpeilgaaaGreatBun33
import Derived.SizedLaws
set_option linter.unusedSimpArgs false
set_option linter.unusedVariables false
namespace Go.Proofs.YtoilcdgpeilgaaaGreat
open Go.ChangeShapes Go.WideShapes Go.ChangeAt Go.RowKit
set_option maxRecDepth 100000 in
theorem opens_spanC : Opens spanC 34 := by
  intro H enc W base spare held fuel cs x h
  obtain ⟨xs, n, _, _, hl, hxl, hf⟩ := DataW.trod_struct Tryz.underlying34 h
  rw [show Tryz.prog.cellsOf 34 = 2 by kernel_rfl] at hl
  match xs, hxl with
  | [y0, y1], _ =>
    match cs, hl with
    | [c0, c1], _ =>
      have f0 := hf 0 _ rfl
      have f1 := hf 1 _ rfl
      simp [show Tryz.prog.cellsOf 3 = 1 by kernel_rfl] at f0 f1
      obtain ⟨a, ea, _, wa⟩ := DataW.trod_int Tryz.underlying3 f0
      obtain ⟨b, eb, _, wb⟩ := DataW.trod_int Tryz.underlying3 f1
      simp at ea eb
      subst ea eb
      exact ⟨⟨a, b⟩, rfl, .of_wf wa, .of_wf wb⟩
end Go.Proofs.YtoilcdgpeilgaaaGreat
namespace Go.Proofs.YtoilcdgpeilgaaaGreat
open Go.ChangeShapes Go.WideShapes Go.ChangeAt Go.RowKit
set_option maxRecDepth 100000 in
theorem opens_askC : Opens askC 93 := by
  intro H enc W base spare held fuel cs x h
  obtain ⟨xs, n, _, _, hl, hxl, hf⟩ := DataW.trod_struct Tryz.underlying93 h
  rw [show Tryz.prog.cellsOf 93 = 11 by kernel_rfl] at hl
  match xs, hxl with
  | [y0, y1, y2, y3, y4, y5, y6, y7, y8, y9], _ =>
    match cs, hl with
    | [c0, c1, c2, c3, c4, c5, c6, c7, c8, c9, c10], _ =>
      have f0 := hf 0 _ rfl
      have f1 := hf 1 _ rfl
      have f2 := hf 2 _ rfl
      have f3 := hf 3 _ rfl
      have f4 := hf 4 _ rfl
      have f5 := hf 5 _ rfl
      have f6 := hf 6 _ rfl
      have f7 := hf 7 _ rfl
      have f8 := hf 8 _ rfl
      have f9 := hf 9 _ rfl
      simp [show Tryz.prog.cellsOf 3 = 1 by kernel_rfl, show Tryz.prog.cellsOf 4 = 1 by kernel_rfl, show Tryz.prog.cellsOf 34 = 2 by kernel_rfl] at f0 f1 f2 f3 f4 f5 f6 f7 f8 f9
      obtain ⟨a0, e0, _, w0⟩ := DataW.trod_int Tryz.underlying3 f0
      obtain ⟨a1, e1, _, w1⟩ := DataW.trod_int Tryz.underlying3 f1
      obtain ⟨a2, e2, _, w2⟩ := DataW.trod_int Tryz.underlying3 f2
      obtain ⟨a3, e3, _, w3⟩ := DataW.trod_int Tryz.underlying3 f3
      obtain ⟨a4, e4, _⟩ := DataW.trod_bool Tryz.underlying4 f4
      obtain ⟨a5, e5, _, w5⟩ := DataW.trod_int Tryz.underlying3 f5
      obtain ⟨a6, e6, _, w6⟩ := DataW.trod_int Tryz.underlying3 f6
      obtain ⟨s, e7, w7, w8⟩ := opens_spanC f7
      obtain ⟨a9, e9, _, w9⟩ := DataW.trod_int Tryz.underlying3 f8
      obtain ⟨a10, e10, _, w10⟩ := DataW.trod_int Tryz.underlying3 f9
      simp at e0 e1 e2 e3 e4 e5 e6 e7 e9 e10
      obtain ⟨e7, e8⟩ := e7
      subst e0 e1 e2 e3 e4 e5 e6 e7 e8 e9 e10
      exact ⟨⟨a0, a1, a2, a3, a4, a5, a6, s.frm, s.upto, a9, a10⟩, rfl, .of_wf w0, .of_wf w1, .of_wf w2, .of_wf w3, .of_wf w5, .of_wf w6, w7, w8, .of_wf w9, .of_wf w10⟩
end Go.Proofs.YtoilcdgpeilgaaaGreat
namespace Go.Proofs.YtoilcdgpeilgaaaGreat
open Go.ChangeShapes Go.WideShapes Go.ChangeAt Go.RowKit
theorem arg_sl_len {H : Type} {enc : TypeId × Value → H} {W : World} {t e : TypeId} {d : DataW H} {p : List MemPlace} {A : Option Addr} {n cap : Nat} (ht : Tryz.prog.underlying t = some (.slice e)) (h : DataW.Trod enc Tryz.prog W 0 (fun _ => true) true t (.slice A n cap) d p)
    (hz : ∀ z ∈ DataW.weights Tryz.prog t d, z ≤ reachBytes) : n * Tryz.prog.bytesOf e ≤ reachBytes := by
  obtain ⟨fuel, hf⟩ := h
  rcases Deep.open_slice ht hf with ⟨hc, _⟩ | ⟨a, len, cap', m, k, D, Pl, hc, _, hl, hm, hmm, hx, _⟩
  · simp [Value.cells] at hc
    rw [hc.2.1]; simp
  · simp [Value.cells] at hc
    obtain ⟨rfl, rfl, rfl⟩ := hc
    have hd := congrArg Prod.fst hx
    simp only at hd
    have := hz ((n + (m - n)) * Tryz.prog.bytesOf e) (by rw [hd]; simp [DataW.weights, ht])
    exact Nat.le_trans (Nat.mul_le_mul_right _ (by omega)) this
end Go.Proofs.YtoilcdgpeilgaaaGreat
