/-
  Words, laws and contracts: SpanLift, ShipLift.
-/
import Derived.Test.YtoilcdgpeilgaaaGreatBun3
import Derived.Test.YtoilcdgpeilgaaaGreatBun38
set_option linter.unusedSimpArgs false
set_option linter.unusedVariables false
namespace Go.Proofs.YtoilcdgpeilgaaaGreat
open Go.ChangeShapes Go.WideShapes Go.ChangeAt Go.RowKit
set_option maxRecDepth 100000 in
theorem opens_spanC : Opens spanC 34 := by
  intro H enc W base spare held fuel cs x h
  obtain ⟨xs, n, _, _, hl, hxl, hf⟩ := DataW.trod_struct Tryz.underlying34 h
  rw [show Tryz.prog.cellsOf 34 = 2 by kernel_rfl] at hl
  match xs, hxl with
  | [y0, y1], _ =>
    match cs, hl with
    | [c0, c1], _ =>
      have f0 := hf 0 _ rfl
      have f1 := hf 1 _ rfl
      simp [show Tryz.prog.cellsOf 3 = 1 by kernel_rfl] at f0 f1
      obtain ⟨a, ea, _, wa⟩ := DataW.trod_int Tryz.underlying3 f0
      obtain ⟨b, eb, _, wb⟩ := DataW.trod_int Tryz.underlying3 f1
      simp at ea eb
      subst ea eb
      exact ⟨⟨a, b⟩, rfl, .of_wf wa, .of_wf wb⟩
end Go.Proofs.YtoilcdgpeilgaaaGreat
namespace Go.Proofs.YtoilcdgpeilgaaaGreat
open Go.ChangeShapes Go.WideShapes Go.ChangeAt Go.RowKit
theorem opens_str {t : TypeId} (ht : Tryz.prog.underlying t = some .string) : Opens strC t := fun h => by
  obtain ⟨n, rfl, _, hw⟩ := DataW.trod_string ht h
  refine ⟨n.data.toList, ?_, by simpa using hw⟩
  simp
set_option maxRecDepth 100000 in
theorem opens_catC : Opens catC 184 := by
  intro H enc W base spare held fuel cs x h
  obtain ⟨xs, n, _, _, hl, hxl, hf⟩ := DataW.trod_struct Tryz.underlying184 h
  rw [show Tryz.prog.cellsOf 184 = 2 by kernel_rfl] at hl
  match xs, hxl with
  | [y0, y1], _ =>
    match cs, hl with
    | [c0, c1], _ =>
      have f0 := hf 0 _ rfl
      have f1 := hf 1 _ rfl
      simp [show Tryz.prog.cellsOf 9 = 1 by kernel_rfl, show Tryz.prog.cellsOf 47 = 1 by kernel_rfl] at f0 f1
      obtain ⟨s, e0, hs⟩ := opens_str Tryz.underlying9 f0
      obtain ⟨L, A, m, cap, e1, h1⟩ := opens_sl (size := 1) Tryz.underlying47 (by kernel_rfl) (by omega) (opens_int Tryz.underlying3) f1
      simp at e0 e1
      subst e0 e1
      exact ⟨⟨s, L⟩, _, _, _, rfl, h1, hs⟩
set_option maxRecDepth 100000 in
theorem opens_cabC : Opens cabC 76 := by
  intro H enc W base spare held fuel cs x h
  obtain ⟨xs, n, _, _, hl, hxl, hf⟩ := DataW.trod_struct Tryz.underlying76 h
  rw [show Tryz.prog.cellsOf 76 = 4 by kernel_rfl] at hl
  match xs, hxl with
  | [y0, y1, y2, y3], _ =>
    match cs, hl with
    | [c0, c1, c2, c3], _ =>
      have f0 := hf 0 _ rfl
      have f1 := hf 1 _ rfl
      have f2 := hf 2 _ rfl
      have f3 := hf 3 _ rfl
      simp [show Tryz.prog.cellsOf 9 = 1 by kernel_rfl, show Tryz.prog.cellsOf 3 = 1 by kernel_rfl, show Tryz.prog.cellsOf 4 = 1 by kernel_rfl] at f0 f1 f2 f3
      obtain ⟨s, e0, hs⟩ := opens_str Tryz.underlying9 f0
      obtain ⟨a, ea, _, wa⟩ := DataW.trod_int Tryz.underlying3 f1
      obtain ⟨b, eb, _, wb⟩ := DataW.trod_int Tryz.underlying3 f2
      obtain ⟨v, ev⟩ := opens_bool Tryz.underlying4 f3
      replace ev : [c3] = [.bool v] := ev
      simp at e0 ea eb ev
      subst e0 ea eb ev
      exact ⟨⟨s, a, b, v⟩, rfl, hs, .of_wf wa, .of_wf wb⟩
set_option maxRecDepth 100000 in
theorem opens_shpC : Opens shpC 25 := by
  intro H enc W base spare held fuel cs x h
  obtain ⟨xs, n, _, _, hl, hxl, hf⟩ := DataW.trod_struct Tryz.underlying25 h
  rw [show Tryz.prog.cellsOf 25 = 4 by kernel_rfl] at hl
  match xs, hxl with
  | [y0, y1, y2, y3], _ =>
    match cs, hl with
    | [c0, c1, c2, c3], _ =>
      have f0 := hf 0 _ rfl
      have f1 := hf 1 _ rfl
      have f2 := hf 2 _ rfl
      have f3 := hf 3 _ rfl
      simp [show Tryz.prog.cellsOf 3 = 1 by kernel_rfl, show Tryz.prog.cellsOf 22 = 1 by kernel_rfl, show Tryz.prog.cellsOf 23 = 1 by kernel_rfl] at f0 f1 f2 f3
      obtain ⟨a, ea, _, wa⟩ := DataW.trod_int Tryz.underlying3 f0
      obtain ⟨b, eb, _, wb⟩ := DataW.trod_int Tryz.underlying3 f1
      obtain ⟨L, A, m, cap, e2, h2⟩ := opens_sl (size := 2) Tryz.underlying22 (by kernel_rfl) (by omega) opens_catC f2
      obtain ⟨L2, A2, m2, cap2, e3, h3⟩ := opens_sl (size := 4) Tryz.underlying23 (by kernel_rfl) (by omega) opens_cabC f3
      simp at ea eb e2 e3
      subst ea eb e2 e3
      exact ⟨⟨a, b, L, L2⟩, _, _, _, _, _, _, rfl, h2, h3, .of_wf wa, .of_wf wb⟩
end Go.Proofs.YtoilcdgpeilgaaaGreat
