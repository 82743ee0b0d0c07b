/-
  What reads as a ship is a ship.
-/
import Derived.Test.YtpodgidamoiakaaSpanLift
import Derived.Test.YtpodgidamoiakaaShipA
namespace Go.Proofs.Ytpodgidamoiakaa
open Go.ChangeShapes Go.WideShapes Go.ChangeAt Go.RowKit

theorem opens_str {t : TypeId} (ht : Try.prog.underlying t = some .string) : Opens strC t := fun h => by
  obtain ⟨n, rfl, _, hw⟩ := DataW.trod_string ht h
  refine ⟨n.data.toList, ?_, by simpa using hw⟩
  simp

set_option maxRecDepth 100000 in
theorem opens_catC : Opens catC 32 := by
  intro H enc W base spare held fuel cs x h
  obtain ⟨xs, n, _, _, hl, hxl, hf⟩ := DataW.trod_struct Try.underlying32 h
  rw [show Try.prog.cellsOf 32 = 2 by kernel_rfl] at hl
  match xs, hxl with
  | [y0, y1], _ =>
    match cs, hl with
    | [c0, c1], _ =>
      have f0 := hf 0 _ rfl
      have f1 := hf 1 _ rfl
      simp [show Try.prog.cellsOf 9 = 1 by kernel_rfl, show Try.prog.cellsOf 30 = 1 by kernel_rfl] at f0 f1
      obtain ⟨s, e0, hs⟩ := opens_str Try.underlying9 f0
      obtain ⟨L, A, m, cap, e1, h1⟩ := opens_sl (size := 1) Try.underlying30 (by kernel_rfl) (by omega) (opens_int Try.underlying3) f1
      simp at e0 e1
      subst e0 e1
      exact ⟨⟨s, L⟩, _, _, _, rfl, h1, hs⟩
set_option maxRecDepth 100000 in
theorem opens_cabC : Opens cabC 82 := by
  intro H enc W base spare held fuel cs x h
  obtain ⟨xs, n, _, _, hl, hxl, hf⟩ := DataW.trod_struct Try.underlying82 h
  rw [show Try.prog.cellsOf 82 = 4 by kernel_rfl] at hl
  match xs, hxl with
  | [y0, y1, y2, y3], _ =>
    match cs, hl with
    | [c0, c1, c2, c3], _ =>
      have f0 := hf 0 _ rfl
      have f1 := hf 1 _ rfl
      have f2 := hf 2 _ rfl
      have f3 := hf 3 _ rfl
      simp [show Try.prog.cellsOf 9 = 1 by kernel_rfl, show Try.prog.cellsOf 3 = 1 by kernel_rfl, show Try.prog.cellsOf 4 = 1 by kernel_rfl] at f0 f1 f2 f3
      obtain ⟨s, e0, hs⟩ := opens_str Try.underlying9 f0
      obtain ⟨a, ea, _, wa⟩ := DataW.trod_int Try.underlying3 f1
      obtain ⟨b, eb, _, wb⟩ := DataW.trod_int Try.underlying3 f2
      obtain ⟨v, ev⟩ := opens_bool Try.underlying4 f3
      replace ev : [c3] = [.bool v] := ev
      simp at e0 ea eb ev
      subst e0 ea eb ev
      exact ⟨⟨s, a, b, v⟩, rfl, hs, .of_wf wa, .of_wf wb⟩
set_option maxRecDepth 100000 in
theorem opens_shpC : Opens shpC 25 := by
  intro H enc W base spare held fuel cs x h
  obtain ⟨xs, n, _, _, hl, hxl, hf⟩ := DataW.trod_struct Try.underlying25 h
  rw [show Try.prog.cellsOf 25 = 4 by kernel_rfl] at hl
  match xs, hxl with
  | [y0, y1, y2, y3], _ =>
    match cs, hl with
    | [c0, c1, c2, c3], _ =>
      have f0 := hf 0 _ rfl
      have f1 := hf 1 _ rfl
      have f2 := hf 2 _ rfl
      have f3 := hf 3 _ rfl
      simp [show Try.prog.cellsOf 3 = 1 by kernel_rfl, show Try.prog.cellsOf 22 = 1 by kernel_rfl, show Try.prog.cellsOf 23 = 1 by kernel_rfl] at f0 f1 f2 f3
      obtain ⟨a, ea, _, wa⟩ := DataW.trod_int Try.underlying3 f0
      obtain ⟨b, eb, _, wb⟩ := DataW.trod_int Try.underlying3 f1
      obtain ⟨L, A, m, cap, e2, h2⟩ := opens_sl (size := 2) Try.underlying22 (by kernel_rfl) (by omega) opens_catC f2
      obtain ⟨L2, A2, m2, cap2, e3, h3⟩ := opens_sl (size := 4) Try.underlying23 (by kernel_rfl) (by omega) opens_cabC f3
      simp at ea eb e2 e3
      subst ea eb e2 e3
      exact ⟨⟨a, b, L, L2⟩, _, _, _, _, _, _, rfl, h2, h3, .of_wf wa, .of_wf wb⟩
end Go.Proofs.Ytpodgidamoiakaa
