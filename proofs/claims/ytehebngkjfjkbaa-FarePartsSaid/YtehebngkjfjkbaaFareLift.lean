/-
  What reads as fares is fares.
-/
import Derived.Test.YtehebngkjfjkbaaSpanLift
import Derived.Test.YtehebngkjfjkbaaFareA
namespace Go.Proofs.Ytehebngkjfjkbaa
open Go.ChangeShapes Go.WideShapes Go.ChangeAt Go.RowKit

set_option maxRecDepth 100000 in
theorem opens_bandC : Opens bandC 114 := by
  intro H enc W base spare held fuel cs x h
  obtain ⟨xs, n, _, _, hl, hxl, hf⟩ := DataW.trod_struct Try.underlying114 h
  rw [show Try.prog.cellsOf 114 = 2 by kernel_rfl] at hl
  match xs, hxl with
  | [y0, y1], _ =>
    match cs, hl with
    | [c0, c1], _ =>
      have f0 := hf 0 _ rfl
      have f1 := hf 1 _ rfl
      simp [show Try.prog.cellsOf 3 = 1 by kernel_rfl] at f0 f1
      obtain ⟨a, ea, _, wa⟩ := DataW.trod_int Try.underlying3 f0
      obtain ⟨b, eb, _, wb⟩ := DataW.trod_int Try.underlying3 f1
      simp at ea eb
      subst ea eb
      exact ⟨⟨a, b⟩, rfl, .of_wf wa, .of_wf wb⟩

set_option maxRecDepth 100000 in
theorem opens_fareC : Opens fareC 68 := by
  intro H enc W base spare held fuel cs x h
  obtain ⟨xs, n, _, _, hl, hxl, hf⟩ := DataW.trod_struct Try.underlying68 h
  rw [show Try.prog.cellsOf 68 = 5 by kernel_rfl] at hl
  match xs, hxl with
  | [y0, y1, y2, y3, y4], _ =>
    match cs, hl with
    | [c0, c1, c2, c3, c4], _ =>
      have f0 := hf 0 _ rfl
      have f1 := hf 1 _ rfl
      have f2 := hf 2 _ rfl
      have f3 := hf 3 _ rfl
      have f4 := hf 4 _ rfl
      simp [show Try.prog.cellsOf 3 = 1 by kernel_rfl, show Try.prog.cellsOf 65 = 1 by kernel_rfl, show Try.prog.cellsOf 66 = 1 by kernel_rfl] at f0 f1 f2 f3 f4
      obtain ⟨L, A, m, cap, e0, h0⟩ := opens_sl (size := 1) Try.underlying65 (by kernel_rfl) (by omega) (opens_sl (size := 1) Try.underlying38 (by kernel_rfl) (by omega) (opens_int Try.underlying3)) f0
      obtain ⟨a, ea, _, wa⟩ := DataW.trod_int Try.underlying3 f1
      obtain ⟨b, eb, _, wb⟩ := DataW.trod_int Try.underlying3 f2
      obtain ⟨L2, A2, m2, cap2, e3, h3⟩ := opens_sl (size := 2) Try.underlying66 (by kernel_rfl) (by omega) opens_bandC f3
      obtain ⟨c, ec, _, wc⟩ := DataW.trod_int Try.underlying3 f4
      simp at ea eb ec e0 e3
      subst ea eb ec e0 e3
      exact ⟨⟨L, a, b, L2, c⟩, _, _, _, _, _, _, rfl, h0, h3, .of_wf wa, .of_wf wb, .of_wf wc⟩
end Go.Proofs.Ytehebngkjfjkbaa
