/-
  What reads as a folio is a folio.
-/
import Derived.Test.YtehebngkjfjkbaaLift
import Derived.Test.YtehebngkjfjkbaaFolioA
namespace Go.Proofs.Ytehebngkjfjkbaa
open Go.ChangeShapes Go.WideShapes Go.ChangeAt Go.RowKit

set_option maxRecDepth 100000 in
theorem opens_entryC : Opens entryC 24 := by
  intro H enc W base spare held fuel cs x h
  obtain ⟨xs, n, _, _, hl, hxl, hf⟩ := DataW.trod_struct Try.underlying24 h
  rw [show Try.prog.cellsOf 24 = 3 by kernel_rfl] at hl
  match xs, hxl with
  | [y0, y1, y2], _ =>
    match cs, hl with
    | [c0, c1, c2], _ =>
      have f0 := hf 0 _ rfl
      have f1 := hf 1 _ rfl
      have f2 := hf 2 _ rfl
      simp [show Try.prog.cellsOf 3 = 1 by kernel_rfl] at f0 f1 f2
      obtain ⟨a, ea, _, wa⟩ := DataW.trod_int Try.underlying3 f0
      obtain ⟨b, eb, _, wb⟩ := DataW.trod_int Try.underlying3 f1
      obtain ⟨c, ec, _, wc⟩ := DataW.trod_int Try.underlying3 f2
      simp at ea eb ec
      subst ea eb ec
      exact ⟨⟨a, b, c⟩, rfl, .of_wf wa, .of_wf wb, .of_wf wc⟩
end Go.Proofs.Ytehebngkjfjkbaa
