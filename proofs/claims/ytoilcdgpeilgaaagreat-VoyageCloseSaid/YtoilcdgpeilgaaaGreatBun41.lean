/-
  Words, laws and contracts: FareLift, SaiLift.
-/
import Derived.Test.YtoilcdgpeilgaaaGreatBun18
import Derived.Test.YtoilcdgpeilgaaaGreatBun40
set_option linter.unusedSimpArgs false
set_option linter.unusedVariables false
namespace Go.Proofs.YtoilcdgpeilgaaaGreat
open Go.ChangeShapes Go.WideShapes Go.ChangeAt Go.RowKit
set_option maxRecDepth 100000 in
theorem opens_bandC : Opens bandC 186 := by
  intro H enc W base spare held fuel cs x h
  obtain ⟨xs, n, _, _, hl, hxl, hf⟩ := DataW.trod_struct Tryz.underlying186 h
  rw [show Tryz.prog.cellsOf 186 = 2 by kernel_rfl] at hl
  match xs, hxl with
  | [y0, y1], _ =>
    match cs, hl with
    | [c0, c1], _ =>
      have f0 := hf 0 _ rfl
      have f1 := hf 1 _ rfl
      simp [show Tryz.prog.cellsOf 3 = 1 by kernel_rfl] at f0 f1
      obtain ⟨a, ea, _, wa⟩ := DataW.trod_int Tryz.underlying3 f0
      obtain ⟨b, eb, _, wb⟩ := DataW.trod_int Tryz.underlying3 f1
      simp at ea eb
      subst ea eb
      exact ⟨⟨a, b⟩, rfl, .of_wf wa, .of_wf wb⟩
set_option maxRecDepth 100000 in
theorem opens_fareC : Opens fareC 29 := by
  intro H enc W base spare held fuel cs x h
  obtain ⟨xs, n, _, _, hl, hxl, hf⟩ := DataW.trod_struct Tryz.underlying29 h
  rw [show Tryz.prog.cellsOf 29 = 5 by kernel_rfl] at hl
  match xs, hxl with
  | [y0, y1, y2, y3, y4], _ =>
    match cs, hl with
    | [c0, c1, c2, c3, c4], _ =>
      have f0 := hf 0 _ rfl
      have f1 := hf 1 _ rfl
      have f2 := hf 2 _ rfl
      have f3 := hf 3 _ rfl
      have f4 := hf 4 _ rfl
      simp [show Tryz.prog.cellsOf 3 = 1 by kernel_rfl, show Tryz.prog.cellsOf 26 = 1 by kernel_rfl, show Tryz.prog.cellsOf 27 = 1 by kernel_rfl] at f0 f1 f2 f3 f4
      obtain ⟨L, A, m, cap, e0, h0⟩ := opens_sl (size := 1) Tryz.underlying26 (by kernel_rfl) (by omega) (opens_sl (size := 1) Tryz.underlying47 (by kernel_rfl) (by omega) (opens_int Tryz.underlying3)) f0
      obtain ⟨a, ea, _, wa⟩ := DataW.trod_int Tryz.underlying3 f1
      obtain ⟨b, eb, _, wb⟩ := DataW.trod_int Tryz.underlying3 f2
      obtain ⟨L2, A2, m2, cap2, e3, h3⟩ := opens_sl (size := 2) Tryz.underlying27 (by kernel_rfl) (by omega) opens_bandC f3
      obtain ⟨c, ec, _, wc⟩ := DataW.trod_int Tryz.underlying3 f4
      simp at ea eb ec e0 e3
      subst ea eb ec e0 e3
      exact ⟨⟨L, a, b, L2, c⟩, _, _, _, _, _, _, rfl, h0, h3, .of_wf wa, .of_wf wb, .of_wf wc⟩
end Go.Proofs.YtoilcdgpeilgaaaGreat
namespace Go.Proofs.YtoilcdgpeilgaaaGreat
open Go.ChangeShapes Go.WideShapes Go.ChangeAt Go.RowKit
def saiC : Cod Sai := fun w S x cs => ∃ p : SaiV, cs = (saiA x p).toList ∧ (Sl catC 2 w S p.A p.n p.cap x.ship.cats ∧ Sl cabC 4 w S p.B p.m p.cap2 x.ship.cabs ∧ Sl (slC intC 1) 1 w S p.D p.nd p.cd x.fares.leg ∧ Sl bandC 2 w S p.E p.ne p.ce x.fares.bands ∧ Sl bkgC 11 w S p.C p.nb p.cb x.bks) ∧
  (InI x.fares.alone ∧ InI x.fares.third ∧ InI x.fares.down) ∧ InI x.ship.legs ∧ InI x.ship.souls ∧ InI x.day ∧ InI x.leaves
theorem sai_in {w : World} {x : Sai} {cs : Array Value} (h : saiC w All x cs.toList) : ∃ p, cs = saiA x p ∧ SaiR w x p ∧ InI x.ship.legs ∧ InI x.ship.souls ∧ InI x.day ∧ InI x.leaves := by
  obtain ⟨p, hcs, ⟨h1, h2, h3, h4, h5⟩, ⟨i1, i2, i3⟩, r⟩ := h
  exact ⟨p, by cases cs; simp_all, ⟨h1, h2, ⟨h3, h4, i1, i2, i3⟩, h5⟩, r⟩
set_option maxRecDepth 100000 in
theorem opens_saiC : Opens saiC 32 := by
  intro H enc W base spare held fuel cs x h
  obtain ⟨xs, n, _, _, hl, hxl, hf⟩ := DataW.trod_struct Tryz.underlying32 h
  rw [show Tryz.prog.cellsOf 32 = 13 by kernel_rfl] at hl
  match xs, hxl with
  | [y0, y1, y2, y3, y4, y5], _ =>
    match cs, hl with
    | [c0, c1, c2, c3, c4, c5, c6, c7, c8, c9, c10, c11, c12], _ =>
      have f0 := hf 0 _ rfl
      have f1 := hf 1 _ rfl
      have f2 := hf 2 _ rfl
      have f3 := hf 3 _ rfl
      have f4 := hf 4 _ rfl
      have f5 := hf 5 _ rfl
      simp [show Tryz.prog.cellsOf 3 = 1 by kernel_rfl, show Tryz.prog.cellsOf 4 = 1 by kernel_rfl, show Tryz.prog.cellsOf 25 = 4 by kernel_rfl, show Tryz.prog.cellsOf 29 = 5 by kernel_rfl, show Tryz.prog.cellsOf 30 = 1 by kernel_rfl] at f0 f1 f2 f3 f4 f5
      obtain ⟨sh, A, n1, cap, B, m, cap2, e0, h1, h2, i1, i2⟩ := opens_shpC f0
      obtain ⟨fa, D, nd, cd, E, ne, ce, e1, h3, h4, i3, i4, i5⟩ := opens_fareC f1
      obtain ⟨a, ea, _, wa⟩ := DataW.trod_int Tryz.underlying3 f2
      obtain ⟨b, eb, _, wb⟩ := DataW.trod_int Tryz.underlying3 f3
      obtain ⟨L, C, nb, cb, e2, h5⟩ := opens_sl (size := 11) Tryz.underlying30 (by kernel_rfl) (by omega) opens_bkgC f4
      obtain ⟨cl, ec, _⟩ := DataW.trod_bool Tryz.underlying4 f5
      simp at e0 e1 e2 ea eb ec
      obtain ⟨rfl, rfl, rfl, rfl⟩ := e0
      obtain ⟨rfl, rfl, rfl, rfl, rfl⟩ := e1
      subst e2 ea eb ec
      exact ⟨⟨sh, fa, a, b, L, cl⟩, ⟨A, n1, cap, B, m, cap2, D, nd, cd, E, ne, ce, C, nb, cb⟩, rfl, ⟨h1, h2, h3, h4, h5⟩, ⟨i3, i4, i5⟩, i1, i2, .of_wf wa, .of_wf wb⟩
end Go.Proofs.YtoilcdgpeilgaaaGreat
