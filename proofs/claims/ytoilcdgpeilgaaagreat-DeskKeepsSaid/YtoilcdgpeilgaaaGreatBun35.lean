/-
  Words, laws and contracts: DeskN.
-/
import Derived.Test.YtoilcdgpeilgaaaGreatBun26
import Derived.Test.YtoilcdgpeilgaaaGreatBun34
set_option linter.unusedSimpArgs false
set_option linter.unusedVariables false
namespace Go.Proofs.YtoilcdgpeilgaaaGreat
open Go.ChangeShapes Go.WideShapes Go.ChangeAt Go.RowKit
def ansC : Cod Ans := fun _ _ x cs => cs = (ansA x).toList ∧ InI x.errno ∧ InI x.owed
def logC : Cod (List Don × Int) := fun w S x cs => ∃ A n cap, cs = [.slice A n cap, .int .i64 x.2] ∧ Sl donC 13 w S A n cap x.1 ∧ InI x.2
set_option maxRecDepth 100000 in
theorem opens_ansC : Opens ansC 95 := by
  intro H enc W base spare held fuel cs x h
  obtain ⟨xs, n, _, _, hl, hxl, hf⟩ := DataW.trod_struct Tryz.underlying95 h
  rw [show Tryz.prog.cellsOf 95 = 2 by kernel_rfl] at hl
  match xs, hxl with
  | [y0, y1], _ =>
    match cs, hl with
    | [c0, c1], _ =>
      have f0 := hf 0 _ rfl
      have f1 := hf 1 _ rfl
      simp [show Tryz.prog.cellsOf 3 = 1 by kernel_rfl, show Tryz.prog.cellsOf 39 = 1 by kernel_rfl] at f0 f1
      obtain ⟨a0, e0, _, w0⟩ := DataW.trod_int Tryz.underlying39 f0
      obtain ⟨a1, e1, _, w1⟩ := DataW.trod_int Tryz.underlying3 f1
      simp at e0 e1
      subst e0 e1
      exact ⟨⟨a0, a1⟩, rfl, .of_wf w0, .of_wf w1⟩
set_option maxRecDepth 100000 in
theorem opens_donC : Opens donC 128 := by
  intro H enc W base spare held fuel cs x h
  obtain ⟨xs, n, _, _, hl, hxl, hf⟩ := DataW.trod_struct Tryz.underlying128 h
  rw [show Tryz.prog.cellsOf 128 = 13 by kernel_rfl] at hl
  match xs, hxl with
  | [y0, y1], _ =>
    match cs, hl with
    | [c0, c1, c2, c3, c4, c5, c6, c7, c8, c9, c10, c11, c12], _ =>
      have f0 := hf 0 _ rfl
      have f1 := hf 1 _ rfl
      simp [show Tryz.prog.cellsOf 93 = 11 by kernel_rfl, show Tryz.prog.cellsOf 95 = 2 by kernel_rfl] at f0 f1
      obtain ⟨a, e0, w0⟩ := opens_askC f0
      obtain ⟨r, e1, w1, w2⟩ := opens_ansC f1
      simp [askA] at e0
      simp at e1
      obtain ⟨rfl, rfl, rfl, rfl, rfl, rfl, rfl, rfl, rfl, rfl, rfl⟩ := e0
      obtain ⟨rfl, rfl⟩ := e1
      exact ⟨⟨a, r⟩, rfl, w0, w1, w2⟩
set_option maxRecDepth 100000 in
theorem opens_logC : Opens logC 83 := by
  intro H enc W base spare held fuel cs x h
  obtain ⟨xs, n, _, _, hl, hxl, hf⟩ := DataW.trod_struct Tryz.underlying83 h
  rw [show Tryz.prog.cellsOf 83 = 2 by kernel_rfl] at hl
  match xs, hxl with
  | [y0, y1], _ =>
    match cs, hl with
    | [c0, c1], _ =>
      have f0 := hf 0 _ rfl
      have f1 := hf 1 _ rfl
      simp [show Tryz.prog.cellsOf 3 = 1 by kernel_rfl, show Tryz.prog.cellsOf 81 = 1 by kernel_rfl] at f0 f1
      obtain ⟨L, A, m, cap, e0, h0⟩ := opens_sl (size := 13) Tryz.underlying81 (by kernel_rfl) (by omega) opens_donC f0
      obtain ⟨a1, e1, _, w1⟩ := DataW.trod_int Tryz.underlying3 f1
      simp at e0 e1
      subst e0 e1
      exact ⟨(L, a1), A, m, cap, rfl, h0, .of_wf w1⟩
set_option maxRecDepth 100000 in
theorem log_len {H : Type} {enc : TypeId × Value → H} {W : World} {d : DataW H} {p : List MemPlace} {cs : Array Value} (h : DataW.Trod enc Tryz.prog W 0 (fun _ => true) true 83 (.agg cs) d p)
    (hz : ∀ z ∈ DataW.weights Tryz.prog 83 d, z ≤ reachBytes) : ∀ (A : Option Addr) (n cap : Nat) (v : Value), cs = #[.slice A n cap, v] → n * 104 ≤ 140737488355328 := by
  intro A n cap v he
  subst he
  obtain ⟨fuel, hf⟩ := h
  obtain ⟨xs, m, _, hx, hl, hxl, hff⟩ := DataW.trod_struct Tryz.underlying83 hf
  match xs, hxl with
  | [y0, y1], _ =>
    have f0 := hff 0 _ rfl
    simp [Value.cells, show Tryz.prog.cellsOf 81 = 1 by kernel_rfl] at f0
    have h1 := arg_sl_len (W := W) (enc := enc) (A := A) (n := n) (cap := cap) (d := y0.1) (p := y0.2) Tryz.underlying81 ⟨_, f0⟩ (fun z hz' => hz z (by
      have hd : d = .agg [y0.1, y1.1] := by have := congrArg Prod.fst hx; simpa using this
      rw [hd]
      simp [DataW.weights, DataW.weightsEach, Tryz.underlying83, hz']))
    rw [show Tryz.prog.bytesOf _ = 104 by kernel_rfl] at h1
    exact Nat.le_trans h1 (by unfold reachBytes; decide)
end Go.Proofs.YtoilcdgpeilgaaaGreat
