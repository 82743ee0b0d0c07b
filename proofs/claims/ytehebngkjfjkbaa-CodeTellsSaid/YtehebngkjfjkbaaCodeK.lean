/-
  Requests: the laws' helpers asks, codeBegun.
-/
import Derived.Test.YtehebngkjfjkbaaCodeJ
import Derived.Deep.RegionWith
namespace Go.Proofs.Ytehebngkjfjkbaa
open Go.RowKit Go.Shelf

def asksC : Array Value := #[.int .i64 1, .int .i64 1, .int .i64 5, .int .i64 2, .bool true, .int .i64 1, .int .i64 0, .int .i64 0, .int .i64 2, .int .i64 0, .int .i64 0, .int .i64 2, .int .i64 4, .int .i64 5, .int .i64 0, .bool false, .int .i64 0, .int .i64 0, .int .i64 0, .int .i64 0, .int .i64 0, .int .i64 300, .int .i64 3, .int .i64 8, .int .i64 0, .int .i64 0, .bool false, .int .i64 0, .int .i64 0, .int .i64 0, .int .i64 0, .int .i64 0, .int .i64 0]
theorem asks_c1 {w : World} {b : Nat} {t : TypeId} (h : Blk w b asksC t) : w.cell? ⟨b, 0, none⟩ = some (.int .i64 1) ∧ w.cell? ⟨b, 1, none⟩ = some (.int .i64 1) ∧ w.cell? ⟨b, 2, none⟩ = some (.int .i64 5) ∧ w.cell? ⟨b, 3, none⟩ = some (.int .i64 2) ∧ w.cell? ⟨b, 4, none⟩ = some (.bool true) ∧ w.cell? ⟨b, 5, none⟩ = some (.int .i64 1) ∧ w.cell? ⟨b, 6, none⟩ = some (.int .i64 0) ∧ w.cell? ⟨b, 7, none⟩ = some (.int .i64 0) ∧ w.cell? ⟨b, 8, none⟩ = some (.int .i64 2) ∧ w.cell? ⟨b, 9, none⟩ = some (.int .i64 0) ∧ w.cell? ⟨b, 10, none⟩ = some (.int .i64 0) :=
  ⟨h.cell rfl, h.cell rfl, h.cell rfl, h.cell rfl, h.cell rfl, h.cell rfl, h.cell rfl, h.cell rfl, h.cell rfl, h.cell rfl, h.cell rfl⟩
theorem asks_c2 {w : World} {b : Nat} {t : TypeId} (h : Blk w b asksC t) : w.cell? ⟨b, 11, none⟩ = some (.int .i64 2) ∧ w.cell? ⟨b, 12, none⟩ = some (.int .i64 4) ∧ w.cell? ⟨b, 13, none⟩ = some (.int .i64 5) ∧ w.cell? ⟨b, 14, none⟩ = some (.int .i64 0) ∧ w.cell? ⟨b, 15, none⟩ = some (.bool false) ∧ w.cell? ⟨b, 16, none⟩ = some (.int .i64 0) ∧ w.cell? ⟨b, 17, none⟩ = some (.int .i64 0) ∧ w.cell? ⟨b, 18, none⟩ = some (.int .i64 0) ∧ w.cell? ⟨b, 19, none⟩ = some (.int .i64 0) ∧ w.cell? ⟨b, 20, none⟩ = some (.int .i64 0) ∧ w.cell? ⟨b, 21, none⟩ = some (.int .i64 300) :=
  ⟨h.cell rfl, h.cell rfl, h.cell rfl, h.cell rfl, h.cell rfl, h.cell rfl, h.cell rfl, h.cell rfl, h.cell rfl, h.cell rfl, h.cell rfl⟩
theorem asks_any (w : World) : Calls Try.prog 77 #[] w fun e w' => (∃ g, e = .returned (.slice (some ⟨g, 0, none⟩) 3 3) ∧ Blk w' g asksC 57) ∧ Below w.heap.size w w' := by
  go_enter Try.func77, Try.ntmps77
  go_wp2_with fail
  go_ret
  exact ⟨⟨_, rfl, Blk.new _ _ _⟩, bel1 _ _⟩

theorem dec_a1 : decV [1, 0, 1, 0, 0, 5, 2, 1, 0, 2, 1, 0, 0] = (⟨1, 1, 5, 2, true, 1, 0, 0, 2, 0, 0⟩, 0) := by
  have h := dec_enc (x := ⟨1, 1, 5, 2, true, 1, 0, 0, 2, 0, 0⟩) (by decide)
  rwa [show encS ⟨1, 1, 5, 2, true, 1, 0, 0, 2, 0, 0⟩ = [1, 0, 1, 0, 0, 5, 2, 1, 0, 2, 1, 0, 0] by decide] at h
set_option maxRecDepth 100000 in
set_option maxHeartbeats 40000000 in
theorem codeBegun_any (w : World) : Calls Try.prog 40 #[] w fun e w' => e = .returned (.bool true) ∧ Below w.heap.size w w' := by
  have hE := fun W => Encode_any ⟨1, 1, 5, 2, true, 1, 0, 0, 2, 0, 0⟩ W
  have hD := fun W => Decode_any [1, 0, 1, 0, 0, 5, 2, 1, 0, 2, 1, 0, 0] W
  have hC := fun W => codeCheck_any ⟨2, 4, 5, 0, false, 0, 0, 0, 0, 0, 300⟩ W
  have hQ := fun W => ask_eq ⟨1, 1, 5, 2, true, 1, 0, 0, 2, 0, 0⟩ ⟨1, 1, 5, 2, true, 1, 0, 0, 2, 0, 0⟩ W
  rw [show codeE ⟨1, 1, 5, 2, true, 1, 0, 0, 2, 0, 0⟩ = 0 by decide, show encS ⟨1, 1, 5, 2, true, 1, 0, 0, 2, 0, 0⟩ = [1, 0, 1, 0, 0, 5, 2, 1, 0, 2, 1, 0, 0] by decide] at hE
  rw [dec_a1] at hD
  rw [show codeE ⟨2, 4, 5, 0, false, 0, 0, 0, 0, 0, 300⟩ = 0 by decide] at hC
  rw [show askQ ⟨1, 1, 5, 2, true, 1, 0, 0, 2, 0, 0⟩ ⟨1, 1, 5, 2, true, 1, 0, 0, 2, 0, 0⟩ = true by decide] at hQ
  dsimp only [askA] at hE hD hC hQ
  rw [okL_zero] at hE
  have HE := Lib.hid hE
  clear hE
  have HD := Lib.hid hD
  clear hD
  have HC := Lib.hid hC
  clear hC
  go_enter Try.func40, Try.ntmps40
  go_wp2_with fail
  refine (asks_any _).mono ?_
  rintro e w1 ⟨⟨g, rfl, hB⟩, hb⟩
  obtain ⟨c0, c1, c2, c3, c4, c5, c6, c7, c8, c9, c10⟩ := asks_c1 hB
  go_wp2_with fail
  refine (HE.out _).mono ?_
  rintro e w2 ⟨rfl, hb2⟩
  replace hb := hb.trans (hb2.mono hb.size)
  clear hb2 c0 c1 c2 c3 c4 c5 c6 c7 c8 c9 c10 hB
  go_wp2_with fail
  refine (HD.out _).mono ?_
  rintro e w3 ⟨rfl, hb2⟩
  replace hb := hb.trans (hb2.mono hb.size)
  clear hb2
  have hZ : AskAt (w3.alloc (.cells (askA ⟨1, 1, 5, 2, true, 1, 0, 0, 2, 0, 0⟩) 57)).drew w3.heap.size ⟨1, 1, 5, 2, true, 1, 0, 0, 2, 0, 0⟩ := Blk.new w3 _ _
  have hcum := (hb.alloc hb.size (.cells (askA ⟨1, 1, 5, 2, true, 1, 0, 0, 2, 0, 0⟩) 57)).drew
  dsimp only [askA] at hZ hcum
  obtain ⟨z0, z1, z2, z3, z4, z5, z6, z7, z8, z9, z10⟩ := AskAt.all hZ
  clear hb
  go_upto_region 3 with (fail)
  go_region_with (first
    | (go_at_call 41; refine (HC.out _).mono ?_; rintro e wq ⟨rfl, hbq⟩; (try replace hZ := AskAt.bel hZ hbq); (try replace hA := Blk.bel hA hbq); (try replace hA2 := Blk.bel hA2 hbq); replace hcum := hcum.trans (hbq.mono hcum.size); clear z0 z1 z2 z3 z4 z5 z6 z7 z8 z9 z10; obtain ⟨z0, z1, z2, z3, z4, z5, z6, z7, z8, z9, z10⟩ := AskAt.all hZ; (try (have hx := hA2; obtain ⟨x0, x1, x2, x3, x4, x5, x6, x7, x8, x9, x10⟩ := asks_c1 hx)); (try (have hx := hA; obtain ⟨y0, y1, y2, y3, y4, y5, y6, y7, y8, y9, y10⟩ := asks_c1 hx)))
    | (go_at_call 77; first
        | (have hAx := hA; refine (asks_any _).mono ?_; rintro e wr ⟨⟨g2, rfl, hA2⟩, hbq⟩; (try replace hZ := AskAt.bel hZ hbq); (try replace hA := Blk.bel hA hbq); (try replace hA2 := Blk.bel hA2 hbq); replace hcum := hcum.trans (hbq.mono hcum.size); clear z0 z1 z2 z3 z4 z5 z6 z7 z8 z9 z10; obtain ⟨z0, z1, z2, z3, z4, z5, z6, z7, z8, z9, z10⟩ := AskAt.all hZ; obtain ⟨c0, c1, c2, c3, c4, c5, c6, c7, c8, c9, c10⟩ := asks_c1 hA2; obtain ⟨d0, d1, d2, d3, d4, d5, d6, d7, d8, d9, d10⟩ := asks_c2 hA2; (try (have hx := hA; obtain ⟨y0, y1, y2, y3, y4, y5, y6, y7, y8, y9, y10⟩ := asks_c1 hx)); (try (have hx := hA; obtain ⟨v0, v1, v2, v3, v4, v5, v6, v7, v8, v9, v10⟩ := asks_c2 hx)))
        | (refine (asks_any _).mono ?_; rintro e wp ⟨⟨g1, rfl, hA⟩, hbq⟩; (try replace hZ := AskAt.bel hZ hbq); (try replace hA := Blk.bel hA hbq); (try replace hA2 := Blk.bel hA2 hbq); replace hcum := hcum.trans (hbq.mono hcum.size); clear z0 z1 z2 z3 z4 z5 z6 z7 z8 z9 z10; obtain ⟨z0, z1, z2, z3, z4, z5, z6, z7, z8, z9, z10⟩ := AskAt.all hZ; obtain ⟨y0, y1, y2, y3, y4, y5, y6, y7, y8, y9, y10⟩ := asks_c1 hA; obtain ⟨v0, v1, v2, v3, v4, v5, v6, v7, v8, v9, v10⟩ := asks_c2 hA)))
  all_goals go_wp2_with fail
  all_goals go_ret
  all_goals exact ⟨rfl, hcum⟩
end Go.Proofs.Ytehebngkjfjkbaa
