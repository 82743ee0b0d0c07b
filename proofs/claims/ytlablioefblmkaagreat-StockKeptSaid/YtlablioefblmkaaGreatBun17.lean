/-
  Words, laws and contracts: MatchT.
-/
import Derived.Test.YtlablioefblmkaaGreatBun16
set_option linter.unusedSimpArgs false
set_option linter.unusedVariables false
namespace Go.Proofs.YtlablioefblmkaaGreat
open Go.RowKit Go.Shelf
theorem flat_ed (l : List Edg) : ∀ i x, l[i]? = some x → ∀ j u, (encEd x)[j]? = some u → (l.flatMap encEd)[i * 2 + j]? = some u := by
  induction l with
  | nil => intro i x hx; simp at hx
  | cons y l ih =>
    intro i x hx j u hu
    rcases i with _ | i
    · simp at hx; subst hx
      have hj : j < 2 := (List.getElem?_eq_some_iff.1 hu).1
      rw [List.flatMap_cons, Nat.zero_mul, Nat.zero_add, List.getElem?_append_left (by exact hj)]
      exact hu
    · rw [List.flatMap_cons, List.getElem?_append_right (by show 2 ≤ _; omega)]
      rw [show (i + 1) * 2 + j - (encEd y).length = i * 2 + j by show _ - 2 = _; omega]
      exact ih i x (by simpa using hx) j u hu
theorem Sl.ofEdgs {w : World} {S : Nat → Prop} {b : Nat} {cs : Array Value} {t : TypeId} (l : List Edg) (h : Blk w b cs t) (hl : l.length ≤ 1000) (hS : S b) (he : cs.toList = l.flatMap encEd) (hi : ∀ x ∈ l, InI x.lft ∧ InI x.rgt) :
    Sl edgC 2 w S (some ⟨b, 0, none⟩) l.length l.length l :=
  Sl.ofBlk h l (by omega) hS fun i x hx => ⟨encEd x, ⟨rfl, hi x (List.mem_of_getElem? hx)⟩, rfl, fun j u hu => by
    have := flat_ed l i x hx j u hu
    rw [← he] at this
    simpa using this⟩
def pairsX : List Edg := [⟨0, 1⟩, ⟨1, 1⟩, ⟨2, 0⟩, ⟨2, 1⟩]
def pairsY : List Edg := [⟨0, 0⟩, ⟨0, 1⟩, ⟨1, 0⟩]
theorem pairsX_ok : OkGr 3 2 pairsX := by unfold OkGr; decide
theorem pairsY_ok : OkGr 2 2 pairsY := by unfold OkGr; decide
theorem pairsX_e : grE 3 2 pairsX = 0 := by decide
theorem pairsY_e : grE 2 2 pairsY = 0 := by decide
theorem pairsX_most {ml : List Edg} (h : MostOk 3 2 pairsX ml) : ml.length = 2 := by
  obtain ⟨hb, _⟩ := h.2 3 2 rfl rfl pairsX_e
  have h1 := hb.right pairsX_ok
  have h2 : 2 ≤ ml.length := hb.most [(0, 1), (2, 0)] ⟨by decide, by decide, by decide⟩
  omega
theorem pairsX_lack {sm : List Int} (h : LackOk 3 2 pairsX sm) : 0 < sm.length := by
  obtain ⟨k, hk, h3⟩ := h.2 3 2 rfl rfl pairsX_e
  have := hk.right pairsX_ok
  rcases h3 with ⟨_, e⟩ | ⟨_, hl⟩
  · omega
  · obtain ⟨P, _, hP⟩ := hl.nb
    omega
theorem pairsY_lack {sm : List Int} (h : LackOk 2 2 pairsY sm) : sm = [] := by
  obtain ⟨k, hk, h3⟩ := h.2 2 2 rfl rfl pairsY_e
  have h2 : 2 ≤ k := hk.most pairsY_ok (M := [(0, 1), (1, 0)]) ⟨by decide, by decide, by decide⟩
  rcases h3 with ⟨e, _⟩ | ⟨hlt, _⟩
  · exact e
  · omega
set_option maxRecDepth 100000 in
theorem pairs_any (w : World) : Calls Tryz.prog 79 #[] w fun e w' => ∃ A cap, e = .returned (.slice A 4 cap) ∧ Sl edgC 2 w' All A 4 cap pairsX ∧ Below w.heap.size w w' := by
  have hblk := Blk.new w #[.int .i64 0, .int .i64 1, .int .i64 1, .int .i64 1, .int .i64 2, .int .i64 0, .int .i64 2, .int .i64 1] 95
  have hsl := Lib.hid (Sl.ofEdgs (S := All) pairsX hblk (by decide) trivial rfl (fun x hx => by simp [pairsX] at hx; rcases hx with rfl | rfl | rfl | rfl <;> exact ⟨.of (by decide) (by decide), .of (by decide) (by decide)⟩))
  clear hblk
  go_enter Tryz.func79, Tryz.ntmps79
  go_wp2_with fail
  go_ret
  exact ⟨_, _, rfl, hsl.out, bel1 _ _⟩
set_option maxRecDepth 100000 in
set_option maxHeartbeats 8000000 in
theorem matchBegun_any (w : World) : Calls Tryz.prog 27 #[] w fun e w' => e = .returned (.bool true) ∧ Below w.heap.size w w' := by
  have hM := fun A cap W h => Most_any 3 2 A 4 cap pairsX W h
  have hL := fun A cap W h => Lack_any 3 2 A 4 cap pairsX W h
  have hY := fun A cap W h => Lack_any 2 2 A 3 cap pairsY W h
  have hC := fun A cap W h => CheckM_any 3 2 A 4 cap pairsX W h
  rw [pairsX_e] at hM hL hC
  rw [pairsY_e] at hY
  have HM := Lib.hid hM
  clear hM
  have HL := Lib.hid hL
  clear hL
  have HY := Lib.hid hY
  clear hY
  have HC := Lib.hid hC
  clear hC
  go_enter Tryz.func27, Tryz.ntmps27
  go_wp2_with fail
  refine (pairs_any _).mono ?_
  rintro e w1 ⟨A1, c1, rfl, h1, hb⟩
  go_wp2_with fail
  refine (HM.out _ _ _ h1).mono ?_
  rintro e w2 ⟨v2, ml, xs2, rfl, ho2, hm, hb2⟩
  have hml := pairsX_most hm
  obtain ⟨A2, n2, c2, rfl, hs2⟩ := ho2.sl edgC_good
  obtain rfl : n2 = 2 := hs2.len.symm.trans hml
  replace hb := hb.trans (hb2.mono hb.size)
  clear hb2 ho2 h1 hs2 hm hml
  go_wp2_with fail
  refine (pairs_any _).mono ?_
  rintro e w3 ⟨A3, c3, rfl, h3, hb2⟩
  replace hb := hb.trans (hb2.mono hb.size)
  clear hb2
  go_wp2_with fail
  refine (HL.out _ _ _ h3).mono ?_
  rintro e w4 ⟨v4, sm, xs4, rfl, ho4, hm, hb2⟩
  have hsm := pairsX_lack hm
  obtain ⟨A4, n4, c4, rfl, hs4⟩ := ho4.sl intC_good
  have hn4 : 0 < n4 := by have := hs4.len; omega
  replace hb := hb.trans (hb2.mono hb.size)
  clear hb2 ho4 h3 hs4 hm hsm
  have hsl := Sl.ofEdgs (S := All) pairsY (Blk.new w4 #[.int .i64 0, .int .i64 0, .int .i64 0, .int .i64 1, .int .i64 1, .int .i64 0] 95) (by decide) trivial rfl (fun x hx => by simp [pairsY] at hx; rcases hx with rfl | rfl | rfl <;> exact ⟨.of (by decide) (by decide), .of (by decide) (by decide)⟩)
  replace hb := hb.alloc hb.size (.cells #[.int .i64 0, .int .i64 0, .int .i64 0, .int .i64 1, .int .i64 1, .int .i64 0] 95)
  go_wp2_with fail
  refine (HY.out _ _ _ hsl).mono ?_
  rintro e w5 ⟨v5, sm5, xs5, rfl, ho5, hm, hb2⟩
  obtain rfl := pairsY_lack hm
  obtain ⟨A5, n5, c5, rfl, hs5⟩ := ho5.sl intC_good
  obtain rfl : n5 = 0 := hs5.len.symm
  replace hb := hb.trans (hb2.mono hb.size)
  clear hb2 ho5 hsl hs5 hm
  go_wp2_with fail
  refine (pairs_any _).mono ?_
  rintro e w6 ⟨A6, c6, rfl, h6, hb2⟩
  replace hb := hb.trans (hb2.mono hb.size)
  clear hb2
  go_wp2_with fail
  refine (HC.out _ _ _ h6).mono ?_
  rintro e w7 ⟨rfl, hb2⟩
  replace hb := hb.trans (hb2.mono hb.size)
  clear hb2 h6
  have hn4' : (0 : Int) < (n4 : Int) := by omega
  go_wp2_with fail
  go_ret
  exact ⟨rfl, hb⟩
end Go.Proofs.YtlablioefblmkaaGreat
