/-
  Folios: the laws' helpers sheet, folioIs, folioBegun.
-/
import Derived.Test.YtehebngkjfjkbaaFolioI
namespace Go.Proofs.Ytehebngkjfjkbaa
open Go.RowKit Go.Shelf

/-- A literal of several elements. -/
theorem Sl.lit {α : Type} {c : Cod α} {size : Nat} (w : World) (S : Nat → Prop) (t : TypeId) (cells : List Value) (l : List α) (hm : l.length ≤ 1000000) (hS : S w.heap.size)
    (h : ∀ i x, l[i]? = some x → ∃ cs, c (w.alloc (.cells cells.toArray t)) S x cs ∧ cs.length = size ∧ ∀ j u, cs[j]? = some u → cells[i * size + j]? = some u) :
    Sl c size (w.alloc (.cells cells.toArray t)) S (some ⟨w.heap.size, 0, none⟩) l.length l.length l := by
  refine ⟨rfl, Nat.le_refl _, by simp only [maxLen]; omega, fun i x hx => ?_⟩
  obtain ⟨cs, hc, hl, hcell⟩ := h i x hx
  exact ⟨w.heap.size, 0, cs, rfl, hS, hc, hl, fun j u hu => by simpa using hcell j u hu⟩

def sheetL : List Entry := [⟨1, 1, 1000⟩, ⟨3, 2, -400⟩]

theorem sheet_any (w : World) : Calls Try.prog 58 #[] w fun e w' => ∃ A cap, e = .returned (.slice A 2 cap) ∧ Sl entryC 3 w' All A 2 cap sheetL ∧ Below w.heap.size w w' := by
  go_enter Try.func58, Try.ntmps58
  go_wp2
  go_ret
  refine ⟨_, _, rfl, Sl.lit w All 24 [.int .i64 1, .int .i64 1, .int .i64 1000, .int .i64 3, .int .i64 2, .int .i64 (-400)] sheetL (by decide) trivial ?_, (Below.refl _ _).alloc (Nat.le_refl _) _⟩
  intro i x hx
  rcases i with _ | _ | i
  · simp [sheetL] at hx; subst hx
    exact ⟨_, ⟨rfl, .of (by decide) (by decide), .of (by decide) (by decide), .of (by decide) (by decide)⟩, rfl, fun j u hu => by rcases j with _ | _ | _ | j <;> simp_all⟩
  · simp [sheetL] at hx; subst hx
    exact ⟨_, ⟨rfl, .of (by decide) (by decide), .of (by decide) (by decide), .of (by decide) (by decide)⟩, rfl, fun j u hu => by rcases j with _ | _ | _ | j <;> simp_all⟩
  · simp [sheetL] at hx

/-- What folioIs answers. -/
def folioIsB (l : List Entry) (e v : Int) (l2 : List Entry) : Bool := e == v && decide (l = okL v l2)

theorem folioIs_any (A B : Option Addr) (n cap m cap2 : Nat) (l l2 : List Entry) (e0 v0 : Int) (w : World) (h : Sl entryC 3 w All A n cap l) (h2 : Sl entryC 3 w All B m cap2 l2) :
    Calls Try.prog 21 #[.slice A n cap, .int .i64 e0, .int .i64 v0, .slice B m cap2] w fun e w' => e = .returned (.bool (folioIsB l e0 v0 l2)) ∧ Below w.heap.size w w' := by
  by_cases he : e0 = v0
  · subst he
    have hee : (e0 == e0) = true := by simp
    by_cases hv : e0 = 0
    · subst hv
      have HF := Lib.hid (show folioIsB l 0 0 l2 = decide (l = l2) by simp [folioIsB, okL])
      go_enter Try.func21, Try.ntmps21
      go_wp2_with (go_at_call 22; refine (SameFolio_any _ _ _ _ _ _ l l2 _ h h2).mono ?_; rintro e w' ⟨rfl, q, rfl⟩)
      go_ret
      exact ⟨retB (by rw [HF.out]), below_drewN (Below.refl _ _) _⟩
    · have hv' : (e0 != 0) = true := by simpa using hv
      have HF := Lib.hid (show folioIsB l e0 e0 l2 = decide (l = []) by simp [folioIsB, okL, hv])
      clear hv
      go_enter Try.func21, Try.ntmps21
      go_wp2_with (go_at_call 22; refine (SameFolio_any _ _ _ _ _ _ l [] _ h (Sl.nil _ _ _ _)).mono ?_; rintro e w' ⟨rfl, q, rfl⟩)
      go_ret
      exact ⟨retB (by rw [HF.out]), below_drewN (Below.refl _ _) _⟩
  · have hee : (e0 == v0) = false := by simpa using he
    have HF := Lib.hid (show folioIsB l e0 v0 l2 = false by simp [folioIsB, he])
    clear he
    by_cases hv : v0 = 0
    · subst hv
      go_enter Try.func21, Try.ntmps21
      go_wp2_with fail
      go_ret
      exact ⟨retB (by rw [HF.out]), Below.refl _ _⟩
    · have hv' : (v0 != 0) = true := by simpa using hv
      clear hv
      go_enter Try.func21, Try.ntmps21
      go_wp2_with fail
      go_ret
      exact ⟨retB (by rw [HF.out]), Below.refl _ _⟩

set_option maxHeartbeats 4000000 in
theorem folioBegun_any (w : World) : Calls Try.prog 19 #[] w fun e w' => e = .returned (.bool true) ∧ Below w.heap.size w w' := by
  go_enter Try.func19, Try.ntmps19
  go_wp2_with fail
  refine (sheet_any _).mono ?_
  rintro e w1 ⟨A1, cap1, rfl, hs1, hb1⟩
  go_wp2_with fail
  refine (Owed_any _ _ _ _ _ hs1).mono ?_
  rintro e w2 ⟨rfl, hb2⟩
  rw [show checkFolio sheetL = 0 by decide, show okI 0 (dueOf sheetL) = 600 by decide]
  replace hb1 := hb1.trans (hb2.mono hb1.size)
  clear hb2 hs1
  go_wp2_with fail
  refine (sheet_any _).mono ?_
  rintro e w3 ⟨A3, cap3, rfl, hs3, hb3⟩
  replace hb1 := hb1.trans (hb3.mono hb1.size)
  clear hb3
  go_wp2_with fail
  refine (Add_any _ _ _ sheetL 3 2 (-600) _ hs3 (.of (by decide) (by decide)) (.of (by decide) (by decide)) (.of (by decide) (by decide))).mono ?_
  rintro e w4 ⟨v4, xs4, rfl, hown4, hb4⟩
  have e4 : addE sheetL ⟨3, 2, -600⟩ = 0 := by decide
  rw [e4] at hown4 ⊢
  obtain ⟨A4, n4, cap4, rfl, hs4⟩ := hown4.sl entryC_good
  obtain rfl : n4 = 3 := by have := hs4.len; rw [← this]; decide
  replace hb1 := hb1.trans (hb4.mono hb1.size)
  clear hb4 hs3 hs4 hown4 e4
  go_wp2_with fail
  refine (sheet_any _).mono ?_
  rintro e w5 ⟨A5, cap5, rfl, hs5, hb5⟩
  replace hb1 := hb1.trans (hb5.mono hb1.size)
  clear hb5
  go_wp2_with fail
  refine (Cancel_any _ _ _ sheetL 5 100 _ hs5 (.of (by decide) (by decide)) (.of (by decide) (by decide))).mono ?_
  rintro e w6 ⟨v6, xs6, rfl, hown6, hb6⟩
  have e6 : cancelE sheetL 5 100 = 0 := by decide
  have l6 : okL 0 (cancelL sheetL 5 100) = [⟨1, 1, 1000⟩, ⟨3, 2, -400⟩, ⟨5, 4, -1000⟩, ⟨5, 3, 100⟩, ⟨5, 4, 300⟩] := by decide
  rw [e6] at hown6 ⊢
  rw [l6] at hown6
  obtain ⟨A6, n6, cap6, rfl, hs6⟩ := hown6.sl entryC_good
  obtain rfl : n6 = 5 := by have := hs6.len; rw [← this]; decide
  replace hb1 := hb1.trans (hb6.mono hb1.size)
  clear hb6 hs5 hown6 e6 l6
  have hs6' := hs6.all entryC_good (by omega)
  clear hs6
  go_wp2_with fail
  refine (Owed_any _ _ _ _ _ hs6').mono ?_
  rintro e w7 ⟨rfl, hb7⟩
  rw [show checkFolio [⟨1, 1, 1000⟩, ⟨3, 2, -400⟩, ⟨5, 4, -1000⟩, ⟨5, 3, 100⟩, ⟨5, 4, 300⟩] = 0 by decide, show okI 0 (dueOf [⟨1, 1, 1000⟩, ⟨3, 2, -400⟩, ⟨5, 4, -1000⟩, ⟨5, 3, 100⟩, ⟨5, 4, 300⟩]) = 0 by decide]
  replace hs6' := hs6'.below entryC_good (by omega) hb7
  replace hb1 := hb1.trans (hb7.mono hb1.size)
  clear hb7
  go_wp2_with fail
  refine (sheet_any _).mono ?_
  rintro e w8 ⟨A8, cap8, rfl, hs8, hb8⟩
  replace hs6' := hs6'.below entryC_good (by omega) hb8
  replace hb1 := hb1.trans (hb8.mono hb1.size)
  clear hb8
  go_wp2_with fail
  refine (Check_any _ _ _ _ _ hs8).mono ?_
  rintro e w9 ⟨rfl, hb9⟩
  rw [show checkFolio sheetL = 0 by decide]
  replace hs6' := hs6'.below entryC_good (by omega) hb9
  replace hb1 := hb1.trans (hb9.mono hb1.size)
  clear hb9 hs8
  obtain ⟨b, off, x, c0, c1, c2, rfl, hx, ⟨hc, _, _, _⟩, g0, g1, g2⟩ := hs6'.at3 (k := 4) (by omega)
  simp at hx
  subst hx
  simp only [List.cons.injEq, and_true] at hc
  obtain ⟨rfl, rfl, rfl⟩ := hc
  simp at g2
  clear hs6' g0 g1
  go_wp2_with fail
  go_ret
  exact ⟨rfl, hb1⟩
end Go.Proofs.Ytehebngkjfjkbaa
