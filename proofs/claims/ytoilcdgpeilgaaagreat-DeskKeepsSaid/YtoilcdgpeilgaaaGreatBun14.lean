/-
  Words, laws and contracts: MatchI, MatchK, MatchQ, MatchO.
-/
import Derived.Test.YtoilcdgpeilgaaaGreatBun13
import Derived.Deep.RegionHeld3
import Derived.WideKeyEntry
import Derived.DeepKeys4
import Derived.Deep.RegionWith
import Derived.BigQuiet
import Derived.Test.YtoilcdgpeilgaaaGreatSortEdge
import Derived.Shelf.SlSortCmp.NoneTotal
set_option linter.unusedSimpArgs false
set_option linter.unusedVariables false
namespace Go.Proofs.YtoilcdgpeilgaaaGreat
open Go.RowKit Go.Shelf
theorem mkR0 (W : World) : (Instr.makeSlice 26 (.int .i64 0) (.int .i64 0)).run Tryz.prog W = .ok (.slice (some ⟨W.heap.size, 0, none⟩) 0 0) (W.alloc (.cells (Array.replicate 0 (Value.slice none 0 0)) 47)) := by kernel_rfl
theorem mkR1 (W : World) : (Instr.makeSlice 26 (.int .i64 1) (.int .i64 1)).run Tryz.prog W = .ok (.slice (some ⟨W.heap.size, 0, none⟩) 1 1) (W.alloc (.cells (Array.replicate 1 (Value.slice none 0 0)) 47)) := by kernel_rfl
theorem mkR2 (W : World) : (Instr.makeSlice 26 (.int .i64 2) (.int .i64 2)).run Tryz.prog W = .ok (.slice (some ⟨W.heap.size, 0, none⟩) 2 2) (W.alloc (.cells (Array.replicate 2 (Value.slice none 0 0)) 47)) := by kernel_rfl
theorem mkR3 (W : World) : (Instr.makeSlice 26 (.int .i64 3) (.int .i64 3)).run Tryz.prog W = .ok (.slice (some ⟨W.heap.size, 0, none⟩) 3 3) (W.alloc (.cells (Array.replicate 3 (Value.slice none 0 0)) 47)) := by kernel_rfl
theorem mkR4 (W : World) : (Instr.makeSlice 26 (.int .i64 4) (.int .i64 4)).run Tryz.prog W = .ok (.slice (some ⟨W.heap.size, 0, none⟩) 4 4) (W.alloc (.cells (Array.replicate 4 (Value.slice none 0 0)) 47)) := by kernel_rfl
theorem mkR5 (W : World) : (Instr.makeSlice 26 (.int .i64 5) (.int .i64 5)).run Tryz.prog W = .ok (.slice (some ⟨W.heap.size, 0, none⟩) 5 5) (W.alloc (.cells (Array.replicate 5 (Value.slice none 0 0)) 47)) := by kernel_rfl
theorem mkR6 (W : World) : (Instr.makeSlice 26 (.int .i64 6) (.int .i64 6)).run Tryz.prog W = .ok (.slice (some ⟨W.heap.size, 0, none⟩) 6 6) (W.alloc (.cells (Array.replicate 6 (Value.slice none 0 0)) 47)) := by kernel_rfl
theorem mkR7 (W : World) : (Instr.makeSlice 26 (.int .i64 7) (.int .i64 7)).run Tryz.prog W = .ok (.slice (some ⟨W.heap.size, 0, none⟩) 7 7) (W.alloc (.cells (Array.replicate 7 (Value.slice none 0 0)) 47)) := by kernel_rfl
theorem mkR8 (W : World) : (Instr.makeSlice 26 (.int .i64 8) (.int .i64 8)).run Tryz.prog W = .ok (.slice (some ⟨W.heap.size, 0, none⟩) 8 8) (W.alloc (.cells (Array.replicate 8 (Value.slice none 0 0)) 47)) := by kernel_rfl
theorem mkR9 (W : World) : (Instr.makeSlice 26 (.int .i64 9) (.int .i64 9)).run Tryz.prog W = .ok (.slice (some ⟨W.heap.size, 0, none⟩) 9 9) (W.alloc (.cells (Array.replicate 9 (Value.slice none 0 0)) 47)) := by kernel_rfl
theorem mkR10 (W : World) : (Instr.makeSlice 26 (.int .i64 10) (.int .i64 10)).run Tryz.prog W = .ok (.slice (some ⟨W.heap.size, 0, none⟩) 10 10) (W.alloc (.cells (Array.replicate 10 (Value.slice none 0 0)) 47)) := by kernel_rfl
theorem mkR11 (W : World) : (Instr.makeSlice 26 (.int .i64 11) (.int .i64 11)).run Tryz.prog W = .ok (.slice (some ⟨W.heap.size, 0, none⟩) 11 11) (W.alloc (.cells (Array.replicate 11 (Value.slice none 0 0)) 47)) := by kernel_rfl
theorem mkR12 (W : World) : (Instr.makeSlice 26 (.int .i64 12) (.int .i64 12)).run Tryz.prog W = .ok (.slice (some ⟨W.heap.size, 0, none⟩) 12 12) (W.alloc (.cells (Array.replicate 12 (Value.slice none 0 0)) 47)) := by kernel_rfl
theorem mkR13 (W : World) : (Instr.makeSlice 26 (.int .i64 13) (.int .i64 13)).run Tryz.prog W = .ok (.slice (some ⟨W.heap.size, 0, none⟩) 13 13) (W.alloc (.cells (Array.replicate 13 (Value.slice none 0 0)) 47)) := by kernel_rfl
theorem mkR14 (W : World) : (Instr.makeSlice 26 (.int .i64 14) (.int .i64 14)).run Tryz.prog W = .ok (.slice (some ⟨W.heap.size, 0, none⟩) 14 14) (W.alloc (.cells (Array.replicate 14 (Value.slice none 0 0)) 47)) := by kernel_rfl
theorem mkR15 (W : World) : (Instr.makeSlice 26 (.int .i64 15) (.int .i64 15)).run Tryz.prog W = .ok (.slice (some ⟨W.heap.size, 0, none⟩) 15 15) (W.alloc (.cells (Array.replicate 15 (Value.slice none 0 0)) 47)) := by kernel_rfl
theorem mkR16 (W : World) : (Instr.makeSlice 26 (.int .i64 16) (.int .i64 16)).run Tryz.prog W = .ok (.slice (some ⟨W.heap.size, 0, none⟩) 16 16) (W.alloc (.cells (Array.replicate 16 (Value.slice none 0 0)) 47)) := by kernel_rfl
theorem mkR (n : Nat) (hn : n ≤ 16) (W : World) : (Instr.makeSlice 26 (.int .i64 n) (.int .i64 n)).run Tryz.prog W = .ok (.slice (some ⟨W.heap.size, 0, none⟩) n n) (W.alloc (.cells (Array.replicate n (Value.slice none 0 0)) 47)) := by
  have h : n = 0 ∨ n = 1 ∨ n = 2 ∨ n = 3 ∨ n = 4 ∨ n = 5 ∨ n = 6 ∨ n = 7 ∨ n = 8 ∨ n = 9 ∨ n = 10 ∨ n = 11 ∨ n = 12 ∨ n = 13 ∨ n = 14 ∨ n = 15 ∨ n = 16 := by omega
  rcases h with rfl | rfl | rfl | rfl | rfl | rfl | rfl | rfl | rfl | rfl | rfl | rfl | rfl | rfl | rfl | rfl | rfl
  · exact mkR0 W
  · exact mkR1 W
  · exact mkR2 W
  · exact mkR3 W
  · exact mkR4 W
  · exact mkR5 W
  · exact mkR6 W
  · exact mkR7 W
  · exact mkR8 W
  · exact mkR9 W
  · exact mkR10 W
  · exact mkR11 W
  · exact mkR12 W
  · exact mkR13 W
  · exact mkR14 W
  · exact mkR15 W
  · exact mkR16 W
def rowF (l : List Edg) (d : Nat) : List Int := (l.filter (fun x => decide (x.lft = (d : Int)))).map (·.rgt)
def rowsOf (left : Nat) (l : List Edg) : List (List Int) := (List.range left).map (rowF l)
theorem rowsOf_at {left : Nat} {l : List Edg} {d : Nat} (h : d < left) : (rowsOf left l).getD d [] = rowF l d := by
  unfold rowsOf
  rw [List.getD_eq_getElem?_getD, List.getElem?_map, List.getElem?_range h]; rfl
theorem rowsOf_nil (left : Nat) : rowsOf left [] = List.replicate left [] := by
  unfold rowsOf
  rw [show rowF [] = fun _ => [] by funext d; rfl]
  rw [List.map_const']; simp
theorem rgts_rows {left right : Nat} {l : List Edg} (h : OkGr left right l) : rgts (rowsOf left l) = nbrs l := by
  funext d
  unfold rgts
  by_cases hd : d < left
  · rw [rowsOf_at hd]
    unfold rowF nbrs
    rw [List.map_map]; rfl
  · rw [List.getD_eq_getElem?_getD, List.getElem?_eq_none (by unfold rowsOf; simp; omega)]
    have : nbrs l d = [] := by
      cases hn : nbrs l d with
      | nil => rfl
      | cons r t => exact absurd (nbrs_lt h d r (by rw [hn]; simp)).1 hd
    rw [this]; rfl
theorem rows_bd {left right : Nat} {l : List Edg} (h : OkGr left right l) : ∀ c ∈ rowsOf left l, ∀ r ∈ c, 0 ≤ r ∧ r < right := fun c hc r hr => by
  obtain ⟨d, _, rfl⟩ := List.mem_map.1 hc
  obtain ⟨x, hx, rfl⟩ := List.mem_map.1 hr
  have := h x (List.mem_filter.1 hx).1
  omega
theorem rowsOf_snoc {left : Nat} {l : List Edg} {x : Edg} {d : Nat} (hd : x.lft = (d : Int)) (hl : d < left) : (rowsOf left l).set d ((rowsOf left l).getD d [] ++ [x.rgt]) = rowsOf left (l ++ [x]) := by
  rw [rowsOf_at hl]
  apply List.ext_getElem?
  intro i
  unfold rowsOf
  by_cases hi : i < left
  · by_cases he : d = i
    · subst he
      rw [List.getElem?_set_self (by simpa using hi), List.getElem?_map, List.getElem?_range hi]
      simp [rowF, hd]
    · rw [List.getElem?_set_ne he, List.getElem?_map, List.getElem?_map, List.getElem?_range hi]
      have : ¬ x.lft = (i : Int) := by rw [hd]; omega
      simp [rowF, this]
  · rw [List.getElem?_eq_none (by simp; omega), List.getElem?_eq_none (by simp; omega)]
def Made (w wx : World) (left right P G O : Nat) : Prop :=
  Blk wx P #[.slice (some ⟨O, 0, none⟩) left left, .slice (some ⟨G, 0, none⟩) right right, .slice none 0 0] 299 ∧ RowI wx G (List.replicate right (-1)) 3 ∧ Blk wx O (Array.replicate left (.slice none 0 0)) 47 ∧
    w.heap.size ≤ P ∧ w.heap.size ≤ G ∧ w.heap.size ≤ O ∧ P ≠ G ∧ P ≠ O ∧ G ≠ O ∧ Below w.heap.size w wx
theorem made_at {w W w1 : World} {left right O q : Nat} (hb : Below w.heap.size w W) (hO : Blk W O (Array.replicate left (.slice none 0 0)) 47) (hO0 : w.heap.size ≤ O) (hr : RowI w1 q (List.replicate right (-1)) 3) (hq : W.heap.size ≤ q) (hb1 : Below W.heap.size W w1) :
    Made w (w1.alloc (.cells #[.slice (some ⟨O, 0, none⟩) left left, .slice (some ⟨q, 0, none⟩) right right, .slice none 0 0] 299)) left right w1.heap.size q O := by
  have h1 := hb.size
  have h2 := hb1.size
  have h3 := hO.lt
  have h4 : q < w1.heap.size := Blk.lt hr
  exact ⟨blk1 _ _, Blk.old hr _, (hO.bel hb1).old _, by omega, by omega, hO0, by omega, by omega, by omega, (hb.trans (hb1.mono h1)).alloc (by omega) _⟩
theorem made_late {w W w1 : World} {left right q : Nat} (hb : Below w.heap.size w W) (hr : RowI w1 q (List.replicate right (-1)) 3) (hq : W.heap.size ≤ q) (hb1 : Below W.heap.size W w1) :
    Made w ((w1.alloc (.cells (Array.replicate left (.slice none 0 0)) 47)).alloc (.cells #[.slice (some ⟨w1.heap.size, 0, none⟩) left left, .slice (some ⟨q, 0, none⟩) right right, .slice none 0 0] 299)) left right (w1.heap.size + 1) q w1.heap.size := by
  have h1 := hb.size
  have h2 := hb1.size
  have h4 : q < w1.heap.size := Blk.lt hr
  exact ⟨blk2_1 _ _ _, Blk.old (Blk.old hr _) _, blk2_0 _ _ _, by omega, by omega, by omega, by omega, by omega, by omega, ((hb.trans (hb1.mono h1)).alloc (by omega) _).alloc (by simp; omega) _⟩
set_option maxRecDepth 100000 in
set_option maxHeartbeats 1000000 in
theorem solve_any (left right : Nat) (A : Option Addr) (n cap : Nat) (l : List Edg) (w : World) (h : Sl edgC 2 w All A n cap l) (hl : left ≤ 16) (hr : right ≤ 16) (hg : OkGr left right l) (hn : n ≤ 1000) :
    Calls Tryz.prog 237 #[.int .i64 (left : Int), .int .i64 (right : Int), .slice A n cap] w fun e w' => ∃ (P G N O : Nat) (v : Value) (has : List Int) (no : List Nat) (D : Nat → Prop) (xs : List Value),
      e = .returned (.tuple #[.pointer (some ⟨P, 0, none⟩), v]) ∧ StAt w' P G N (some ⟨O, 0, none⟩) left left right (rowsOf left l) has ∧ Own intC 1 3 w' N v (no.map Int.ofNat) xs ∧ Asked (nbrs l) right (fun x => x < left) has no D ∧
      w.heap.size ≤ P ∧ w.heap.size ≤ G ∧ w.heap.size ≤ N ∧ Below w.heap.size w w' := by
  have hmk := fun W => mkR left hl W
  have HSL := Lib.hid h
  clear h
  have HG := Lib.hid hg
  clear hg
  go_enter Tryz.func237, Tryz.ntmps237
  go_upto_region 1 with (fail)
  go_cut [8] (fun p wx => ∃ P G O, p = .pointer (some ⟨P, 0, none⟩) ∧ Made w wx left right P G O)
  case first => as_aux_lemma =>
    have hbA : Below w.heap.size w ((w.alloc (.cells (Array.replicate left (Value.slice none 0 0)) 47)).alloc (.cells #[Value.int .i64 (-1)] 3)).drew := (bel2 w _ _).drew
    have hbB : Below w.heap.size w ((w.alloc (.cells #[Value.int .i64 (-1)] 3)).alloc (.cells (Array.replicate left (Value.slice none 0 0)) 47)).drew := (bel2 w _ _).drew
    have hbC : Below w.heap.size w (w.alloc (.cells #[Value.int .i64 (-1)] 3)).drew := (bel1 w _).drew
    have hA : Blk ((w.alloc (.cells (Array.replicate left (Value.slice none 0 0)) 47)).alloc (.cells #[Value.int .i64 (-1)] 3)).drew (w.heap.size + 1) #[.int .i64 (-1)] 3 := blk2_1 _ _ _
    have hB : Blk ((w.alloc (.cells #[Value.int .i64 (-1)] 3)).alloc (.cells (Array.replicate left (Value.slice none 0 0)) 47)).drew w.heap.size #[.int .i64 (-1)] 3 := blk2_0 _ _ _
    have hC : Blk (w.alloc (.cells #[Value.int .i64 (-1)] 3)).drew w.heap.size #[.int .i64 (-1)] 3 := blk1 _ _
    have hA2 : Blk ((w.alloc (.cells (Array.replicate left (Value.slice none 0 0)) 47)).alloc (.cells #[Value.int .i64 (-1)] 3)).drew w.heap.size (Array.replicate left (.slice none 0 0)) 47 := blk2_0 _ _ _
    have hB2 : Blk ((w.alloc (.cells #[Value.int .i64 (-1)] 3)).alloc (.cells (Array.replicate left (Value.slice none 0 0)) 47)).drew (w.heap.size + 1) (Array.replicate left (.slice none 0 0)) 47 := blk2_1 _ _ _
    have HA := Lib.hid (fun w1 q => made_at (w1 := w1) (q := q) (right := right) hbA hA2 (Nat.le_refl _))
    have HB := Lib.hid (fun w1 q => made_at (w1 := w1) (q := q) (right := right) hbB hB2 (by omega))
    have HC := Lib.hid (fun w1 q => made_late (w1 := w1) (q := q) (right := right) (left := left) hbC)
    clear hA2 hB2 hbA hbB hbC
    go_region_with (first
      | (go_at_call 258; with_reducible refine (rep_any right _ _ hr hA).mono ?_; rintro e w1 ⟨q, rfl, hq1, hq2, hq3, hq4⟩; have HM := HA.out w1 q hq1 hq2 hq4; clear hq1 hq4)
      | (go_at_call 258; with_reducible refine (rep_any right _ _ hr hB).mono ?_; rintro e w1 ⟨q, rfl, hq1, hq2, hq3, hq4⟩; have HM := HB.out w1 q hq1 hq2 hq4; clear hq1 hq4)
      | (go_at_call 258; with_reducible refine (rep_any right _ _ hr hC).mono ?_; rintro e w1 ⟨q, rfl, hq1, hq2, hq3, hq4⟩; have HM := HC.out w1 q hq1 hq2 hq4; clear hq1 hq4))
    all_goals
      go_wp2_with fail
      go_meet
      exact ⟨_, _, _, rfl, HM⟩
  obtain ⟨P, G, O, rfl, hM⟩ := hcut
  obtain ⟨W1, hW1⟩ : ∃ W1, W1 = wc := ⟨_, rfl⟩
  subst hW1
  obtain ⟨base, hbase⟩ : ∃ base, base = W1.heap.size := ⟨_, rfl⟩
  obtain ⟨hP, hG, hO, hP0, hG0, hO0, hPG, hPO, hGO, hb⟩ := hM
  have hPl := hP.lt
  have hGl := Blk.lt hG
  have hOl := hO.lt
  have HP := Lib.hid hP
  have HRG := Lib.hid hG
  have HT0 := Lib.hid (TabI.new (base := base) hO (by omega))
  have HB := Lib.hid hb
  have hkn := HSL.out.len
  clear hP hG hO hb
  go_wp2_with fail
  go_loopg [22] n (fun gk i wr => ∃ (k : Nat) (vs : List Value), k ≤ n ∧ n - k ≤ gk ∧ i = .int .i64 k ∧ vs.length = left ∧ TabI wr base O vs (rowsOf left (l.take k)) ∧ Kept (fun q => q = O) W1 wr)
  case atStart => exact ⟨0, List.replicate left (.slice none 0 0), Nat.zero_le _, by omega, rfl, by simp, by rw [List.take_zero, rowsOf_nil]; exact HT0.out, Kept.refl _ _⟩
  case round =>
    obtain ⟨k, vs, hk, hgk, rfl, hvl, hT, hK⟩ := hrel
    by_cases hlt : k < n
    · have hbw : Below w.heap.size w wr := HB.out.trans (hK.below HB.out.size (fun q hq e => by omega))
      obtain ⟨b, off, x, c0, c1, rfl, hx, hcs, e0, e1⟩ := (HSL.out.bel hbw).at2 hlt
      obtain ⟨hcs, ix, iy⟩ := hcs
      simp only [List.cons.injEq, and_true] at hcs
      obtain ⟨rfl, rfl⟩ := hcs
      obtain ⟨x0, x1, x2, x3⟩ := HG.out x (List.mem_of_getElem? hx)
      obtain ⟨d, hd⟩ := Int.eq_ofNat_of_zero_le x0
      rw [hd] at e0
      have hdl : d < left := by omega
      obtain ⟨v, hv⟩ : ∃ v, vs[d]? = some v := ⟨_, List.getElem?_eq_getElem (by omega)⟩
      obtain ⟨xs, how⟩ := hT.row d v hv
      rw [rowsOf_at hdl] at how
      obtain ⟨A7, n7, cap7, rfl, _⟩ := how.sl intC_good
      have hws := hK.size
      obtain ⟨E, hE⟩ : ∃ E, E = wr.heap.size := ⟨_, rfl⟩
      obtain ⟨W4, hW4⟩ : ∃ W4, W4 = wr.alloc (.cells #[.int .i64 (d : Int), .int .i64 x.rgt] 115) := ⟨_, rfl⟩
      have hb4 : Below wr.heap.size wr W4 := by rw [hW4]; exact bel1 _ _
      have hE4 : Blk W4 E #[.int .i64 (d : Int), .int .i64 x.rgt] 115 := by rw [hW4, hE]; exact blk1 _ _
      have hs4 : W4.heap.size = E + 1 := by rw [hW4, hE]; simp
      have hT4 := hT.bel hb4
      have hP4 := (HP.out.kept hK hPO).bel hb4
      have p4 : W4.cell? ⟨P, 0, none⟩ = some (.slice (some ⟨O, 0, none⟩) left left) := hP4.cell rfl
      have e4 : W4.cell? ⟨E, 0, none⟩ = some (.int .i64 (d : Int)) := hE4.cell rfl
      have e5 : W4.cell? ⟨E, 1, none⟩ = some (.int .i64 x.rgt) := hE4.cell rfl
      have o4 : W4.cell? ⟨O, d, none⟩ = some (.slice A7 n7 cap7) := Blk.cell hT4.outer (by rw [List.getElem?_toArray]; exact hv)
      have of4 : W4.frozen? ⟨O, d, none⟩ = false := hT4.outer.free d
      have hbL : Below W4.heap.size W4 (W4.alloc (.cells #[Value.int .i64 x.rgt] 3)).drew := (bel1 W4 _).drew
      have hb0 : Below W4.heap.size W4 W4.drew := (Below.refl _ W4).drew
      have HS0 := Lib.hid (show W4.drew.cell? ⟨P, 0, none⟩ = some (.slice (some ⟨O, 0, none⟩) left left) ∧ W4.drew.cell? ⟨E, 0, none⟩ = some (.int .i64 (d : Int)) ∧ W4.drew.cell? ⟨E, 1, none⟩ = some (.int .i64 x.rgt) from ⟨p4, e4, e5⟩)
      have HS1 := Lib.hid (show (W4.alloc (.cells #[Value.int .i64 x.rgt] 3)).drew.cell? ⟨P, 0, none⟩ = some (.slice (some ⟨O, 0, none⟩) left left) ∧ (W4.alloc (.cells #[Value.int .i64 x.rgt] 3)).drew.cell? ⟨E, 0, none⟩ = some (.int .i64 (d : Int)) ∧ (W4.alloc (.cells #[Value.int .i64 x.rgt] 3)).drew.cell? ⟨E, 1, none⟩ = some (.int .i64 x.rgt) from ⟨cell_bv hbL p4, cell_bv hbL e4, cell_bv hbL e5⟩)
      have o5 : (W4.alloc (.cells #[Value.int .i64 x.rgt] 3)).drew.cell? ⟨O, d, none⟩ = some (.slice A7 n7 cap7) := cell_bv hbL o4
      have o6 : W4.drew.cell? ⟨O, d, none⟩ = some (.slice A7 n7 cap7) := o4
      have HLI := Lib.hid (show Sl intC 1 (W4.alloc (.cells #[Value.int .i64 x.rgt] 3)).drew All (some ⟨E + 1, 0, none⟩) 1 1 [x.rgt] from by rw [← hs4]; exact (sl_int W4 All x.rgt 3 iy trivial).keep intC_good (by omega) (fun b _ _ => ⟨rfl, trivial⟩))
      have hT5 : TabI (W4.alloc (.cells #[Value.int .i64 x.rgt] 3)).drew base O vs (rowsOf left (l.take k)) := hT4.bel hbL
      have HOW := Lib.hid (show Own intC 1 3 (W4.alloc (.cells #[Value.int .i64 x.rgt] 3)).drew base (.slice A7 n7 cap7) (rowF (l.take k) d) xs from (how.bel hb4).bel hbL)
      have hown : ∀ q, (Value.slice A7 n7 cap7).ownBlock = some q → base ≤ q ∧ q < wr.heap.size := fun q hq => how.lt q hq
      have ob : some O ≠ (Value.slice A7 n7 cap7).ownBlock := fun e => by have := (hown O e.symm).1; omega
      have pb : some P ≠ (Value.slice A7 n7 cap7).ownBlock := fun e => by have := (hown P e.symm).1; omega
      have eb : some E ≠ (Value.slice A7 n7 cap7).ownBlock := fun e => by have := (hown E e.symm).2; omega
      have hsL : (W4.alloc (.cells #[Value.int .i64 x.rgt] 3)).drew.heap.size = E + 2 := by show (W4.alloc (.cells #[Value.int .i64 x.rgt] 3)).heap.size = _; simp; omega
      have mv : ∀ (w2 : World), (W4.alloc (.cells #[Value.int .i64 x.rgt] 3)).drew.grownBy w2 (Value.slice A7 n7 cap7).ownBlock → ∀ (p j : Nat), p < E + 2 → some p ≠ (Value.slice A7 n7 cap7).ownBlock → w2.cell? ⟨p, j, none⟩ = (W4.alloc (.cells #[Value.int .i64 x.rgt] 3)).drew.cell? ⟨p, j, none⟩ ∧ w2.frozen? ⟨p, j, none⟩ = (W4.alloc (.cells #[Value.int .i64 x.rgt] 3)).drew.frozen? ⟨p, j, none⟩ := fun w2 hg2 p j hp hne =>
        ⟨World.cell?_of_block (a := ⟨p, j, none⟩) (hg2.block p (by omega) hne), World.frozen?_of_block (a := ⟨p, j, none⟩) (hg2.block p (by omega) hne)⟩
      have HGR := Lib.hid (show ∀ w2, (W4.alloc (.cells #[Value.int .i64 x.rgt] 3)).drew.grownBy w2 (Value.slice A7 n7 cap7).ownBlock → (w2.cell? ⟨P, 0, none⟩ = some (.slice (some ⟨O, 0, none⟩) left left) ∧ w2.cell? ⟨E, 0, none⟩ = some (.int .i64 (d : Int)) ∧ w2.cell? ⟨E, 1, none⟩ = some (.int .i64 x.rgt)) ∧ w2.cell? ⟨O, d, none⟩ = some (.slice A7 n7 cap7) ∧ w2.frozen? ⟨O, d, none⟩ = false from fun w2 hg2 =>
        ⟨⟨(mv w2 hg2 P 0 (by omega) pb).1.trans HS1.out.1, (mv w2 hg2 E 0 (by omega) eb).1.trans HS1.out.2.1, (mv w2 hg2 E 1 (by omega) eb).1.trans HS1.out.2.2⟩, (mv w2 hg2 O d (by omega) ob).1.trans o5, (mv w2 hg2 O d (by omega) ob).2.trans (hT5.outer.free d)⟩)
      have HST := Lib.hid (show ∀ w2 v2, (W4.alloc (.cells #[Value.int .i64 x.rgt] 3)).drew.grownBy w2 (Value.slice A7 n7 cap7).ownBlock → ((w2.setCell ⟨O, d, none⟩ v2).cell? ⟨P, 0, none⟩ = some (.slice (some ⟨O, 0, none⟩) left left) ∧ (w2.setCell ⟨O, d, none⟩ v2).cell? ⟨E, 0, none⟩ = some (.int .i64 (d : Int)) ∧ (w2.setCell ⟨O, d, none⟩ v2).cell? ⟨E, 1, none⟩ = some (.int .i64 x.rgt)) from fun w2 v2 hg2 => by
        obtain ⟨⟨g1, g2, g3⟩, _⟩ := HGR.out w2 hg2
        have far : ∀ p j, p ≠ O → (w2.setCell ⟨O, d, none⟩ v2).cell? ⟨p, j, none⟩ = w2.cell? ⟨p, j, none⟩ := fun p j hp => World.cell?_of_block (a := ⟨p, j, none⟩) (Below.heap_setCell _ _ _ _ hp)
        exact ⟨(far P 0 hPO).trans g1, (far E 0 (by omega)).trans g2, (far E 1 (by omega)).trans g3⟩)
      have HPOST := Lib.hid (show ∀ w2 v2 xs2, Own intC 1 3 w2 base v2 (rowF (l.take k) d ++ [x.rgt]) xs2 → (W4.alloc (.cells #[Value.int .i64 x.rgt] 3)).drew.grownBy w2 (Value.slice A7 n7 cap7).ownBlock → (v2.ownBlock = (Value.slice A7 n7 cap7).ownBlock ∨ v2.ownBlock = some (W4.alloc (.cells #[Value.int .i64 x.rgt] 3)).drew.heap.size) →
          (vs.set d v2).length = left ∧ TabI (w2.setCell ⟨O, d, none⟩ v2) base O (vs.set d v2) (rowsOf left (l.take (k + 1))) ∧ Kept (fun q => q = O) W1 (w2.setCell ⟨O, d, none⟩ v2) from fun w2 v2 xs2 hown2 hg2 hat2 => by
        refine ⟨by rw [List.length_set]; exact hvl, ?_, ?_⟩
        · have := hT5.put hv hown2 hg2 hat2
          rw [← rowsOf_at hdl, rowsOf_snoc hd hdl, ← take_snoc hx] at this
          exact this
        · have h1 : Kept (fun q => q = O) W1 (W4.alloc (.cells #[Value.int .i64 x.rgt] 3)).drew := hK.trans (Kept.of_below (hb4.trans (hbL.mono hb4.size)) (fun q hq hq2 => by omega))
          have h2 : Kept (fun q => q = O) W1 w2 := ⟨hg2.os.trans h1.os, hg2.tape.trans h1.tape, hg2.output.trans h1.output, Nat.le_trans h1.size hg2.size, fun q hq hqO => (hg2.block q (Nat.lt_of_lt_of_le hq h1.size) (fun e => by have := (hown q e.symm).1; omega)).trans (h1.block q hq hqO)⟩
          exact h2.setCell (p := ⟨O, d, none⟩) (.inl rfl) v2)
      have hby : ((rowF (l.take k) d).length + 1) * 8 ≤ 140737488355328 := by
        have : (rowF (l.take k) d).length ≤ k := by
          unfold rowF
          rw [List.length_map]
          exact Nat.le_trans (List.length_filter_le _ _) (by rw [List.length_take]; omega)
        omega
      have hbs : base ≤ (W4.alloc (.cells #[Value.int .i64 x.rgt] 3)).drew.heap.size := by omega
      have k0 : (0 : Int) ≤ (k : Int) := Int.natCast_nonneg _
      have k1 : (k : Int) < (n : Int) := by omega
      have d0 : (0 : Int) ≤ (d : Int) := Int.natCast_nonneg _
      have d1 : (d : Int) < (left : Int) := by omega
      clear hT hK hT4 hP4 hE4 hT5 hb4 hbL hb0 hx hv how hown mv ix iy x0 x1 x2 x3 hbw p4 e4 e5 ob pb eb
      subst hE
      go_upto_region 5 with (fail)
      rw [← hW4]
      clear hW4
      refine wp_region_held_drew (S := fun w' => w'.cell? ⟨P, 0, none⟩ = some (.slice (some ⟨O, 0, none⟩) left left) ∧ w'.cell? ⟨wr.heap.size, 0, none⟩ = some (.int .i64 (d : Int)) ∧ w'.cell? ⟨wr.heap.size, 1, none⟩ = some (.int .i64 x.rgt)) (by kernel_rfl) HS0.out (fun hHeld => ?_)
      refine wpAnyH_take (i := 0) (oi := ?o_1) (v := ?v_1) ?h_1 (by kernel_rfl) (by kernel_rfl) (by kernel_rfl) ?q_1 (Or.inl ⟨?w_1, ?y_1⟩) (by assumption) ?_
      case h_1 => (simp only [List.getElem?_toArray, List.getElem?_cons_zero]; rfl)
      case q_1 => exact fun _ _ _ h => h
      case w_1 => rfl
      case y_1 => (intro w hSw; (try dsimp only at hSw); first | (go_simp; done) | (go_simp; with_reducible rfl))
      simp only [Act.put, List.setIfInBounds_toArray, List.set_cons_zero, List.set_cons_succ]
      refine wpAnyH_take (i := 1) (oi := ?o_2) (v := ?v_2) ?h_2 (by kernel_rfl) (by kernel_rfl) (by kernel_rfl) ?q_2 (Or.inl ⟨?w_2, ?y_2⟩) (by assumption) ?_
      case h_2 => (simp only [List.getElem?_toArray, List.getElem?_cons_succ, List.getElem?_cons_zero]; rfl)
      case q_2 => exact fun _ _ _ h => h
      case w_2 => rfl
      case y_2 => (intro w hSw; (try dsimp only at hSw); first | (go_simp; done) | (go_simp; with_reducible rfl))
      simp only [Act.put, List.setIfInBounds_toArray, List.set_cons_zero, List.set_cons_succ]
      refine wpAnyH_take (i := 2) (oi := ?o_3) (v := ?v_3) ?h_3 (by kernel_rfl) (by kernel_rfl) (by kernel_rfl) ?q_3 (Or.inl ⟨?w_3, ?y_3⟩) (by assumption) ?_
      case h_3 => (simp only [List.getElem?_toArray, List.getElem?_cons_succ, List.getElem?_cons_zero]; rfl)
      case q_3 => exact fun _ _ _ h => h
      case w_3 => rfl
      case y_3 => (intro w hSw; (try dsimp only at hSw); first | (go_simp; done) | (go_simp; with_reducible rfl))
      simp only [Act.put, List.setIfInBounds_toArray, List.set_cons_zero, List.set_cons_succ]
      refine wpAnyH_take (i := 3) (oi := ?o_4) (v := ?v_4) ?h_4 (by kernel_rfl) (by kernel_rfl) (by kernel_rfl) ?q_4 (Or.inl ⟨?w_4, ?y_4⟩) (by assumption) ?_
      case h_4 => (simp only [List.getElem?_toArray, List.getElem?_cons_succ, List.getElem?_cons_zero]; rfl)
      case q_4 => exact fun _ _ _ h => h
      case w_4 => rfl
      case y_4 => (intro w hSw; (try dsimp only at hSw); first | (go_simp; done) | (go_simp; with_reducible rfl))
      simp only [Act.put, List.setIfInBounds_toArray, List.set_cons_zero, List.set_cons_succ]
      refine wpAnyH_take (i := 4) (oi := ?o_5) (v := ?v_5) ?h_5 (by kernel_rfl) (by kernel_rfl) (by kernel_rfl) ?q_5 (Or.inl ⟨?w_5, ?y_5⟩) (by assumption) ?_
      case h_5 => (simp only [List.getElem?_toArray, List.getElem?_cons_succ, List.getElem?_cons_zero]; rfl)
      case q_5 => exact fun _ _ _ h => h
      case w_5 => rfl
      case y_5 => (intro w hSw; (try dsimp only at hSw); first | (go_simp; done) | (go_simp; with_reducible rfl))
      simp only [Act.put, List.setIfInBounds_toArray, List.set_cons_zero, List.set_cons_succ]
      refine wpAnyH_take (i := 5) (oi := ?o_6) (v := ?v_6) ?h_6 (by kernel_rfl) (by kernel_rfl) (by kernel_rfl) ?q_6 (Or.inl ⟨?w_6, ?y_6⟩) (by assumption) ?_
      case h_6 => (simp only [List.getElem?_toArray, List.getElem?_cons_succ, List.getElem?_cons_zero]; rfl)
      case q_6 => exact fun _ _ _ h => h
      case w_6 => rfl
      case y_6 => (intro w hSw; (try dsimp only at hSw); first | (go_simp; done) | (go_simp; with_reducible rfl))
      simp only [Act.put, List.setIfInBounds_toArray, List.set_cons_zero, List.set_cons_succ]
      refine wpAnyH_take (i := 6) (oi := ?o_7) (v := ?v_7) ?h_7 (by kernel_rfl) (by kernel_rfl) (by kernel_rfl) ?q_7 (Or.inl ⟨?w_7, ?y_7⟩) (by assumption) ?_
      case h_7 => (simp only [List.getElem?_toArray, List.getElem?_cons_succ, List.getElem?_cons_zero]; rfl)
      case q_7 => exact fun _ _ _ h => h
      case w_7 => rfl
      case y_7 => (intro w hSw; (try dsimp only at hSw); first | (go_simp; done) | (go_simp; with_reducible rfl))
      simp only [Act.put, List.setIfInBounds_toArray, List.set_cons_zero, List.set_cons_succ]
      refine wpAnyH_take (i := 7) (oi := ?o_8) (v := ?v_8) ?h_8 (by kernel_rfl) (by kernel_rfl) (by kernel_rfl) ?q_8 (Or.inl ⟨?w_8, ?y_8⟩) (by assumption) ?_
      case h_8 => (simp only [List.getElem?_toArray, List.getElem?_cons_succ, List.getElem?_cons_zero]; rfl)
      case q_8 => exact fun _ _ _ h => h
      case w_8 => rfl
      case y_8 => (intro w hSw; (try dsimp only at hSw); first | (go_simp; done) | (go_simp; with_reducible rfl))
      simp only [Act.put, List.setIfInBounds_toArray, List.set_cons_zero, List.set_cons_succ]
      refine wpAnyH_take (i := 8) (oi := ?o_9) (v := ?v_9) ?h_9 (by kernel_rfl) (by kernel_rfl) (by kernel_rfl) ?q_9 (Or.inl ⟨?w_9, ?y_9⟩) (by assumption) ?_
      case h_9 => (simp only [List.getElem?_toArray, List.getElem?_cons_succ, List.getElem?_cons_zero]; rfl)
      case q_9 => exact fun _ _ _ h => h
      case w_9 => rfl
      case y_9 => (intro w hSw; (try dsimp only at hSw); first | (go_simp; done) | (go_simp; with_reducible rfl))
      simp only [Act.put, List.setIfInBounds_toArray, List.set_cons_zero, List.set_cons_succ]
      refine wpAnyH_take (i := 9) (oi := ?o_10) (v := ?v_10) ?h_10 (by kernel_rfl) (by kernel_rfl) (by kernel_rfl) ?q_10 (Or.inl ⟨?w_10, ?y_10⟩) (by assumption) ?_
      case h_10 => (simp only [List.getElem?_toArray, List.getElem?_cons_succ, List.getElem?_cons_zero]; rfl)
      case q_10 => exact fun _ _ _ h => h
      case w_10 => rfl
      case y_10 => (intro w hSw; (try dsimp only at hSw); first | (go_simp; done) | (go_simp; with_reducible rfl))
      simp only [Act.put, List.setIfInBounds_toArray, List.set_cons_zero, List.set_cons_succ]
      refine wpAnyH_take (i := 10) (oi := ?o_11) (v := ?v_11) ?h_11 (by kernel_rfl) (by kernel_rfl) (by kernel_rfl) ?q_11 (Or.inl ⟨?w_11, ?y_11⟩) (by assumption) ?_
      case h_11 => (simp only [List.getElem?_toArray, List.getElem?_cons_succ, List.getElem?_cons_zero]; rfl)
      case q_11 => exact fun _ _ _ h => h
      case w_11 => rfl
      case y_11 => (intro w hSw; (try dsimp only at hSw); first | (go_simp; done) | (go_simp; with_reducible rfl))
      simp only [Act.put, List.setIfInBounds_toArray, List.set_cons_zero, List.set_cons_succ]
      refine wpAnyH_take (i := 11) (oi := ?o_12) (v := ?v_12) ?h_12 (by kernel_rfl) (by kernel_rfl) (by kernel_rfl) ?q_12 (Or.inl ⟨?w_12, ?y_12⟩) (by assumption) ?_
      case h_12 => (simp only [List.getElem?_toArray, List.getElem?_cons_succ, List.getElem?_cons_zero]; rfl)
      case q_12 => exact fun _ _ _ h => h
      case w_12 => rfl
      case y_12 => (intro w hSw; (try dsimp only at hSw); first | (go_simp; done) | (go_simp; with_reducible rfl))
      simp only [Act.put, List.setIfInBounds_toArray, List.set_cons_zero, List.set_cons_succ]
      refine wpAnyH_take (i := 12) (oi := ?o_13) (v := ?v_13) ?h_13 (by kernel_rfl) (by kernel_rfl) (by kernel_rfl) ?q_13 (Or.inl ⟨?w_13, ?y_13⟩) (by assumption) ?_
      case h_13 => (simp only [List.getElem?_toArray, List.getElem?_cons_succ, List.getElem?_cons_zero]; rfl)
      case q_13 => exact fun _ _ _ h => h
      case w_13 => rfl
      case y_13 => (intro w hSw; (try dsimp only at hSw); first | (go_simp; done) | (go_simp; with_reducible rfl))
      simp only [Act.put, List.setIfInBounds_toArray, List.set_cons_zero, List.set_cons_succ]
      refine wpAnyH_take (i := 14) (oi := ?o_14) (v := ?v_14) ?h_14 (by kernel_rfl) (by kernel_rfl) (by kernel_rfl) ?q_14 (Or.inl ⟨?w_14, ?y_14⟩) (by assumption) ?_
      case h_14 => (simp only [List.getElem?_toArray, List.getElem?_cons_succ, List.getElem?_cons_zero]; rfl)
      case q_14 => exact fun _ _ _ h => h
      case w_14 => rfl
      case y_14 => (intro w hSw; (try dsimp only at hSw); first | (go_simp; done) | (go_simp; with_reducible rfl))
      simp only [Act.put, List.setIfInBounds_toArray, List.set_cons_zero, List.set_cons_succ]
      refine wpAnyH_take (i := 15) (oi := ?o_15) (v := ?v_15) ?h_15 (by kernel_rfl) (by kernel_rfl) (by kernel_rfl) ?q_15 (Or.inl ⟨?w_15, ?y_15⟩) (by assumption) ?_
      case h_15 => (simp only [List.getElem?_toArray, List.getElem?_cons_succ, List.getElem?_cons_zero]; rfl)
      case q_15 => exact fun _ _ _ h => h
      case w_15 => rfl
      case y_15 => (intro w hSw; (try dsimp only at hSw); first | (go_simp; done) | (go_simp; with_reducible rfl))
      simp only [Act.put, List.setIfInBounds_toArray, List.set_cons_zero, List.set_cons_succ]
      refine wpAnyH_ready (rs := [13, 16]) (by kernel_rfl) (by simp) ?_
      refine AllReadyH.cons (o := ?o_16) ?h_16 (fun K hK => ?_) ?m_16
      case h_16 => (simp only [List.getElem?_toArray, List.getElem?_cons_succ, List.getElem?_cons_zero]; rfl)
      case m_16 =>
        refine AllReadyH.cons (o := ?o_17) ?h_17 (fun K hK => ?_) AllReadyH.nil
        case h_17 => (simp only [List.getElem?_toArray, List.getElem?_cons_succ, List.getElem?_cons_zero]; rfl)
        go_simp
        refine hK.out _ _ ?_ (fun hHeld => ?_)
        · exact HS1.out
        clear hK K
        try simp only [Act.put, List.setIfInBounds_toArray, List.set_cons_zero, List.set_cons_succ]
        refine wpAnyH_ready (rs := [13]) (by kernel_rfl) (by simp) ?_
        refine AllReadyH.cons (o := ?o_18) ?h_18 (fun K hK => ?_) AllReadyH.nil
        case h_18 => (simp only [List.getElem?_toArray, List.getElem?_cons_succ, List.getElem?_cons_zero]; rfl)
        go_simp
        refine hK.out _ _ ?_ (fun hHeld => ?_)
        · exact HS1.out
        clear hK K
        try simp only [Act.put, List.setIfInBounds_toArray, List.set_cons_zero, List.set_cons_succ]
        refine wpAnyH_ready (rs := [17]) (by kernel_rfl) (by simp) ?_
        refine AllReadyH.cons (o := ?o_19) ?h_19 (fun K hK => ?_) AllReadyH.nil
        case h_19 => (simp only [List.getElem?_toArray, List.getElem?_cons_succ, List.getElem?_cons_zero]; rfl)
        refine step_app (t := 47) (e := 3) (bytes := 8) (base := base) (c := intC) (l := rowF (l.take k) d) (xs := xs) (l2 := [x.rgt]) (S := All) rfl (.tmp 39) (.tmp 42) rfl int_elem intC_good rfl rfl HOW.out HLI.out (fun _ _ hc => hc) hby (by omega) hbs ?_
        intro v2 w2 xs2 hown2 hg2 hat2
        obtain ⟨A8, n8, c8, rfl, _⟩ := hown2.sl intC_good
        obtain ⟨hS2, ho2, hof2⟩ := HGR.out w2 hg2
        refine hK.out _ _ ?_ (fun hHeld => ?_)
        · exact hS2
        clear hK K
        try simp only [Act.put, List.setIfInBounds_toArray, List.set_cons_zero, List.set_cons_succ]
        refine wpAnyH_take (i := 18) (oi := ?o_20) (v := ?v_20) ?h_20 (by kernel_rfl) (by kernel_rfl) (by kernel_rfl) ?q_20 (Or.inl ⟨?w_20, ?y_20⟩) (by assumption) ?_
        case h_20 => (simp only [List.getElem?_toArray, List.getElem?_cons_succ, List.getElem?_cons_zero]; rfl)
        case q_20 => exact fun _ _ _ h => h
        case w_20 => rfl
        case y_20 => (intro w hSw; (try dsimp only at hSw); first | (go_simp; done) | (go_simp; with_reducible rfl))
        simp only [Act.put, List.setIfInBounds_toArray, List.set_cons_zero, List.set_cons_succ]
        refine wpAnyH_ready (rs := [19]) (by kernel_rfl) (by simp) ?_
        refine AllReadyH.cons (o := ?o_21) ?h_21 (fun K hK => ?_) AllReadyH.nil
        case h_21 => (simp only [List.getElem?_toArray, List.getElem?_cons_succ, List.getElem?_cons_zero]; rfl)
        go_simp
        refine hK.out _ _ ?_ (fun hHeld => ?_)
        · exact HST.out w2 (.slice A8 n8 c8) hg2
        clear hK K
        try simp only [Act.put, List.setIfInBounds_toArray, List.set_cons_zero, List.set_cons_succ]
        refine wpAnyH_done (by kernel_rfl) ?_ _
        go_wp2_with fail
        go_roundg (n - (k + 1))
        case measure => omega
        case rel => exact ⟨k + 1, vs.set d (.slice A8 n8 c8), by omega, by omega, by go_num, HPOST.out w2 (.slice A8 n8 c8) xs2 hown2 hg2 hat2⟩
      go_simp
      refine hK.out _ _ ?_ (fun hHeld => ?_)
      · exact HS0.out
      clear hK K
      try simp only [Act.put, List.setIfInBounds_toArray, List.set_cons_zero, List.set_cons_succ]
      refine wpAnyH_ready (rs := [16]) (by kernel_rfl) (by simp) ?_
      refine AllReadyH.cons (o := ?o_22) ?h_22 (fun K hK => ?_) AllReadyH.nil
      case h_22 => (simp only [List.getElem?_toArray, List.getElem?_cons_succ, List.getElem?_cons_zero]; rfl)
      go_simp
      refine hK.out _ _ ?_ (fun hHeld => ?_)
      · exact HS1.out
      clear hK K
      try simp only [Act.put, List.setIfInBounds_toArray, List.set_cons_zero, List.set_cons_succ]
      refine wpAnyH_ready (rs := [17]) (by kernel_rfl) (by simp) ?_
      refine AllReadyH.cons (o := ?o_23) ?h_23 (fun K hK => ?_) AllReadyH.nil
      case h_23 => (simp only [List.getElem?_toArray, List.getElem?_cons_succ, List.getElem?_cons_zero]; rfl)
      refine step_app (t := 47) (e := 3) (bytes := 8) (base := base) (c := intC) (l := rowF (l.take k) d) (xs := xs) (l2 := [x.rgt]) (S := All) rfl (.tmp 39) (.tmp 42) rfl int_elem intC_good rfl rfl HOW.out HLI.out (fun _ _ hc => hc) hby (by omega) hbs ?_
      intro v2 w2 xs2 hown2 hg2 hat2
      obtain ⟨A8, n8, c8, rfl, _⟩ := hown2.sl intC_good
      obtain ⟨hS2, ho2, hof2⟩ := HGR.out w2 hg2
      refine hK.out _ _ ?_ (fun hHeld => ?_)
      · exact hS2
      clear hK K
      try simp only [Act.put, List.setIfInBounds_toArray, List.set_cons_zero, List.set_cons_succ]
      refine wpAnyH_take (i := 18) (oi := ?o_24) (v := ?v_24) ?h_24 (by kernel_rfl) (by kernel_rfl) (by kernel_rfl) ?q_24 (Or.inl ⟨?w_24, ?y_24⟩) (by assumption) ?_
      case h_24 => (simp only [List.getElem?_toArray, List.getElem?_cons_succ, List.getElem?_cons_zero]; rfl)
      case q_24 => exact fun _ _ _ h => h
      case w_24 => rfl
      case y_24 => (intro w hSw; (try dsimp only at hSw); first | (go_simp; done) | (go_simp; with_reducible rfl))
      simp only [Act.put, List.setIfInBounds_toArray, List.set_cons_zero, List.set_cons_succ]
      refine wpAnyH_ready (rs := [19]) (by kernel_rfl) (by simp) ?_
      refine AllReadyH.cons (o := ?o_25) ?h_25 (fun K hK => ?_) AllReadyH.nil
      case h_25 => (simp only [List.getElem?_toArray, List.getElem?_cons_succ, List.getElem?_cons_zero]; rfl)
      go_simp
      refine hK.out _ _ ?_ (fun hHeld => ?_)
      · exact HST.out w2 (.slice A8 n8 c8) hg2
      clear hK K
      try simp only [Act.put, List.setIfInBounds_toArray, List.set_cons_zero, List.set_cons_succ]
      refine wpAnyH_done (by kernel_rfl) ?_ _
      go_wp2_with fail
      go_roundg (n - (k + 1))
      case measure => omega
      case rel => exact ⟨k + 1, vs.set d (.slice A8 n8 c8), by omega, by omega, by go_num, HPOST.out w2 (.slice A8 n8 c8) xs2 hown2 hg2 hat2⟩
    · obtain rfl : k = n := by omega
      obtain ⟨W2, hW2⟩ : ∃ W2, W2 = wr := ⟨_, rfl⟩
      subst hW2
      have hws := hK.size
      have hbw : Below w.heap.size w W2 := HB.out.trans (hK.below HB.out.size (fun q hq e => by omega))
      rw [show l.take k = l from List.take_of_length_le (by omega)] at hT
      obtain ⟨N, hN⟩ : ∃ N, N = W2.heap.size := ⟨_, rfl⟩
      have hSL2 := hT.sl (by omega) (S := fun b => b ≠ G ∧ b ≠ P ∧ b < N) ⟨fun e => hGO e.symm, fun e => hPO e.symm, by omega⟩ (fun b hb1 hb2 => ⟨by omega, by omega, by omega⟩)
      rw [hvl] at hSL2
      have HST := Lib.hid (show StAt W2 P G N (some ⟨O, 0, none⟩) left left right (rowsOf left l) (List.replicate right (-1)) from
        ⟨hSL2, ⟨_, HP.out.kept hK hPO⟩, Blk.kept HRG.out hK hGO, by simp, hPG, by omega, by omega, by omega⟩)
      have HBW := Lib.hid hbw
      have hNw : w.heap.size ≤ N := by have := HB.out.size; omega
      have HRG2 := Lib.hid (rgts_rows HG.out)
      have HRB := Lib.hid (rows_bd HG.out)
      clear hT hK hSL2 hvl hbw
      go_wp2_with fail
      go_loopg [47, 11] left (fun gk i nv wr => ∃ (k : Nat) (has : List Int) (no : List Nat) (D : Nat → Prop) (xs : List Value), k ≤ left ∧ left - k ≤ gk ∧ i = .int .i64 k ∧ Own intC 1 3 wr N nv (no.map Int.ofNat) xs ∧ StAt wr P G N (some ⟨O, 0, none⟩) left left right (rowsOf left l) has ∧
        Asked (nbrs l) right (fun x => x < k) has no D ∧ no.length ≤ k ∧ Below w.heap.size w wr)
      case atStart => exact ⟨0, _, [], fun _ => False, [], Nat.zero_le _, by omega, rfl, Own.nil _ _ _ _ _, HST.out, Asked.start _ _ _ (fun x hx => by omega), Nat.le_refl _, HBW.out⟩
      case round =>
        obtain ⟨i, has, no, D, xs, hi, hgi, rfl, hown, hSt, hAs, hno, hbw⟩ := hrel
        have HAS := Lib.hid hAs
        have HOW := Lib.hid hown
        have hNr := hSt.le
        have hbs := hbw.size
        by_cases hlt2 : i < left
        · obtain ⟨W3, hW3⟩ : ∃ W3, W3 = wr := ⟨_, rfl⟩
          subst hW3
          have HFG := Lib.hid (forget_any P G N (some ⟨O, 0, none⟩) left left right (rowsOf left l) has W3 hSt hr)
          have HSt := Lib.hid hSt
          have HBR := Lib.hid hbw
          clear hown hSt hAs hbw
          go_wp2_with fail
          refine HFG.out.mono ?_
          rintro e w5 ⟨rfl, hM5, hS5, hK5⟩
          have hPn := hS5.pn
          have hGn := hS5.gn
          have hcall := find_any P G W3.heap.size (some ⟨O, 0, none⟩) left left right (rowsOf left l) (by omega) hPG (by omega) HRB.out _ has (List.replicate right false) i w5 hM5 hlt2 (Nat.le_refl _) (fun r hr => (HAS.out.edge r hr).imp id (fun ⟨d, e, h1, _⟩ => ⟨d, e, by omega⟩)) (by omega)
          rw [HRG2.out] at hcall
          have HCALL := Lib.hid hcall
          have HS5 := Lib.hid hS5
          have HK5 := Lib.hid hK5
          clear hM5 hS5 hK5 hcall
          go_wp2_with fail
          refine HCALL.out.mono ?_
          rintro e w6 ⟨b, has', met', rfl, hA6, hK6, hT6, hF6⟩
          have hS6 := HS5.out.found (by omega) hK6 hA6
          have hK7 : Kept (fun q => q = P ∨ q = G) W3 w6 := ((HK5.out.mono (T := fun q => q = P ∨ q = G ∨ q = W3.heap.size) (fun q _ e => .inl e)).trans (hK6.mono (fun q _ e => .inr e))).mono (fun q hq e => by
            rcases e with e | e | e
            · exact .inl e
            · exact .inr e
            · omega)
          have hO6 : Own intC 1 3 w6 N _ (no.map Int.ofNat) xs := HOW.out.keep intC_good (fun q hq hql => hK7.block q hql (by rintro (e | e) <;> omega))
          have hb6 := HBR.out.trans (hK7.below (B := w.heap.size) (by omega) (fun q hq e => by rcases e with e | e <;> omega))
          have HAX := Lib.hid (show (fun x => x < i ∨ x = i) = (fun x => x < i + 1) from by funext x; exact propext (by omega))
          have hs6 := hK7.size
          cases b
          · obtain ⟨rfl, h6⟩ := hF6 rfl
            have HN := HAS.out.nobody (fun d r hr => (nbrs_lt HG.out d r hr).2) (Nat.lt_irrefl i) h6
            rw [HAX.out] at HN
            have HN := Lib.hid HN
            obtain ⟨A7, n7, c7, rfl, _⟩ := hO6.sl intC_good
            have hOq := Lib.hid (hO6.bel (bel1 w6 (.cells #[.int .i64 (i : Int)] 3)))
            have hB := hb6.alloc hb6.size (.cells #[.int .i64 (i : Int)] 3)
            have HS6 := Lib.hid (hS6.bel (bel1 w6 (.cells #[.int .i64 (i : Int)] 3)))
            have hsq := hB.size
            have HB7 := Lib.hid hB
            have hnb : ((no.map Int.ofNat).length + 1) * 8 ≤ 140737488355328 := by rw [List.length_map]; omega
            have hNq : N ≤ (w6.alloc (.cells #[.int .i64 (i : Int)] 3)).heap.size := by simp; omega
            have HPG2 := Lib.hid (show ∀ w' : World, (w6.alloc (.cells #[.int .i64 (i : Int)] 3)).grownBy w' (Value.slice A7 n7 c7).ownBlock → StAt w' P G N (some ⟨O, 0, none⟩) left left right (rowsOf left l) has' from fun w' hg' => by
              have hold : ∀ q, q < N → w'.heap[q]? = (w6.alloc (.cells #[.int .i64 (i : Int)] 3)).heap[q]? := fun q hq => hg'.block q (by omega) (fun e => by have := (hOq.out.lt q e.symm).1; omega)
              obtain ⟨z, hz⟩ := HS6.out.st
              exact ⟨HS6.out.sl.keep ints_good (by omega) (fun q hq _ => ⟨hold q hq.2.2, hq⟩), ⟨z, (hold P hPn).trans hz⟩, (hold G hGn).trans HS6.out.row, HS6.out.lh, hPG, hPn, hGn, Nat.le_trans hNq hg'.size⟩)
            clear hO6 hb6 hB hA6 hK6 hT6 hF6 h6 hS6 hK7
            go_wp2_with (at_builtin; refine list_app (t := 47) (e := 3) (bytes := 8) rfl (.tmp 56) (.tmp 58) rfl int_elem intC_good rfl hOq.out rfl (sl_int _ All (i : Int) 3 (.of (by omega) (by omega)) trivial) (fun _ _ hc => hc) hnb (by omega) hNq ?_; intro v' w' xs' hown' hg' _; have HOW2 := Lib.hid hown'; have HBE := Lib.hid (HB7.out.grown hg' hsq (fun j hj => Nat.le_trans hNw (hOq.out.lt j hj).1)); have HSX := Lib.hid (HPG2.out w' hg'); clear hown' hg')
            go_roundg (left - (i + 1))
            case measure => omega
            case rel => exact ⟨i + 1, has', no ++ [i], _, xs', by omega, by omega, by go_num, by rw [List.map_append]; exact HOW2.out, HSX.out, HN.out, by rw [List.length_append, List.length_singleton]; omega, HBE.out⟩
          · have HN := HAS.out.ok (Nat.lt_irrefl i) (hT6 rfl)
            rw [HAX.out] at HN
            have HN := Lib.hid HN
            have HO6 := Lib.hid hO6
            have HS6 := Lib.hid hS6
            have HB6 := Lib.hid hb6
            clear hO6 hb6 hA6 hK6 hT6 hF6 hS6 hK7
            go_wp2_with fail
            go_roundg (left - (i + 1))
            case measure => omega
            case rel => exact ⟨i + 1, has', no, D, xs, by omega, by omega, by go_num, HO6.out, HS6.out, HN.out, by omega, HB6.out⟩
        · obtain rfl : i = left := by omega
          have HSt := Lib.hid hSt
          have HBR := Lib.hid hbw
          clear hown hSt hAs hbw
          go_wp2_with fail
          go_ret2
          exact ⟨P, G, N, O, _, has, no, D, xs, rfl, HSt.out, HOW.out, HAS.out, hP0, hG0, hNw, HBR.out⟩
end Go.Proofs.YtoilcdgpeilgaaaGreat
namespace Go.Proofs.YtoilcdgpeilgaaaGreat
open Go.RowKit Go.Shelf
def inE (left right : Int) (x : Edg) : Bool := betB x.lft 0 (left - 1) && betB x.rgt 0 (right - 1)
def edgE (left right : Int) (l : List Edg) (i : Nat) : Int := if inE left right (l.getD i default) = false then 3 else if (l.take i).contains (l.getD i default) then 6 else 0
def sidesB (left right : Int) : Bool := betB left 0 16 && betB right 0 16
def grE (left right : Int) (l : List Edg) : Int := if sidesB left right = false then 3 else firstE (edgE left right l) l.length
end Go.Proofs.YtoilcdgpeilgaaaGreat
namespace Go.Proofs.YtoilcdgpeilgaaaGreat
open Go.RowKit Go.Shelf
def IsSize (left right : Nat) (l : List Edg) (k : Nat) : Prop := ∃ (has : List Int) (no : List Nat) (D : Nat → Prop), Asked (nbrs l) right (fun x => x < left) has no D ∧ k + no.length = left
section
variable {left right : Nat} {l : List Edg} {k k2 : Nat}
theorem IsSize.most (h : IsSize left right l k) (hg : OkGr left right l) {M : List (Nat × Nat)} (hM : IsM (nbrs l) M) : M.length ≤ k := by
  obtain ⟨has, no, D, h, e⟩ := h
  have := h.most (nbrs_lt hg) hM
  omega
theorem IsSize.le (h : IsSize left right l k) : k ≤ left := by
  obtain ⟨has, no, D, h, e⟩ := h
  omega
end
theorem IsSize.right {left right : Nat} {l : List Edg} {k : Nat} (h : IsSize left right l k) (hg : OkGr left right l) : k ≤ right := by
  obtain ⟨has, no, D, h, e⟩ := h
  have hb := h.best (nbrs_lt hg)
  have h1 := len_sub _ (List.range right) h.isM.rights (fun v hv => by
    obtain ⟨p, hp, rfl⟩ := List.mem_map.1 hv
    have := (mOf_mem.1 hp).1
    rw [h.len] at this
    exact List.mem_range.2 this)
  rw [List.length_map, List.length_range] at h1
  omega
theorem Best.right {left right : Nat} {l ml : List Edg} (h : Best left right l ml) (hg : OkGr left right l) : ml.length ≤ right := by
  have hM := h.isM hg
  have h1 := len_sub _ (List.range right) hM.rights (fun v hv => by
    obtain ⟨p, hp, rfl⟩ := List.mem_map.1 hv
    exact List.mem_range.2 (nbrs_lt hg _ _ (hM.edge p hp)).2)
  rwa [List.length_map, List.length_map, List.length_range] at h1
theorem IsM.some {N N' : Nat → List Nat} {M M' : List (Nat × Nat)} (h : IsM N M) (hs : M'.Sublist M) (he : ∀ p ∈ M', p.2 ∈ N' p.1) : IsM N' M' :=
  ⟨he, List.Nodup.sublist (hs.map _) h.lefts, List.Nodup.sublist (hs.map _) h.rights⟩
theorem Best.le_of {left right left2 right2 : Nat} {l ml l2 ml2 : List Edg} (h : Best left right l ml) (h2 : Best left2 right2 l2 ml2) (hg : OkGr left right l) (hs : ∀ x ∈ l, x ∈ l2) : ml.length ≤ ml2.length := by
  have hM := h.isM hg
  have := h2.most _ (hM.some (List.Sublist.refl _) (fun p hp => nbrs_mem (hs _ (nbrs_edge hg (hM.edge p hp))) rfl rfl))
  rwa [List.length_map] at this
theorem Best.one {left right left2 right2 : Nat} {l ml ml2 : List Edg} {x : Edg} (h : Best left right l ml) (h2 : Best left2 right2 (l ++ [x]) ml2) (hg : OkGr left right l) (hg2 : OkGr left2 right2 (l ++ [x])) : ml2.length = ml.length ∨ ml2.length = ml.length + 1 := by
  have h1 := h.le_of h2 hg (fun y hy => List.mem_append_left _ hy)
  have hM := h2.isM hg2
  obtain ⟨M, hMe⟩ : ∃ M, M = ml2.map (fun x => (x.lft.toNat, x.rgt.toNat)) := ⟨_, rfl⟩
  rw [← hMe] at hM
  have hnd : M.Nodup := nodup_of_map hM.lefts
  obtain ⟨p, hp⟩ : ∃ p, p = (x.lft.toNat, x.rgt.toNat) := ⟨_, rfl⟩
  have hE := h.most (M.erase p) (hM.some List.erase_sublist fun q hq => by
    have hq1 := (List.Nodup.mem_erase_iff hnd).1 hq
    have he := nbrs_edge hg2 (hM.edge q hq1.2)
    rcases List.mem_append.1 he with he | he
    · exact nbrs_mem he rfl rfl
    · simp only [List.mem_singleton] at he
      exact absurd (by rw [hp, ← he]; simp) hq1.1)
  have hl : M.length ≤ (M.erase p).length + 1 := by
    rw [List.length_erase]
    split <;> omega
  have hml : M.length = ml2.length := by rw [hMe, List.length_map]
  omega
theorem firstE_none {f : Nat → Int} : ∀ {n : Nat}, (∀ i, i < n → f i = 0) → firstE f n = 0
  | 0, _ => rfl
  | n + 1, h => firstE_succ (firstE_none fun i hi => h i (by omega)) (h n (by omega))
def MostOk (left right : Int) (l ml : List Edg) : Prop := (grE left right l ≠ 0 → ml = []) ∧ ∀ a b : Nat, left = a → right = b → grE left right l = 0 → Best a b l ml ∧ IsSize a b l ml.length
def LackOk (left right : Int) (l : List Edg) (sm : List Int) : Prop := (grE left right l ≠ 0 → sm = []) ∧ ∀ a b : Nat, left = a → right = b → grE left right l = 0 → ∃ k, IsSize a b l k ∧ ((sm = [] ∧ k = a) ∨ (k < a ∧ Lacks a l sm))
theorem MostOk.none {left right : Int} {l : List Edg} (h : grE left right l ≠ 0) : MostOk left right l [] := ⟨fun _ => rfl, fun _ _ _ _ h0 => absurd h0 h⟩
theorem LackOk.none {left right : Int} {l : List Edg} (h : grE left right l ≠ 0) : LackOk left right l [] := ⟨fun _ => rfl, fun _ _ _ _ h0 => absurd h0 h⟩
theorem MostOk.of {a b : Nat} {l ml : List Edg} (h0 : grE a b l = 0) (h : Best a b l ml) (hs : IsSize a b l ml.length) : MostOk a b l ml := ⟨fun h => absurd h0 h, fun a' b' ha hb _ => by
  obtain rfl := Int.ofNat.inj ha
  obtain rfl := Int.ofNat.inj hb
  exact ⟨h, hs⟩⟩
theorem LackOk.of {a b : Nat} {l : List Edg} {sm : List Int} (h0 : grE a b l = 0) {k : Nat} (hs : IsSize a b l k) (h : (sm = [] ∧ k = a) ∨ (k < a ∧ Lacks a l sm)) : LackOk a b l sm := ⟨fun h => absurd h0 h, fun a' b' ha hb _ => by
  obtain rfl := Int.ofNat.inj ha
  obtain rfl := Int.ofNat.inj hb
  exact ⟨k, hs, h⟩⟩
end Go.Proofs.YtoilcdgpeilgaaaGreat
namespace Go.Proofs.YtoilcdgpeilgaaaGreat
open Go.RowKit Go.Shelf
theorem edg_elem : ElemOf Tryz.prog 65 115 2 16 := .mk' Tryz.underlying65 (z := .agg #[.int .i64 0, .int .i64 0]) (by kernel_rfl) rfl (by omega)
theorem sl_edg (w : World) (S : Nat → Prop) (a b : Int) (t : TypeId) (ha : InI a) (hb : InI b) (hS : S w.heap.size) : Sl edgC 2 (w.alloc (.cells #[.int .i64 a, .int .i64 b] t)) S (some ⟨w.heap.size, 0, none⟩) 1 1 [⟨a, b⟩] :=
  Sl.lit1 w S t (⟨a, b⟩ : Edg) [.int .i64 a, .int .i64 b] ⟨rfl, ha, hb⟩ hS
end Go.Proofs.YtoilcdgpeilgaaaGreat
