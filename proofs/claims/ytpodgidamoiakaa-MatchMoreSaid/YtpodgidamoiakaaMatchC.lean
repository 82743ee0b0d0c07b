/-
  Matchings: the reference Size.
-/
import Derived.Test.YtpodgidamoiakaaMatchB
import Derived.Test.YtpodgidamoiakaaStepApp
import Derived.KernelRfl
import Derived.Deep.CutBlock
namespace Go.Proofs.Ytpodgidamoiakaa
open Go.RowKit Go.Shelf

theorem mkB0 (W : World) : (Instr.makeSlice 80 (.int .i64 0) (.int .i64 0)).run Try.prog W = .ok (.slice (some ⟨W.heap.size, 0, none⟩) 0 0) (W.alloc (.cells (Array.replicate 0 (Value.bool false)) 4)) := by kernel_rfl
theorem mkB1 (W : World) : (Instr.makeSlice 80 (.int .i64 1) (.int .i64 1)).run Try.prog W = .ok (.slice (some ⟨W.heap.size, 0, none⟩) 1 1) (W.alloc (.cells (Array.replicate 1 (Value.bool false)) 4)) := by kernel_rfl
theorem mkB2 (W : World) : (Instr.makeSlice 80 (.int .i64 2) (.int .i64 2)).run Try.prog W = .ok (.slice (some ⟨W.heap.size, 0, none⟩) 2 2) (W.alloc (.cells (Array.replicate 2 (Value.bool false)) 4)) := by kernel_rfl
theorem mkB3 (W : World) : (Instr.makeSlice 80 (.int .i64 3) (.int .i64 3)).run Try.prog W = .ok (.slice (some ⟨W.heap.size, 0, none⟩) 3 3) (W.alloc (.cells (Array.replicate 3 (Value.bool false)) 4)) := by kernel_rfl
theorem mkB4 (W : World) : (Instr.makeSlice 80 (.int .i64 4) (.int .i64 4)).run Try.prog W = .ok (.slice (some ⟨W.heap.size, 0, none⟩) 4 4) (W.alloc (.cells (Array.replicate 4 (Value.bool false)) 4)) := by kernel_rfl
theorem mkB5 (W : World) : (Instr.makeSlice 80 (.int .i64 5) (.int .i64 5)).run Try.prog W = .ok (.slice (some ⟨W.heap.size, 0, none⟩) 5 5) (W.alloc (.cells (Array.replicate 5 (Value.bool false)) 4)) := by kernel_rfl
theorem mkB6 (W : World) : (Instr.makeSlice 80 (.int .i64 6) (.int .i64 6)).run Try.prog W = .ok (.slice (some ⟨W.heap.size, 0, none⟩) 6 6) (W.alloc (.cells (Array.replicate 6 (Value.bool false)) 4)) := by kernel_rfl
theorem mkB7 (W : World) : (Instr.makeSlice 80 (.int .i64 7) (.int .i64 7)).run Try.prog W = .ok (.slice (some ⟨W.heap.size, 0, none⟩) 7 7) (W.alloc (.cells (Array.replicate 7 (Value.bool false)) 4)) := by kernel_rfl
theorem mkB8 (W : World) : (Instr.makeSlice 80 (.int .i64 8) (.int .i64 8)).run Try.prog W = .ok (.slice (some ⟨W.heap.size, 0, none⟩) 8 8) (W.alloc (.cells (Array.replicate 8 (Value.bool false)) 4)) := by kernel_rfl
theorem mkB9 (W : World) : (Instr.makeSlice 80 (.int .i64 9) (.int .i64 9)).run Try.prog W = .ok (.slice (some ⟨W.heap.size, 0, none⟩) 9 9) (W.alloc (.cells (Array.replicate 9 (Value.bool false)) 4)) := by kernel_rfl
theorem mkB10 (W : World) : (Instr.makeSlice 80 (.int .i64 10) (.int .i64 10)).run Try.prog W = .ok (.slice (some ⟨W.heap.size, 0, none⟩) 10 10) (W.alloc (.cells (Array.replicate 10 (Value.bool false)) 4)) := by kernel_rfl
theorem mkB11 (W : World) : (Instr.makeSlice 80 (.int .i64 11) (.int .i64 11)).run Try.prog W = .ok (.slice (some ⟨W.heap.size, 0, none⟩) 11 11) (W.alloc (.cells (Array.replicate 11 (Value.bool false)) 4)) := by kernel_rfl
theorem mkB12 (W : World) : (Instr.makeSlice 80 (.int .i64 12) (.int .i64 12)).run Try.prog W = .ok (.slice (some ⟨W.heap.size, 0, none⟩) 12 12) (W.alloc (.cells (Array.replicate 12 (Value.bool false)) 4)) := by kernel_rfl
theorem mkB13 (W : World) : (Instr.makeSlice 80 (.int .i64 13) (.int .i64 13)).run Try.prog W = .ok (.slice (some ⟨W.heap.size, 0, none⟩) 13 13) (W.alloc (.cells (Array.replicate 13 (Value.bool false)) 4)) := by kernel_rfl
theorem mkB14 (W : World) : (Instr.makeSlice 80 (.int .i64 14) (.int .i64 14)).run Try.prog W = .ok (.slice (some ⟨W.heap.size, 0, none⟩) 14 14) (W.alloc (.cells (Array.replicate 14 (Value.bool false)) 4)) := by kernel_rfl
theorem mkB15 (W : World) : (Instr.makeSlice 80 (.int .i64 15) (.int .i64 15)).run Try.prog W = .ok (.slice (some ⟨W.heap.size, 0, none⟩) 15 15) (W.alloc (.cells (Array.replicate 15 (Value.bool false)) 4)) := by kernel_rfl
theorem mkB16 (W : World) : (Instr.makeSlice 80 (.int .i64 16) (.int .i64 16)).run Try.prog W = .ok (.slice (some ⟨W.heap.size, 0, none⟩) 16 16) (W.alloc (.cells (Array.replicate 16 (Value.bool false)) 4)) := by kernel_rfl
theorem mkB (n : Nat) (hn : n ≤ 16) (W : World) : (Instr.makeSlice 80 (.int .i64 n) (.int .i64 n)).run Try.prog W = .ok (.slice (some ⟨W.heap.size, 0, none⟩) n n) (W.alloc (.cells (Array.replicate n (Value.bool false)) 4)) := by
  have h : n = 0 ∨ n = 1 ∨ n = 2 ∨ n = 3 ∨ n = 4 ∨ n = 5 ∨ n = 6 ∨ n = 7 ∨ n = 8 ∨ n = 9 ∨ n = 10 ∨ n = 11 ∨ n = 12 ∨ n = 13 ∨ n = 14 ∨ n = 15 ∨ n = 16 := by omega
  rcases h with rfl | rfl | rfl | rfl | rfl | rfl | rfl | rfl | rfl | rfl | rfl | rfl | rfl | rfl | rfl | rfl | rfl
  · exact mkB0 W
  · exact mkB1 W
  · exact mkB2 W
  · exact mkB3 W
  · exact mkB4 W
  · exact mkB5 W
  · exact mkB6 W
  · exact mkB7 W
  · exact mkB8 W
  · exact mkB9 W
  · exact mkB10 W
  · exact mkB11 W
  · exact mkB12 W
  · exact mkB13 W
  · exact mkB14 W
  · exact mkB15 W
  · exact mkB16 W

theorem rowB_new {w : World} {g n : Nat} (h : Blk w g (Array.replicate n (Value.bool false)) 4) : RowB w g (List.replicate n false) := by
  unfold RowB
  rw [show ((List.replicate n false).map Value.bool).toArray = Array.replicate n (Value.bool false) by simp]
  exact h
theorem Own.celI {w : World} {e : TypeId} {base g n cap : Nat} {m : List Int} {xs : List Value} (h : Own intC 1 e w base (.slice (some ⟨g, 0, none⟩) n cap) m xs) : CelI w g m := fun i hi => by
  obtain ⟨cs, hc, hl, hcell, hfz⟩ := h.cells (List.getElem?_eq_getElem hi)
  obtain ⟨rfl, _⟩ := hc
  refine ⟨?_, hfz i⟩
  have := hcell 0 _ rfl
  rw [getD_at hi]
  simpa using this
/-- A graph that is right. -/
def OkGr (left right : Nat) (l : List Edg) : Prop := ∀ x ∈ l, 0 ≤ x.lft ∧ x.lft < left ∧ 0 ≤ x.rgt ∧ x.rgt < right
theorem nbrs_lt {left right : Nat} {l : List Edg} (h : OkGr left right l) (d r : Nat) (hr : r ∈ nbrs l d) : d < left ∧ r < right := by
  unfold nbrs at hr
  obtain ⟨x, hx, rfl⟩ := List.mem_map.1 hr
  obtain ⟨hx1, hx2⟩ := List.mem_filter.1 hx
  have := of_decide_eq_true hx2
  have := h x hx1
  omega

theorem grow_nil (A : Option Addr) (cap : Nat) (hv mv dv : Value) (w : World) :
    Calls Try.prog 77 #[.slice A 0 cap, hv, mv, dv] w fun e w' => e = .returned (.bool false) ∧ w' = w := by
  go_enter Try.func77, Try.ntmps77
  go_wp2_with fail
  go_loopg [9] 0 (fun _ iv wr => iv = .int .i64 0 ∧ w = wr)
  case atStart => exact ⟨rfl, rfl⟩
  case round =>
    obtain ⟨rfl, hw⟩ := hrel
    subst hw
    go_wp2_with fail
    go_ret
    exact ⟨rfl, rfl⟩

set_option maxRecDepth 100000 in
set_option maxHeartbeats 4000000 in
theorem Size_any (left right : Nat) (A : Option Addr) (n cap : Nat) (l : List Edg) (w : World) (h : Sl edgC 2 w All A n cap l) (hl : left ≤ 16) (hr : right ≤ 16) (hg : OkGr left right l) :
    Calls Try.prog 41 #[.int .i64 (left : Int), .int .i64 (right : Int), .slice A n cap] w fun e w' => ∃ (has : List Int) (no : List Nat) (D : Nat → Prop), e = .returned (.int .i64 ((left : Int) - (no.length : Int))) ∧
      Asked (nbrs l) right (fun x => x < left) has no D ∧ Below w.heap.size w w' := by
  have hmk := fun W => mkB right hr W
  have HSL := Lib.hid h
  have HG := Lib.hid hg
  clear hg
  clear h
  go_enter Try.func41, Try.ntmps41
  go_upto_block 0 with (fail)
  go_cut [7, 8] (fun v _ wx => ∃ xs, Own intC 1 3 wx w.heap.size v (List.replicate right (-1)) xs ∧ Below w.heap.size w wx)
  case first => as_aux_lemma =>
    go_wp2_with fail
    go_loopg [7, 8] right (fun gk v i wr => ∃ (k : Nat) (xs : List Value), k ≤ right ∧ right - k ≤ gk ∧ i = .int .i64 k ∧ Own intC 1 3 wr w.heap.size v (List.replicate k (-1)) xs ∧ Below w.heap.size w wr)
    case atStart => exact ⟨0, [], Nat.zero_le _, by omega, rfl, Own.nil _ _ _ _ _, Below.refl _ _⟩
    case round =>
      obtain ⟨k, xs, hk, hgk, rfl, hown, hb⟩ := hrel
      by_cases hlt : k < right
      · obtain ⟨A5, n5, c5, rfl, _⟩ := hown.sl intC_good
        have hOq := Lib.hid (hown.bel (bel1 wr (.cells #[.int .i64 (-1)] 3)))
        have hB := hb.alloc hb.size (.cells #[.int .i64 (-1)] 3)
        have hsq := hB.size
        have HB := Lib.hid hB
        clear hown hb hB
        go_wp2_with (at_builtin; refine list_app (t := 30) (e := 3) (bytes := 8) rfl (.tmp 16) (.tmp 17) rfl int_elem intC_good rfl hOq.out rfl (sl_int _ All (-1) 3 (.of (by omega) (by omega)) trivial) (fun _ _ hc => hc) (by rw [List.length_replicate]; omega) (by omega) hsq ?_; intro v' w' xs' hown' hg' _; have HOW := Lib.hid hown'; have HBE := Lib.hid (HB.out.grown hg' hsq (fun j hj => (hOq.out.lt j hj).1)); clear hown' hg')
        go_roundg (right - (k + 1))
        case measure => omega
        case rel => exact ⟨k + 1, xs', by omega, by omega, by go_num, by rw [List.replicate_succ']; exact HOW.out, HBE.out⟩
      · obtain rfl : k = right := by omega
        go_wp2_with fail
        go_meet
        exact ⟨xs, hown, hb⟩
  obtain ⟨xs, hown, hb⟩ := hcut
  obtain ⟨W1, hW1⟩ : ∃ W1, W1 = wc := ⟨_, rfl⟩
  subst hW1
  by_cases hr0 : right = 0
  · subst hr0
    obtain rfl : l = [] := by
      cases l with
      | nil => rfl
      | cons x l => have := HG.out x (by simp); omega
    obtain rfl : n = 0 := HSL.out.len.symm
    have HB := Lib.hid hb
    clear hown hb
    go_wp2_with fail
    go_loopg [9, 10] left (fun gk c i wr => ∃ j : Nat, j ≤ left ∧ j ≤ gk ∧ i = .int .i64 ((j : Int) - 1) ∧ c = .int .i64 0 ∧ Below w.heap.size w wr)
    case atStart => exact ⟨left, Nat.le_refl _, Nat.le_refl _, rfl, rfl, HB.out⟩
    case round =>
      obtain ⟨j, hj, hgj, rfl, rfl, hbw⟩ := hrel
      have HBW := Lib.hid hbw
      have HBX := Lib.hid (fun o => hbw.alloc hbw.size o)
      have hmk0 := fun W => mkB0 W
      clear hbw
      rcases j with _ | j
      · go_wp2_with fail
        go_ret
        refine ⟨[], List.range left, fun x => x < left, retI (by rw [List.length_range]; omega), ⟨rfl, fun r hr => by omega, fun x hx hn => absurd (List.mem_range.2 hx) hn, fun x _ => rfl, List.nodup_range, fun x hx => List.mem_range.1 hx, fun x hx => List.mem_range.1 hx, fun x hx => hx, fun d _ r hr => by simp [nbrs] at hr⟩, HBW.out⟩
      · have e : ((j + 1 : Nat) : Int) - 1 = (j : Int) := by omega
        rw [e]
        clear e
        go_wp2_with fail
        refine (grow_nil _ _ _ _ _ _).mono ?_
        rintro e w5 ⟨rfl, rfl⟩
        go_wp2_with fail
        go_roundg j
        case measure => omega
        case rel => exact ⟨j, by omega, by omega, by go_num, rfl, HBX.out _⟩
  obtain ⟨G, cG, rfl, hG1, hG2⟩ := hown.form (by rw [List.length_replicate]; omega)
  rw [List.length_replicate] at hown ⊢
  have HCEL := Lib.hid hown.celI
  have HB := Lib.hid hb
  clear hown
  go_wp2_with fail
  go_loopg [9, 10] left (fun gk c i wr => ∃ (j : Nat) (has : List Int) (no : List Nat) (D : Nat → Prop), j ≤ left ∧ j ≤ gk ∧ i = .int .i64 ((j : Int) - 1) ∧ c = .int .i64 (((left : Int) - j) - no.length) ∧ no.length ≤ left - j ∧
    CelI wr G has ∧ Asked (nbrs l) right (fun x => j ≤ x ∧ x < left) has no D ∧ G < wr.heap.size ∧ Below w.heap.size w wr)
  case atStart => exact ⟨left, List.replicate right (-1), [], fun _ => False, Nat.le_refl _, Nat.le_refl _, rfl, by simp, by simp, HCEL.out, Asked.start _ _ _ (fun x hx => by omega), hG2, HB.out⟩
  case round =>
    obtain ⟨j, has, no, D, hj, hgj, rfl, rfl, hno, hcel, hAs, hGs, hbw⟩ := hrel
    have HCEL := Lib.hid hcel
    have HAS := Lib.hid hAs
    have HBW := Lib.hid hbw
    have hws := hbw.size
    clear hcel hAs hbw
    rcases j with _ | j
    · have HA2 := Lib.hid (show Asked (nbrs l) right (fun x => x < left) has no D from by
        have := HAS.out
        rwa [show (fun x => 0 ≤ x ∧ x < left) = (fun x => x < left) by funext x; simp] at this)
      go_wp2_with fail
      go_ret
      exact ⟨has, no, D, retI (by omega), HA2.out, HBW.out⟩
    · have e : ((j + 1 : Nat) : Int) - 1 = (j : Int) := by omega
      rw [e]
      clear e
      have hbM := bel1 wr (.cells (Array.replicate right (Value.bool false)) 4)
      have hGA := Lib.hid (show GrAt (wr.alloc (.cells (Array.replicate right (Value.bool false)) 4)) G wr.heap.size A n cap right l has (List.replicate right false) from
        ⟨HSL.out.keep edgC_good (by omega) (fun b _ hb => ⟨(Below.heap_alloc _ _ _ (by omega)).trans (HBW.out.block b hb), by omega, by omega⟩), HCEL.out.kept (Below.heap_alloc _ _ _ hGs), rowB_new (blk1 _ _), HAS.out.len, by simp⟩)
      have hcall := grow_any G wr.heap.size cG A n cap right left l (by omega) HG.out _ has (List.replicate right false) j _ hGA.out (Nat.le_refl _) (fun r hr => (HAS.out.edge r hr).imp id (fun ⟨d, e, _⟩ => ⟨d, e⟩))
      have HCALL := Lib.hid hcall
      clear hcall
      go_wp2_with fail
      refine HCALL.out.mono ?_
      rintro e w5 ⟨b, has', met', rfl, hA5, hK5, hT, hF⟩
      have HB5 := Lib.hid ((HBW.out.trans (hbM.mono hws)).trans (hK5.below (B := w.heap.size) (by simp; omega) (fun k hk => by omega)))
      have hG5 : G < w5.heap.size := by have := hK5.size; simp at this; omega
      have HC5 := Lib.hid hA5.row
      have HAX := Lib.hid (show ∀ P : Nat → Prop, (∀ x, P x ↔ (j ≤ x ∧ x < left)) → (fun x => (j + 1 ≤ x ∧ x < left) ∨ x = j) = P from fun P hP => by funext x; exact propext (by rw [hP]; omega))
      have hjn : ¬ (j + 1 ≤ j ∧ j < left) := by omega
      cases b
      · obtain ⟨rfl, h6⟩ := hF rfl
        have HN := HAS.out.nobody (fun d r hr => (nbrs_lt HG.out d r hr).2) hjn h6
        rw [HAX.out (fun x => j ≤ x ∧ x < left) (fun _ => Iff.rfl)] at HN
        have HN := Lib.hid HN
        clear hA5 hK5 hT hF h6
        go_wp2_with fail
        go_roundg j
        case measure => omega
        case rel => exact ⟨j, has', no ++ [j], _, by omega, by omega, by go_num, by rw [List.length_append, List.length_singleton]; congr 1; omega, by rw [List.length_append, List.length_singleton]; omega, HC5.out, HN.out, hG5, HB5.out⟩
      · have HN := HAS.out.ok hjn (hT rfl)
        rw [HAX.out (fun x => j ≤ x ∧ x < left) (fun _ => Iff.rfl)] at HN
        have HN := Lib.hid HN
        clear hA5 hK5 hT hF
        go_wp2_with fail
        go_roundg j
        case measure => omega
        case rel => exact ⟨j, has', no, D, by omega, by omega, by go_num, by go_num, by omega, HC5.out, HN.out, hG5, HB5.out⟩
end Go.Proofs.Ytpodgidamoiakaa
