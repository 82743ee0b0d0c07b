/-
  Matchings: match.Best.
-/
import Derived.Test.YtpodgidamoiakaaMatchI
import Derived.Test.YtpodgidamoiakaaMatchQ
import Derived.Test.YtpodgidamoiakaaMatchS
namespace Go.Proofs.Ytpodgidamoiakaa
open Go.RowKit Go.Shelf

theorem edg_elem : ElemOf Try.prog 60 70 2 16 := .mk' Try.underlying60 (z := .agg #[.int .i64 0, .int .i64 0]) (by kernel_rfl) rfl (by omega)
theorem sl_edg (w : World) (S : Nat → Prop) (a b : Int) (t : TypeId) (ha : InI a) (hb : InI b) (hS : S w.heap.size) : Sl edgC 2 (w.alloc (.cells #[.int .i64 a, .int .i64 b] t)) S (some ⟨w.heap.size, 0, none⟩) 1 1 [⟨a, b⟩] :=
  Sl.lit1 w S t (⟨a, b⟩ : Edg) [.int .i64 a, .int .i64 b] ⟨rfl, ha, hb⟩ hS
theorem bstL_len (has : List Int) (n : Nat) : (bstL has n).length ≤ n := by
  unfold bstL
  exact Nat.le_trans (List.length_filterMap_le _ _) (Nat.le_of_eq List.length_range)
theorem bstL_mem {has : List Int} {n : Nat} {x : Edg} (h : x ∈ bstL has n) : ∃ r, r < n ∧ x.lft = has.getD r (-1) ∧ 0 ≤ x.lft := by
  unfold bstL at h
  obtain ⟨r, hr, he⟩ := List.mem_filterMap.1 h
  by_cases h1 : has.getD r (-1) < 0
  · rw [if_pos h1] at he; cases he
  · rw [if_neg h1] at he
    injection he with he
    subst he
    exact ⟨r, List.mem_range.1 hr, rfl, by simp only; omega⟩

set_option maxRecDepth 100000 in
set_option maxHeartbeats 8000000 in
theorem Best_any (left right : Nat) (A : Option Addr) (n cap : Nat) (l : List Edg) (w : World) (h : Sl edgC 2 w All A n cap l) (hl : left ≤ 16) (hr : right ≤ 16) (hg : OkGr left right l) (hn : n ≤ 1000) :
    Calls Try.prog 71 #[.int .i64 (left : Int), .int .i64 (right : Int), .slice A n cap] w fun e w' => ∃ (v : Value) (ml : List Edg) (xs : List Value), e = .returned v ∧ Own edgC 2 70 w' w.heap.size v ml xs ∧ Best left right l ml ∧ IsSize left right l ml.length ∧ Below w.heap.size w w' := by
  have HS := Lib.hid (solve_any left right A n cap l w h hl hr hg hn)
  have HG := Lib.hid hg
  clear hg
  clear h
  go_enter Try.func71, Try.ntmps71
  go_wp2_with fail
  refine HS.out.mono ?_
  rintro e w1 ⟨P, G, N, O, v, has, no, D, xs0, rfl, hSt, hOw, hAs, hP0, hG0, hN0, hb⟩
  obtain ⟨z, hz⟩ := hSt.st
  have p1 : w1.cell? ⟨P, 1, none⟩ = some (.slice (some ⟨G, 0, none⟩) right right) := hz.cell rfl
  have HSt := Lib.hid hSt
  have HAS := Lib.hid hAs
  have HB1 := Lib.hid hb
  have hs1 := hb.size
  clear hSt hOw hAs hb hz hP0 hG0 hN0 HS
  go_wp2_with fail
  go_loopg [24, 9] right (fun gk i nv wr => ∃ (k : Nat) (xs : List Value), k ≤ right ∧ right - k ≤ gk ∧ i = .int .i64 k ∧ Own edgC 2 70 wr w1.heap.size nv (bstL has k) xs ∧ Below w1.heap.size w1 wr)
  case atStart => exact ⟨0, [], Nat.zero_le _, by omega, rfl, Own.nil _ _ _ _ _, Below.refl _ _⟩
  case round =>
    obtain ⟨k, xs, hk, hgk, rfl, hO, hb⟩ := hrel
    obtain ⟨A2, n2, cap2, rfl, hs2⟩ := hO.sl edgC_good
    have hln := hs2.len
    clear hs2
    by_cases hlt : k < right
    · have c0 := (HSt.out.row.bel hb).cell' (i := k) (by rw [HSt.out.lh]; exact hlt)
      rcases HAS.out.edge k hlt with hh | ⟨d, hh, hda, _⟩
      · rw [hh] at c0
        have HV := Lib.hid (show bstL has (k + 1) = bstL has k by rw [bstL_succ, if_pos (by rw [hh]; decide)])
        have HO := Lib.hid hO
        clear hO hh hln
        go_wp2_with fail
        go_roundg (right - (k + 1))
        case measure => omega
        case rel => exact ⟨k + 1, xs, by omega, by omega, by go_num, by rw [HV.out]; exact HO.out, hb⟩
      · rw [hh] at c0
        have hda : d < left := hda
        have HV := Lib.hid (show bstL has (k + 1) = bstL has k ++ [⟨d, k⟩] by rw [bstL_succ, if_neg (by rw [hh]; omega), hh])
        have hOq := Lib.hid (hO.bel (bel1 wr (.cells #[.int .i64 (d : Int), .int .i64 (k : Int)] 70)))
        have hsw := hb.size
        have hsq : w1.heap.size ≤ (wr.alloc (.cells #[.int .i64 (d : Int), .int .i64 (k : Int)] 70)).heap.size := by simp; omega
        have hby : ((bstL has k).length + 1) * 16 ≤ 140737488355328 := by have := bstL_len has k; omega
        have hd0 : (0 : Int) ≤ (d : Int) := by omega
        have HBQ := Lib.hid (hb.alloc hb.size (.cells #[.int .i64 (d : Int), .int .i64 (k : Int)] 70))
        clear hO hh hln hb
        go_wp2_with (at_builtin; refine list_app (t := 60) (e := 70) (bytes := 16) rfl (.tmp 31) (.tmp 35) rfl edg_elem edgC_good rfl hOq.out rfl (sl_edg _ All (d : Int) (k : Int) 70 (.of (by omega) (by omega)) (.of (by omega) (by omega)) trivial) (fun _ _ hc => hc) hby (by omega) hsq ?_; intro v' w' xs' hown' hg' _)
        go_roundg (right - (k + 1))
        case measure => omega
        case rel => exact ⟨k + 1, xs', by omega, by omega, by go_num, by rw [HV.out]; exact hown', below_app HBQ.out hOq.out hg' hsq⟩
    · obtain rfl : k = right := by omega
      have HB2 := Lib.hid (HB1.out.trans (hb.mono hs1))
      have HSB := Lib.hid hb.size
      by_cases h0 : n2 = 0
      · have hnil : bstL has k = [] := List.eq_nil_of_length_eq_zero (by omega)
        have HL := Lib.hid (best_law HAS.out HG.out (List.Perm.refl (bstL has k)) (by rw [hnil]; exact List.Pairwise.nil))
        rw [hnil] at hO HL
        have HO := Lib.hid (hO.mono edgC_good hs1)
        subst h0
        clear hO hln hnil hb
        go_wp2_with fail
        refine (Sort_edge_none A2 cap2 _ _).mono ?_
        rintro e w3 ⟨rfl, rfl⟩
        go_wp2_with fail
        go_ret
        exact ⟨_, [], xs, rfl, HO.out, HL.out.1, ⟨has, no, D, HAS.out, HL.out.2⟩, HB2.out⟩
      · obtain ⟨g, c9, hv, hg0, hgl⟩ := hO.form (by omega)
        simp only [Value.slice.injEq] at hv
        obtain ⟨rfl, -, rfl⟩ := hv
        have h12 : (bstL has k).length ≤ 1000 := by have := bstL_len has k; omega
        have hbd : ∀ x ∈ bstL has k, -1000 ≤ x.lft ∧ x.lft ≤ 1000 := fun x hx => by
          obtain ⟨r, hr1, hr2, hr3⟩ := bstL_mem hx
          rcases HAS.out.edge r hr1 with e | ⟨d, e, hd, _⟩
          · omega
          · have hd : d < left := hd
            omega
        have hst := Sort_edge (w := wr) (base := w1.heap.size) (g := g) (n := n2) (cap := cap2) hO h12 hbd
        have HST := Lib.hid hst
        clear hst
        clear hO hb h12 hbd hln
        go_wp2_with fail
        refine HST.out.mono ?_
        rintro e w3 ⟨rfl, ml, xs3, hp, hs, hO3, hK⟩
        have HL := Lib.hid (best_law HAS.out HG.out hp hs)
        have HO := Lib.hid (hO3.mono edgC_good hs1)
        have HB3 := Lib.hid (HB2.out.trans (hK.below (B := w.heap.size) HB2.out.size (fun q hq e => by omega)))
        clear hp hs hO3 hK
        go_wp2_with fail
        go_ret
        exact ⟨_, ml, xs3, rfl, HO.out, HL.out.1, ⟨has, no, D, HAS.out, HL.out.2⟩, HB3.out⟩
end Go.Proofs.Ytpodgidamoiakaa
