/-
  Matchings: match.Lack.
-/
import Derived.Test.YtpodgidamoiakaaMatchL
import Derived.Test.YtpodgidamoiakaaMatchO
namespace Go.Proofs.Ytpodgidamoiakaa
open Go.RowKit Go.Shelf

/-- A literal of one number is an own row. -/
theorem Own.oneI {w : World} {b base : Nat} {y : Int} (h : Blk w b #[.int .i64 y] 3) (hb : base ≤ b) (hy : InI y) : Own intC 1 3 w base (.slice (some ⟨b, 0, none⟩) 1 1) [y] [.int .i64 y] :=
  ⟨⟨rfl, .inr ⟨b, 1, _, rfl, hb, h, Nat.le_refl _, by decide, rfl, rfl⟩⟩, fun i x hx => by
    rcases i with _ | i
    · simp at hx; subst hx
      exact ⟨[.int .i64 y], ⟨rfl, hy⟩, rfl, fun j u hu => by rcases j with _ | j <;> simp_all⟩
    · simp at hx⟩
theorem lackL_len (n0 : Nat) (has : List Int) (met : List Bool) (n : Nat) : (lackL n0 has met n).length ≤ n + 1 ∧ 0 < (lackL n0 has met n).length := by
  unfold lackL metL
  rw [List.length_cons, List.length_map]
  have := List.length_filter_le (fun r => met.getD r true) (List.range n)
  rw [List.length_range] at this
  omega

set_option maxRecDepth 100000 in
set_option maxHeartbeats 8000000 in
theorem Lack_any (left right : Int) (A : Option Addr) (n cap : Nat) (l : List Edg) (w : World) (h : Sl edgC 2 w All A n cap l) :
    Calls Try.prog 37 #[.int .i64 left, .int .i64 right, .slice A n cap] w fun e w' => ∃ (v : Value) (sm : List Int) (xs : List Value), e = .returned (.tuple #[v, .int .i64 (grE left right l)]) ∧ Own intC 1 3 w' w.heap.size v sm xs ∧ LackOk left right l sm ∧ Below w.heap.size w w' := by
  have HC := Lib.hid (CheckM_any left right A n cap l w h)
  obtain ⟨r, hr⟩ : ∃ r, r = grE left right l := ⟨_, rfl⟩
  rw [← hr] at HC ⊢
  have HR := Lib.hid hr
  clear hr
  have HH := Lib.hid h
  clear h
  go_enter Try.func37, Try.ntmps37
  go_wp2_with fail
  refine HC.out.mono ?_
  rintro e w1 ⟨rfl, hb⟩
  by_cases h0 : r = 0
  · have hR := HR.out
    rw [h0] at hR
    obtain ⟨a, b, rfl, rfl, ha, hb16, hg, hnd⟩ := grE_ok hR.symm
    have hlen := HH.out.len
    have hsm := graph_small hg hnd ha hb16
    have HS := Lib.hid (solve_any a b A n cap l w1 (HH.out.bel hb) ha hb16 hg (by omega))
    have HRR := Lib.hid hR
    have HG := Lib.hid hg
    have HB1 := Lib.hid hb
    have hs0 := hb.size
    subst h0
    clear hR HR hg hnd hlen hsm hb HC HH
    go_wp2_with fail
    refine HS.out.mono ?_
    rintro e w2 ⟨P, G, N, O, v, has, no, D, xs0, rfl, hSt, hOw, hAs, hP0, hG0, hN0, hb2⟩
    have hb := HB1.out.trans (hb2.mono HB1.out.size)
    have HB2 := Lib.hid hb
    have hs2 := hb.size
    obtain ⟨A7, n7, c7, rfl, hs7⟩ := hOw.sl intC_good
    have hl7 : no.length = n7 := by have := hs7.len; rwa [List.length_map] at this
    clear hs7 hb2 hb HS
    by_cases hz : n7 = 0
    · have hnil : no = [] := List.eq_nil_of_length_eq_zero (by omega)
      have HL := Lib.hid (LackOk.of HRR.out.symm (sm := []) (k := a) ⟨has, no, D, hAs, by rw [hnil]; rfl⟩ (.inl ⟨rfl, rfl⟩))
      subst hz
      clear hSt hOw hAs hnil hl7
      go_wp2_with fail
      go_ret2
      exact ⟨_, [], [], rfl, Own.nil _ _ _ _ _, HL.out, HB2.out⟩
    · obtain ⟨n0, hn0⟩ : ∃ n0, no[0]? = some n0 := ⟨_, List.getElem?_eq_getElem (by omega)⟩
      have hm0 := List.mem_of_getElem? hn0
      have hnA : n0 < a := hAs.noA n0 hm0
      obtain ⟨g, c9, hv, hg0, hgl⟩ := hOw.form (by rw [List.length_map]; omega)
      simp only [Value.slice.injEq] at hv
      obtain ⟨rfl, -, rfl⟩ := hv
      have hx0 : (no.map Int.ofNat)[0]? = some (n0 : Int) := by rw [List.getElem?_map, hn0]; rfl
      have hNl := hSt.le
      have hPG := hSt.pg
      have hPn := hSt.pn
      have hGn := hSt.gn
      have HFG := Lib.hid (forget_any P G N (some ⟨O, 0, none⟩) a a b (rowsOf a l) has w2 hSt hb16)
      have HOW := Lib.hid hOw
      have HAS := Lib.hid hAs
      have HM0 := Lib.hid hm0
      have HRG2 := Lib.hid (rgts_rows HG.out)
      have HRB := Lib.hid (rows_bd HG.out)
      have HKA := Lib.hid (show n7 + (a - n7) = a ∧ a - n7 < a from by have := hAs.most (nbrs_lt HG.out) (M := []) ⟨by simp, by simp, by simp⟩; simp at this; omega)
      have hne7 : ((n7 : Int) == 0) = false := by have : ¬ (n7 : Int) = 0 := (by omega); simpa using this
      have hz0 : (0 : Int) < (n7 : Int) := by omega
      have hz1 : ¬ (n7 : Int) = 0 := by omega
      clear hSt hOw hAs hn0 hm0 hgl
      go_wp2_with fail
      refine HFG.out.mono ?_
      rintro e w5 ⟨rfl, hM5, hS5, hK5⟩
      have hO5 := HOW.out.keep intC_good (fun q hq hql => hK5.block q hql (by omega))
      obtain ⟨cs, ⟨hcs, _⟩, _, hcell, _⟩ := hO5.cells hx0
      subst hcs
      have e0 : w5.cell? ⟨g, 0, none⟩ = some (.int .i64 (n0 : Int)) := hcell 0 _ rfl
      have hcall := find_any P G w2.heap.size (some ⟨O, 0, none⟩) a a b (rowsOf a l) (by omega) hPG (by omega) HRB.out _ has (List.replicate b false) n0 w5 hM5 hnA (Nat.le_refl _) (fun r hr => (HAS.out.edge r hr).imp id (fun ⟨d, e, h1, _⟩ => ⟨d, e, h1⟩)) (by omega)
      rw [HRG2.out] at hcall
      have HCALL := Lib.hid hcall
      have HO5 := Lib.hid hO5
      have HK5 := Lib.hid hK5
      have hs5 := hK5.size
      clear hM5 hS5 hK5 hcall hO5 hcell HFG
      go_wp2_with fail
      refine HCALL.out.mono ?_
      rintro e w6 ⟨bb, has', met', rfl, hA6, hK6, hT6, hF6⟩
      cases bb
      rotate_left
      · exact absurd (HAS.out.noD n0 HM0.out) ((hT6 rfl).shut D HAS.out.shut).1
      obtain ⟨rfl, h6⟩ := hF6 rfl
      have hK7 : Kept (fun q => q = P ∨ q = G) w2 w6 := ((HK5.out.mono (T := fun q => q = P ∨ q = G ∨ q = w2.heap.size) (fun q _ e => .inl e)).trans (hK6.mono (fun q _ e => .inr e))).mono (fun q hq e => by
        rcases e with e | e | e
        · exact .inl e
        · exact .inr e
        · omega)
      have hs6 := hK7.size
      have hO6 := HOW.out.keep intC_good (fun q hq hql => hK7.block q hql (by rintro (e | e) <;> omega))
      obtain ⟨cs, ⟨hcs, _⟩, _, hcell, _⟩ := hO6.cells hx0
      subst hcs
      have e0 : w6.cell? ⟨g, 0, none⟩ = some (.int .i64 (n0 : Int)) := hcell 0 _ rfl
      have HB6 := Lib.hid (HB2.out.trans (hK7.below (B := w.heap.size) (by omega) (fun q hq e => by rcases e with e | e <;> omega)))
      have HA6 := Lib.hid hA6
      have HF6 := Lib.hid h6
      have hI0 : InI (n0 : Int) := .of (by omega) (by omega)
      obtain ⟨W7, hW7⟩ : ∃ W7, W7 = w6.alloc (.cells #[.int .i64 (n0 : Int)] 3) := ⟨_, rfl⟩
      have hb7 : Below w6.heap.size w6 W7 := by rw [hW7]; exact bel1 _ _
      have hL7 : Blk W7 w6.heap.size #[.int .i64 (n0 : Int)] 3 := by rw [hW7]; exact blk1 _ _
      have HO7 := Lib.hid (Own.oneI hL7 (Nat.le_refl _) hI0)
      have p2 : W7.cell? ⟨P, 2, none⟩ = some (.slice (some ⟨w2.heap.size, 0, none⟩) b b) := (hA6.st.bel hb7).cell rfl
      have HB7 := Lib.hid hb7
      clear hO6 hcell hA6 h6 hT6 hF6 hK6 hK7 hL7 hb7 hI0 HCALL HO5 HK5
      go_upto_region 10 with (fail)
      rw [← hW7]
      clear hW7
      go_wp2_with fail
      go_loopg [47, 11] b (fun gk i nv wr => ∃ (k : Nat) (xs : List Value), k ≤ b ∧ b - k ≤ gk ∧ i = .int .i64 k ∧ Own intC 1 3 wr w6.heap.size nv (lackL n0 has' met' k) xs ∧ Below w6.heap.size w6 wr)
      case atStart => exact ⟨0, _, Nat.zero_le _, by omega, rfl, HO7.out, HB7.out⟩
      case round =>
        obtain ⟨k, xs, hk, hgk, rfl, hO, hb⟩ := hrel
        obtain ⟨A2, n2, cap2, rfl, hsl2⟩ := hO.sl intC_good
        have hln := hsl2.len
        clear hsl2
        have hsw := hb.size
        by_cases hlt : k < b
        · have hMk := HA6.out
          have c0 := RowB.cell (hMk.mt.bel hb : RowB wr _ _) (i := k) (by rw [hMk.lm]; exact hlt)
          have p1 : wr.cell? ⟨P, 1, none⟩ = some (.slice (some ⟨G, 0, none⟩) b b) := (hMk.st.bel hb).cell rfl
          have g0 := RowI.cell' (hMk.row.bel hb : RowI wr _ _ _) (i := k) (by rw [hMk.lh]; exact hlt)
          obtain ⟨v, hv⟩ : ∃ v, v = met'.getD k true := ⟨_, rfl⟩
          rw [← hv] at c0
          clear hMk
          cases v
          · have HV := Lib.hid (show lackL n0 has' met' (k + 1) = lackL n0 has' met' k by rw [lackL_succ, if_neg (by rw [← hv]; simp)])
            have HO := Lib.hid hO
            clear hO hv hln
            go_wp2_with fail
            go_roundg (b - (k + 1))
            case measure => omega
            case rel => exact ⟨k + 1, xs, by omega, by omega, by go_num, by rw [HV.out]; exact HO.out, hb⟩
          · have hy0 : InI (has'.getD k (-1)) := by
              rcases HAS.out.edge k hlt with e | ⟨d, e, hd, _⟩
              · rw [e]; exact .of (by decide) (by decide)
              · have hd : d < a := hd
                rw [e]; exact .of (by omega) (by omega)
            have hV0 : lackL n0 has' met' (k + 1) = lackL n0 has' met' k ++ [has'.getD k (-1)] := by rw [lackL_succ, if_pos hv.symm]
            obtain ⟨y, hy⟩ : ∃ y, y = has'.getD k (-1) := ⟨_, rfl⟩
            rw [← hy] at g0 hy0 hV0
            have HV := Lib.hid hV0
            have hOq := Lib.hid (hO.bel (bel1 wr (.cells #[.int .i64 y] 3)))
            have hsq : w6.heap.size ≤ (wr.alloc (.cells #[.int .i64 y] 3)).heap.size := by simp; omega
            have hby : ((lackL n0 has' met' k).length + 1) * 8 ≤ 140737488355328 := by have := (lackL_len n0 has' met' k).1; omega
            have HBQ := Lib.hid (hb.alloc hb.size (.cells #[.int .i64 y] 3))
            clear hO hv hln hV0 hb hy
            go_wp2_with (at_builtin; refine list_app (t := 30) (e := 3) (bytes := 8) rfl (.tmp 53) (.tmp 61) rfl int_elem intC_good rfl hOq.out rfl (sl_int _ All y 3 hy0 trivial) (fun _ _ hc => hc) hby (by omega) hsq ?_; intro v' w' xs' hown' hg' _)
            go_roundg (b - (k + 1))
            case measure => omega
            case rel => exact ⟨k + 1, xs', by omega, by omega, by go_num, by rw [HV.out]; exact hown', below_app HBQ.out hOq.out hg' hsq⟩
        · obtain rfl : k = b := by omega
          have hll := lackL_len n0 has' met' k
          obtain ⟨g2, c2, hv, hg2, _⟩ := hO.form hll.2
          simp only [Value.slice.injEq] at hv
          obtain ⟨rfl, -, rfl⟩ := hv
          have hbx := HB6.out.trans (hb.mono HB6.out.size)
          have HB8 := Lib.hid hbx
          have hs8 := HB6.out.size
          have HSO := Lib.hid (Sort_ints hO (by omega))
          clear hO hb hbx
          go_wp2_with fail
          refine HSO.out.mono ?_
          rintro e w3 ⟨rfl, sm, xs3, hp, hs, hO3, hK⟩
          have HL := Lib.hid (LackOk.of HRR.out.symm (k := a - n7) ⟨has', no, D, HAS.out, by have := HKA.out.1; rw [hl7]; omega⟩ (.inr ⟨HKA.out.2, lack_law HAS.out HG.out HM0.out HF6.out hp hs⟩))
          have HO := Lib.hid (hO3.mono intC_good hs8)
          have hnot : ∀ q, q < w.heap.size → ¬ q = g2 := fun q hq e => by omega
          have HB9 := Lib.hid (HB8.out.trans (hK.below (B := w.heap.size) HB8.out.size hnot))
          clear hp hs hO3 hK HSO
          go_wp2_with fail
          go_ret2
          exact ⟨_, sm, xs3, rfl, HO.out, HL.out, HB9.out⟩
  · have HM := Lib.hid (LackOk.none (left := left) (right := right) (l := l) (by rw [← HR.out]; exact h0))
    have h0' : (r == 0) = false := by simpa using h0
    clear h0
    go_wp2_with fail
    go_ret2
    exact ⟨_, [], [], rfl, Own.nil _ _ _ _ _, HM.out, hb⟩
end Go.Proofs.Ytpodgidamoiakaa
