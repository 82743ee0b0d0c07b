/-
  Ships: the references DoesServe, OrderOf.
-/
import Derived.Test.YtpodgidamoiakaaShipK
import Derived.Deep.CutBlock
namespace Go.Proofs.Ytpodgidamoiakaa
open Go.RowKit Go.Shelf

set_option maxRecDepth 100000 in
set_option maxHeartbeats 4000000 in
theorem DoesServe_any (legs souls : Int) (A : Option Addr) (n cap : Nat) (cats : List Cat) (vc : Value) (a b : Nat) (w : World) (h : Sl catC 2 w All A n cap cats) (ho : OkCats cats) (ha : a < n) (hb : b < n) :
    Calls Try.prog 19 #[.agg #[.int .i64 legs, .int .i64 souls, .slice A n cap, vc], .int .i64 (a : Int), .int .i64 (b : Int)] w fun e w' => e = .returned (.bool (srvB (higC cats) a b)) ∧ Below w.heap.size w w' := by
  have hst := fun W hW => ServeTable_any legs souls A n cap cats vc W hW ho (by omega)
  have HST := Lib.hid hst
  clear hst
  have HCN := Lib.hid (show (higC cats).length = n by rw [higC_len]; exact h.len)
  have HSL := Lib.hid h
  obtain ⟨r, hr⟩ : ∃ r, r = srvB (higC cats) a b := ⟨_, rfl⟩
  rw [← hr]
  have HR := Lib.hid hr
  clear hr
  clear h
  go_enter Try.func19, Try.ntmps19
  go_upto_region 0 with (fail)
  go_cut [3, 6] (fun p _ wx => ∃ g, p = .pointer (some ⟨g, 0, none⟩) ∧ Blk wx g #[.int .i64 legs, .int .i64 souls, .slice A n cap, vc] 25 ∧ Below w.heap.size w wx)
  case first => as_aux_lemma =>
    go_wp2_with fail
    go_meet
    exact ⟨_, rfl, blk1 _ _, bel1 _ _⟩
  obtain ⟨g, rfl, hB, hb1⟩ := hcut
  have c0 : wc.cell? ⟨g, 0, none⟩ = some (.int .i64 legs) := hB.cell rfl
  have c1 : wc.cell? ⟨g, 1, none⟩ = some (.int .i64 souls) := hB.cell rfl
  have c2 : wc.cell? ⟨g, 2, none⟩ = some (.slice A n cap) := hB.cell rfl
  have c3 : wc.cell? ⟨g, 3, none⟩ = some vc := hB.cell rfl
  by_cases he : a = b
  · subst he
    have hr : r = true := by rw [HR.out]; unfold srvB; rw [decide_eq_true rfl]; rfl
    subst hr
    go_wp2_with fail
    go_ret
    exact ⟨rfl, hb1⟩
  · have hne : ((a : Int) == (b : Int)) = false := by rw [beq_eq_false_iff_ne]; omega
    have HR2 := Lib.hid (show r = decide (Srv (higC cats) a b) by rw [HR.out]; unfold srvB; rw [decide_eq_false he]; rfl)
    have hcall := HST.out wc (HSL.out.bel hb1)
    have HCALL := Lib.hid hcall
    clear hcall
    clear he
    go_wp2_with fail
    refine HCALL.out.mono ?_
    rintro e w2 ⟨BS, o, cap3, bls, rfl, hbl, hT, hb2⟩
    obtain ⟨ba, hba⟩ : ∃ ba, bls[a]? = some ba := ⟨_, List.getElem?_eq_getElem (by omega)⟩
    have r0 := hT.outer hba
    have r1 := hT.inner hba (j := b) hb
    have hts := tab_srv (C := higC cats) a b
    rw [HCN.out] at hts
    obtain ⟨s, hs⟩ : ∃ s, s = tabF (higC cats) n a b := ⟨_, rfl⟩
    rw [← hs] at r1 hts
    have HS := Lib.hid (show r = s by
      rw [HR2.out]
      cases s
      · exact decide_eq_false (fun h => absurd (hts.2 h) (by simp))
      · exact decide_eq_true (hts.1 rfl))
    have HB4 := Lib.hid (hb1.trans (hb2.mono hb1.size))
    clear hs hts hba hT hb2
    go_wp2_with fail
    go_ret
    exact ⟨retB HS.out.symm, HB4.out⟩

theorem cell_mvN {W X : World} {p j : Nat} {v : Value} (hX : Below W.heap.size W X) (hc : W.cell? ⟨p, j, none⟩ = some v) : X.cell? ⟨p, j, none⟩ = some v := (World.cell?_of_block (a := ⟨p, j, none⟩) (hX.block _ (cell_lt hc))).trans hc
/-- May i come next, as the document says it: of those that serve it the first a are looked at. -/
def okT (T : Nat → Nat → Bool) (D : Nat → Bool) (i a : Nat) : Bool := !D i && (List.range a).all (fun c => !T c i || D c)
theorem okT_zero (T : Nat → Nat → Bool) (D : Nat → Bool) (i : Nat) : okT T D i 0 = !D i := by unfold okT; simp
theorem okT_succ (T : Nat → Nat → Bool) (D : Nat → Bool) (i a : Nat) : okT T D i (a + 1) = (okT T D i a && (!T a i || D a)) := by
  unfold okT
  rw [List.range_succ, List.all_append, Bool.and_assoc]
  simp
theorem okT_ok {C : List (List Int)} {out : List Int} (h : Laid C out) (ho : OkC C) (i : Nat) : okT (tabF C C.length) (fun j => decide ((j : Int) ∈ out)) i C.length = okO C out i := by
  rw [Bool.eq_iff_iff, okO_tab h ho]
  unfold okT
  simp only [Bool.and_eq_true, Bool.not_eq_true', decide_eq_false_iff_not, List.all_eq_true, List.mem_range, Bool.or_eq_true, decide_eq_true_iff]
  refine and_congr_right fun _ => ⟨fun h1 a ha ht => ?_, fun h1 a ha => ?_⟩
  · rcases h1 a ha with h2 | h2
    · rw [ht] at h2; exact absurd h2 (by simp)
    · exact h2
  · cases ht : tabF C C.length a i
    · exact .inl rfl
    · exact .inr (h1 a ha ht)
/-- The least from j on that may come next; -1: none. -/
def leastOk (C : List (List Int)) (out : List Int) (n j : Nat) (x : Int) : Prop :=
  (x = -1 ∧ ∀ i, j ≤ i → i < n → okO C out i = false) ∨ ∃ m : Nat, x = m ∧ j ≤ m ∧ m < n ∧ okO C out m = true ∧ ∀ i, j ≤ i → i < m → okO C out i = false
theorem least_no {C : List (List Int)} {out : List Int} {n j : Nat} {x : Int} (h : leastOk C out n (j + 1) x) (hn : okO C out j = false) : leastOk C out n j x := by
  rcases h with ⟨rfl, h⟩ | ⟨m, rfl, h1, h2, h3, h4⟩
  · exact .inl ⟨rfl, fun i hi hin => by by_cases he : i = j; (· subst he; exact hn); exact h i (by omega) hin⟩
  · exact .inr ⟨m, rfl, by omega, h2, h3, fun i hi him => by by_cases he : i = j; (· subst he; exact hn); exact h4 i (by omega) him⟩

set_option maxRecDepth 100000 in
set_option maxHeartbeats 8000000 in
theorem OrderOf_any (x : Shp) (A : Option Addr) (n cap : Nat) (vc : Value) (w : World) (h : Sl catC 2 w All A n cap x.cats) (hok : OkShp x) :
    Calls Try.prog 17 #[.agg #[.int .i64 x.legs, .int .i64 x.souls, .slice A n cap, vc]] w fun e w' => ∃ v xs,
      e = .returned v ∧ Own intC 1 3 w' w.heap.size v (ordF (higC x.cats) n) xs ∧ Below w.heap.size w w' := by
  obtain ⟨legs, souls, cats, cabs⟩ := x
  simp only at *
  have hl := h.len
  have hn5 : n ≤ 5 := by rw [← hl]; exact hok.cats5
  have hn0 : 0 < n := by rw [← hl]; exact hok.cats0
  have hst := fun W hW => ServeTable_any legs souls A n cap cats vc W hW hok.ok hn0
  have hmk := fun W => mkBools n hn5 W
  have HST := Lib.hid hst
  clear hst
  have HCN := Lib.hid (show (higC cats).length = n by rw [higC_len]; exact hl)
  have HSL := Lib.hid h
  have HSO := Lib.hid hok
  clear hok
  clear h hl
  go_enter Try.func17, Try.ntmps17
  go_upto_region 0 with (fail)
  go_cut [1, 2] (fun p _ wx => ∃ g, p = .pointer (some ⟨g, 0, none⟩) ∧ Blk wx g #[.int .i64 legs, .int .i64 souls, .slice A n cap, vc] 25 ∧ Below w.heap.size w wx)
  case first => as_aux_lemma =>
    go_wp2_with fail
    go_meet
    exact ⟨_, rfl, blk1 _ _, bel1 _ _⟩
  obtain ⟨g, rfl, hB, hb1⟩ := hcut
  have c0 : wc.cell? ⟨g, 0, none⟩ = some (.int .i64 legs) := hB.cell rfl
  have c1 : wc.cell? ⟨g, 1, none⟩ = some (.int .i64 souls) := hB.cell rfl
  have c2 : wc.cell? ⟨g, 2, none⟩ = some (.slice A n cap) := hB.cell rfl
  have c3 : wc.cell? ⟨g, 3, none⟩ = some vc := hB.cell rfl
  have hcall := HST.out wc (HSL.out.bel hb1)
  have HCALL := Lib.hid hcall
  clear hcall
  clear hB
  go_wp2_with fail
  refine HCALL.out.mono ?_
  rintro e w2 ⟨B0, o, cap3, bls, rfl, hbl, hT, hb2⟩
  have HT := Lib.hid hT
  have HB2 := Lib.hid (hb1.trans (hb2.mono hb1.size))
  obtain ⟨W3, hW3⟩ : ∃ W3, W3 = w2 := ⟨_, rfl⟩
  subst hW3
  clear hT hb1 hb2 c0 c1 c2 c3
  go_upto_region 2 with (fail)
  go_cut [4] (fun p wx => ∃ d, p = .slice (some ⟨d, 0, none⟩) n n ∧ W3.heap.size ≤ d ∧ d < wx.heap.size ∧ Blk wx d (rowV n (fun _ => false)) 4 ∧ Below W3.heap.size W3 wx)
  case first => as_aux_lemma =>
    go_wp2_with fail
    go_meet
    exact ⟨_, rfl, Nat.le_refl _, by simp, blk1 _ _, bel1 _ _⟩
  obtain ⟨d, rfl, hd3, hdc, hD, hbd⟩ := hcut
  obtain ⟨BS, hBS⟩ : ∃ BS, BS = wc.heap.size := ⟨_, rfl⟩
  have hdB : d < BS := by omega
  have HBS := Lib.hid hBS
  have HB3 := Lib.hid (show W3.heap.size ≤ BS by omega)
  have HDD := Lib.hid hD
  have HBD := Lib.hid hbd
  clear hBS hD hbd hdc
  go_wp2_with fail
  go_loopg [5, 6, 7, 8, 9] n (fun gk v _ _ _ _ wr => ∃ (k : Nat) (xs : List Value), k ≤ n ∧ n - k ≤ gk ∧ Own intC 1 3 wr BS v (ordF (higC cats) k) xs ∧ Blk wr d (rowV n (fun j => decide ((j : Int) ∈ ordF (higC cats) k))) 4 ∧ BS ≤ wr.heap.size ∧ Below W3.heap.size W3 wr)
  case atStart => exact ⟨0, [], Nat.zero_le _, by omega, Own.nil _ _ _ _ _, HDD.out, Nat.le_of_eq HBS.out, HBD.out⟩
  case round =>
    obtain ⟨k, xs, hk, hgk, hown, hD, hwB, hb⟩ := hrel
    obtain ⟨A5, n5, c5, rfl, hso⟩ := hown.sl intC_good
    obtain rfl : n5 = k := by rw [← hso.len, ordF_len]
    have HOWN := Lib.hid hown
    have HD := Lib.hid hD
    have HB4 := Lib.hid hb
    clear hown hD hb hso
    by_cases hlt : n5 < n
    · obtain ⟨m0, hm0, hnx, hokm, hokl⟩ := ord_next HSO.out.ok.inC HSO.out.rnd (k := n5) (by rw [HCN.out]; exact hlt)
      rw [HCN.out] at hm0
      have HLD := Lib.hid (fun i => okT_ok (ord_laid HSO.out.ok.inC HSO.out.rnd n5 (by rw [HCN.out]; exact hk)) HSO.out.ok.inC i)
      rw [HCN.out] at HLD
      have HM0 := Lib.hid (And.intro hm0 (And.intro hnx (And.intro hokm hokl)))
      obtain ⟨out, hout⟩ : ∃ out, out = ordF (higC cats) n5 := ⟨_, rfl⟩
      rw [← hout] at HOWN HD HLD HM0
      have HOL := Lib.hid (show out.length = n5 by rw [hout, ordF_len])
      clear hm0 hnx hokm hokl hout
      obtain ⟨W5, hW5⟩ : ∃ W5, W5 = wr := ⟨_, rfl⟩
      subst hW5
      have HB5 := Lib.hid HB4.out
      have hbl2 := hbl
      go_upto_block 2 with (fail)
      go_cut [6, 7, 8, 9] (fun nx _ _ _ wx => ∃ m : Nat, nx = .int .i64 m ∧ m < n ∧ Aside (ordF (higC cats) (n5 + 1) = out ++ [(m : Int)]) ∧ W5 = wx)
      case first => as_aux_lemma =>
        go_wp2_with fail
        go_loopg [6, 7, 8, 9] n (fun gk nx i _ _ wr => ∃ (j : Nat) (y : Int), j ≤ n ∧ j ≤ gk ∧ i = .int .i64 ((j : Int) - 1) ∧ nx = .int .i64 y ∧ Aside (leastOk (higC cats) out n j y) ∧ W5 = wr)
        case atStart => exact ⟨n, -1, Nat.le_refl _, Nat.le_refl _, rfl, rfl, .inl ⟨rfl, fun i h1 h2 => by omega⟩, rfl⟩
        case round =>
          obtain ⟨j, y, hj, hgj, rfl, rfl, HLE, hw⟩ := hrel
          subst hw
          rcases j with _ | j
          · obtain ⟨m, hm, HME⟩ : ∃ m : Nat, y = m ∧ m < n ∧ Hid (ordF (higC cats) (n5 + 1) = out ++ [(m : Int)]) := by
              obtain ⟨h1, h2, h3, h4⟩ := HM0.out
              rcases HLE with ⟨_, h⟩ | ⟨m, rfl, _, h5, h6, h7⟩
              · rw [h m0 (Nat.zero_le _) h1] at h3; exact absurd h3 (by simp)
              · have : m = m0 := by
                  rcases Nat.lt_trichotomy m m0 with hl | he | hl
                  · rw [h4 m hl] at h6; exact absurd h6 (by simp)
                  · exact he
                  · rw [h7 m0 (Nat.zero_le _) hl] at h3; exact absurd h3 (by simp)
                subst this
                exact ⟨m, rfl, h5, h2⟩
            subst hm
            go_wp2_with fail
            go_meet
            exact ⟨m, rfl, HME.1, HME.2.out, rfl⟩
          · have e : ((j + 1 : Nat) : Int) - 1 = (j : Int) := by omega
            rw [e]
            have hjn : j < n := by omega
            have d0 : W5.cell? ⟨d, j, none⟩ = some (.bool (decide ((j : Int) ∈ out))) := HD.out.cell (rowV_at hjn)
            have HLE2 := Lib.hid HLE
            clear e HLE
            obtain ⟨D, hDD⟩ : ∃ D : Nat → Bool, D = fun (i : Nat) => decide ((i : Int) ∈ out) := ⟨_, rfl⟩
            have HLJ := HLD.out j
            rw [← hDD] at HLJ
            have HLJ := Lib.hid HLJ
            have d1 : W5.cell? ⟨d, j, none⟩ = some (.bool (D j)) := by rw [hDD]; exact d0
            have HDC := Lib.hid (show ∀ c, c < n → W5.cell? ⟨d, c, none⟩ = some (.bool (D c)) from fun c hc => by rw [hDD]; exact HD.out.cell (rowV_at hc))
            clear d0 hDD
            go_wp2_with fail
            clear d1
            go_loopg [8, 9] n (fun gk ok a wr => ∃ c : Nat, c ≤ n ∧ n - c ≤ gk ∧ a = .int .i64 c ∧ ok = .bool (okT (tabF (higC cats) n) D j c) ∧ W5 = wr)
            case atStart => exact ⟨0, Nat.zero_le _, by omega, rfl, by rw [okT_zero], rfl⟩
            case round =>
              obtain ⟨c, hc, hgc, rfl, rfl, hw⟩ := hrel
              subst hw
              by_cases hcn : c < n
              · obtain ⟨bc, hbc⟩ : ∃ bc, bls[c]? = some bc := ⟨_, List.getElem?_eq_getElem (by omega)⟩
                have r0 := cell_mvN HB5.out (HT.out.outer hbc)
                have r1 := cell_mvN HB5.out (HT.out.inner hbc (j := j) hjn)
                have d1 := HDC.out c hcn
                have HSU := Lib.hid (okT_succ (tabF (higC cats) n) D j c)
                obtain ⟨s, hs⟩ : ∃ s, s = okT (tabF (higC cats) n) D j c := ⟨_, rfl⟩
                obtain ⟨t, ht⟩ : ∃ t, t = tabF (higC cats) n c j := ⟨_, rfl⟩
                obtain ⟨u, hu⟩ : ∃ u, u = D c := ⟨_, rfl⟩
                rw [← hs, ← ht, ← hu] at HSU
                rw [← hs]
                rw [← ht] at r1
                rw [← hu] at d1
                clear hs ht hu hbc
                cases s
                · go_wp2_with fail
                  go_roundg (n - (c + 1))
                  case measure => omega
                  case rel => exact ⟨c + 1, by omega, by omega, by go_num, by rw [HSU.out]; rfl, rfl⟩
                · cases t
                  · go_wp2_with fail
                    go_roundg (n - (c + 1))
                    case measure => omega
                    case rel => exact ⟨c + 1, by omega, by omega, by go_num, by rw [HSU.out]; rfl, rfl⟩
                  · go_wp2_with fail
                    go_roundg (n - (c + 1))
                    case measure => omega
                    case rel => exact ⟨c + 1, by omega, by omega, by go_num, by rw [HSU.out]; cases u <;> rfl, rfl⟩
              · obtain rfl : c = n := by omega
                rw [HLJ.out]
                cases ho : okO (higC cats) out j
                · have HN := Lib.hid (least_no HLE2.out ho)
                  clear ho
                  go_wp2_with fail
                  go_roundg j
                  case measure => omega
                  case rel => exact ⟨j, y, by omega, by omega, by go_num, rfl, HN.out, rfl⟩
                · have HN := Lib.hid (show leastOk (higC cats) out c j (j : Int) from .inr ⟨j, rfl, Nat.le_refl _, hjn, ho, fun i h1 h2 => by omega⟩)
                  clear ho
                  go_wp2_with fail
                  go_roundg j
                  case measure => omega
                  case rel => exact ⟨j, j, by omega, by omega, by go_num, rfl, HN.out, rfl⟩
      obtain ⟨m, rfl, hmn, HME, hw⟩ := hcut
      subst hw
      have d0 : W5.cell? ⟨d, m, none⟩ = some (.bool (decide ((m : Int) ∈ out))) := HD.out.cell (rowV_at hmn)
      have df := HD.out.free m
      have hOs := own_setCell_flat intC_flat HOWN.out (a := ⟨d, m, none⟩) (fun e => by have := (HOWN.out.lt d e).1; omega) (.bool true)
      have hDs : Blk (W5.setCell ⟨d, m, none⟩ (.bool true)) d (rowV n (fun b => if b = m then true else decide ((b : Int) ∈ out))) 4 := by
        have := HD.out.set (j := m) (.bool true)
        rwa [rowV_set] at this
      have hBs := HB5.out.setCell (p := ⟨d, m, none⟩) hd3 (.bool true)
      have hws : (W5.setCell ⟨d, m, none⟩ (.bool true)).heap.size = W5.heap.size := by simp [World.setCell]
      have HOS := Lib.hid (hOs.bel (bel1 (W5.setCell ⟨d, m, none⟩ (.bool true)) (.cells #[.int .i64 (m : Int)] 3)))
      have HDS := Lib.hid (hDs.bel (bel1 (W5.setCell ⟨d, m, none⟩ (.bool true)) (.cells #[.int .i64 (m : Int)] 3)))
      have HBS2 := Lib.hid (hBs.alloc hBs.size (.cells #[.int .i64 (m : Int)] 3))
      have hsq : BS ≤ ((W5.setCell ⟨d, m, none⟩ (.bool true)).alloc (.cells #[.int .i64 (m : Int)] 3)).heap.size := by simp; omega
      have HDX := Lib.hid (show rowV n (fun b => if b = m then true else decide ((b : Int) ∈ out)) = rowV n (fun j => decide ((j : Int) ∈ ordF (higC cats) (n5 + 1))) from rowV_congr fun j _ => by
        rw [show ordF (higC cats) (n5 + 1) = out ++ [(m : Int)] from HME]
        by_cases he : j = m
        · subst he; simp
        · have : ¬ (j : Int) = (m : Int) := by omega
          rw [if_neg he]; simp [this])
      have hsl := sl_int (W5.setCell ⟨d, m, none⟩ (.bool true)) All (m : Int) 3 (.of (by omega) (by omega)) trivial
      rw [hws] at hsl
      have HSLL := Lib.hid hsl
      clear hOs hDs hBs hws hsl
      have hb3' := HB3.out
      go_wp2_with (at_builtin; refine list_app (t := 30) (e := 3) (bytes := 8) rfl (.tmp 60) (.tmp 62) rfl int_elem intC_good rfl HOS.out rfl HSLL.out (fun _ _ hc => hc) (by rw [HOL.out]; omega) (by omega) hsq ?_; intro v' w' xs' hown' hg' _)
      have hbd' := HDS.out.grown hg' (fun e => by have := (HOS.out.lt d e.symm).1; omega)
      have HBE := Lib.hid (HBS2.out.grown hg' (Nat.le_trans hb3' hsq) (fun j hj => by have := (HOS.out.lt j hj).1; omega))
      have HSZ := Lib.hid (Nat.le_trans hsq hg'.size)
      have HBH5 := Lib.hid hbd'
      have HOWN5 := Lib.hid hown'
      clear hg' hbd' hown'
      go_roundg (n - (n5 + 1))
      case measure => omega
      case rel => exact ⟨n5 + 1, xs', by omega, by omega, by rw [show ordF (higC cats) (n5 + 1) = out ++ [(m : Int)] from HME]; exact HOWN5.out, by rw [← HDX.out]; exact HBH5.out, HSZ.out, HBE.out⟩
    · obtain rfl : n5 = n := by omega
      go_wp2_with fail
      go_ret
      exact ⟨_, xs, rfl, HOWN.out.mono intC_good (by have := HB2.out.size; have := HB3.out; omega), HB2.out.trans (HB4.out.mono HB2.out.size)⟩
end Go.Proofs.Ytpodgidamoiakaa
