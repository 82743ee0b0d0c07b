/-
  The law FolioTells returns true for every folio, every entry, every day and every penalty, and changes nothing that was there.
-/
import Derived.Test.YtehebngkjfjkbaaFolioJ
import Derived.Test.YtehebngkjfjkbaaFolioLift
import Derived.Test.YtehebngkjfjkbaaStepApp
namespace Go.Proofs.Ytehebngkjfjkbaa
open Go.ChangeShapes Go.WideShapes Go.ChangeAt Go.RowKit Go.Shelf

/-- What the law's last statement holds against one another. -/
theorem folioIs_same (l : List Entry) (e : Int) : folioIsB (okL e l) e e l = true := by simp [folioIsB]

theorem okL_okL (r : Int) (l : List Entry) : okL r (okL r l) = okL r l := by unfold okL; split <;> rfl

theorem sl_heap {w : World} {g : Nat} {d k m : Int} {t : TypeId} (hd : InI d) (hk : InI k) (hm : InI m) (h : w.heap[g]? = some (.cells #[.int .i64 d, .int .i64 k, .int .i64 m] t (0, 0))) :
    Sl entryC 3 w All (some ⟨g, 0, none⟩) 1 1 [⟨d, k, m⟩] := by
  refine ⟨rfl, Nat.le_refl _, by simp [maxLen], fun i y hy => ?_⟩
  have hi : i = 0 := by have := (List.getElem?_eq_some_iff.1 hy).1; simp at this; omega
  subst hi
  simp at hy
  subst hy
  exact ⟨g, 0, _, rfl, trivial, ⟨rfl, hd, hk, hm⟩, rfl, fun j u hu => by rw [cell_of_row w g _ _ t (0, 0) h]; simpa using hu⟩

set_option maxRecDepth 100000 in
set_option maxHeartbeats 8000000 in
theorem FolioTells_walk (W : World) (A : Option Addr) (n cap : Nat) (l : List Entry) (h : Sl entryC 3 W All A n cap l) (cs : Array Value) (x : Entry) (hx : entryC W All x cs.toList) (d : Int) (hd : InI d) (p : Int) (hp : InI p) :
    Calls Try.prog 3 #[.slice A n cap, .agg cs, .int .i64 d, .int .i64 p] W fun e w' => e = .returned (.bool true) ∧ Below W.heap.size W w' := by
  obtain ⟨hcs, x0, x1, x2⟩ := hx
  obtain ⟨cs⟩ := cs
  simp only at hcs
  subst hcs
  have hlen := Lib.hid h.len
  obtain ⟨r, hr⟩ : ∃ r, r = checkFolio l := ⟨_, rfl⟩
  obtain ⟨ra, hra⟩ : ∃ ra, ra = addE l x := ⟨_, rfl⟩
  obtain ⟨rc, hrc⟩ : ∃ rc, rc = cancelE l d p := ⟨_, rfl⟩
  have HR := Lib.hid hr
  have HRA := Lib.hid hra
  have HRC := Lib.hid hrc
  clear hr hra hrc
  have hb0 : Below W.heap.size W (W.alloc (.cells #[.int .i64 x.day, .int .i64 x.kind, .int .i64 x.amount] 24)) := (Below.refl _ _).alloc (Nat.le_refl _) _
  have how := Owed_any A n cap l _ (h.below entryC_good (by omega) hb0)
  rw [← HR.out] at how
  have HO := Lib.hid how
  clear how
  go_enter Try.func3, Try.ntmps3
  go_wp2_with fail
  refine HO.out.mono ?_
  rintro e w1 ⟨rfl, hb1⟩
  have hx0 : w1.cell? ⟨W.heap.size, 0, none⟩ = some (.int .i64 x.day) := (hb1.cell (p := ⟨W.heap.size, 0, none⟩) (by simp)).trans (by simp)
  have hx1 : w1.cell? ⟨W.heap.size, 1, none⟩ = some (.int .i64 x.kind) := (hb1.cell (p := ⟨W.heap.size, 1, none⟩) (by simp)).trans (by simp)
  have hx2 : w1.cell? ⟨W.heap.size, 2, none⟩ = some (.int .i64 x.amount) := (hb1.cell (p := ⟨W.heap.size, 2, none⟩) (by simp)).trans (by simp)
  have hlt : W.heap.size < w1.heap.size := cell_lt hx0
  replace hb1 := hb0.trans (hb1.mono hb0.size)
  go_wp2_with fail
  have hadd := Add_any A n cap l x.day x.kind x.amount w1 (h.below entryC_good (by omega) hb1) x0 x1 x2
  rw [show addE l ⟨x.day, x.kind, x.amount⟩ = ra from HRA.out.symm] at hadd
  refine hadd.mono ?_
  rintro e w2 ⟨v2, xs2, rfl, hown2, hb2⟩
  obtain ⟨A2, n2, cap2, rfl, hs2⟩ := hown2.sl entryC_good
  replace hs2 := hs2.all entryC_good (by omega)
  clear hadd hown2
  replace hx0 := (hb2.cell (p := ⟨W.heap.size, 0, none⟩) hlt).trans hx0
  replace hx1 := (hb2.cell (p := ⟨W.heap.size, 1, none⟩) hlt).trans hx1
  replace hx2 := (hb2.cell (p := ⟨W.heap.size, 2, none⟩) hlt).trans hx2
  replace hb1 := hb1.trans (hb2.mono hb1.size)
  clear hb2
  go_wp2_with fail
  have hcan := Cancel_any A n cap l d p w2 (h.below entryC_good (by omega) hb1) hd hp
  rw [← HRC.out] at hcan
  refine hcan.mono ?_
  rintro e w3 ⟨v3, xs3, rfl, hown3, hb3⟩
  obtain ⟨A3, n3, cap3, rfl, hs3⟩ := hown3.sl entryC_good
  replace hs3 := hs3.all entryC_good (by omega)
  replace hs2 := hs2.below entryC_good (by omega) hb3
  clear hcan hown3
  have hlt := cell_lt hx0
  replace hx0 := (hb3.cell (p := ⟨W.heap.size, 0, none⟩) hlt).trans hx0
  replace hx1 := (hb3.cell (p := ⟨W.heap.size, 1, none⟩) hlt).trans hx1
  replace hx2 := (hb3.cell (p := ⟨W.heap.size, 2, none⟩) hlt).trans hx2
  replace hb1 := hb1.trans (hb3.mono hb1.size)
  clear hb3
  have hck := CheckFolio_any A n cap l w3 (h.below entryC_good (by omega) hb1)
  rw [← HR.out] at hck
  have HK := Lib.hid hck
  clear hck
  go_wp2_with fail
  refine HK.out.mono ?_
  rintro e w4 ⟨rfl, hb4⟩
  replace hs3 := hs3.below entryC_good (by omega) hb4
  replace hs2 := hs2.below entryC_good (by omega) hb4
  have hlt := cell_lt hx0
  replace hx0 := (hb4.cell (p := ⟨W.heap.size, 0, none⟩) hlt).trans hx0
  replace hx1 := (hb4.cell (p := ⟨W.heap.size, 1, none⟩) hlt).trans hx1
  replace hx2 := (hb4.cell (p := ⟨W.heap.size, 2, none⟩) hlt).trans hx2
  replace hb1 := hb1.trans (hb4.mono hb1.size)
  clear hb4 HK
  by_cases hr0 : r = 0
  · subst hr0
    rw [okI_zero]
    have hsm := check_small HR.out.symm
    go_wp2_with fail
    refine (SumOf_any A n cap l 0 _ (h.below entryC_good (by omega) hb1) hsm).mono ?_
    rintro e w5 ⟨rfl, rfl⟩
    rw [sumOfK_zero]
    go_upto_region 10 with (fail)
    go_cut [19] (fun v wx => OwnE W wx v (l ++ [x]) ∧ Below w4.heap.size w4 wx)
    case first =>
      have hlt := cell_lt hx0
      have hsl := h.below entryC_good (by omega) hb1
      have hbA : Below w4.heap.size w4 (w4.alloc (.cells #[] 24)).drew := ((Below.refl _ w4).alloc (Nat.le_refl _) _).drew
      have hbB : Below w4.heap.size w4 ((w4.alloc (.cells #[] 24)).alloc (.cells #[.int .i64 x.day, .int .i64 x.kind, .int .i64 x.amount] 24)).drew := (((Below.refl _ w4).alloc (Nat.le_refl _) _).alloc (by simp) _).drew
      have hbC : Below w4.heap.size w4 ((w4.alloc (.cells #[.int .i64 x.day, .int .i64 x.kind, .int .i64 x.amount] 24)).alloc (.cells #[] 24)).drew := (((Below.refl _ w4).alloc (Nat.le_refl _) _).alloc (by simp) _).drew
      have hownA : Own entryC 3 24 (w4.alloc (.cells #[] 24)).drew w4.heap.size (.slice (some ⟨w4.heap.size, 0, none⟩) 0 0) [] [] := Own.empty _ _ (Nat.le_refl _) (heap_alloc_new w4 _)
      have hownB : Own entryC 3 24 ((w4.alloc (.cells #[] 24)).alloc (.cells #[.int .i64 x.day, .int .i64 x.kind, .int .i64 x.amount] 24)).drew w4.heap.size (.slice (some ⟨w4.heap.size, 0, none⟩) 0 0) [] [] := Own.empty _ _ (Nat.le_refl _) ((Below.heap_alloc (w4.alloc _) _ w4.heap.size (by simp)).trans (heap_alloc_new w4 _))
      have hownC : Own entryC 3 24 ((w4.alloc (.cells #[.int .i64 x.day, .int .i64 x.kind, .int .i64 x.amount] 24)).alloc (.cells #[] 24)).drew w4.heap.size (.slice (some ⟨w4.heap.size + 1, 0, none⟩) 0 0) [] [] := Own.empty _ _ (by omega) (by have := heap_alloc_new (w4.alloc (.cells #[.int .i64 x.day, .int .i64 x.kind, .int .i64 x.amount] 24)) (.cells #[] 24); rw [World.size_alloc] at this; exact this)
      have hslA := hsl.below entryC_good (by omega) hbA
      have hslB := hsl.below entryC_good (by omega) hbB
      have hslC := hsl.below entryC_good (by omega) hbC
      have hby1 : (([] : List Entry).length + n) * 24 ≤ 140737488355328 := by have := check_len HR.out.symm; have := hlen.out; simp; omega
      have hby2 : (l.length + 1) * 24 ≤ 140737488355328 := by have := check_len HR.out.symm; omega
      have hzB1 : w4.heap.size + 1 < ((w4.alloc (.cells #[] 24)).alloc (.cells #[.int .i64 x.day, .int .i64 x.kind, .int .i64 x.amount] 24)).drew.heap.size := by rw [World.size_drew, World.size_alloc, World.size_alloc]; omega
      have hzC1 : w4.heap.size < ((w4.alloc (.cells #[.int .i64 x.day, .int .i64 x.kind, .int .i64 x.amount] 24)).alloc (.cells #[] 24)).drew.heap.size := by rw [World.size_drew, World.size_alloc, World.size_alloc]; omega
      have hneB : some (w4.heap.size + 1) ≠ some w4.heap.size := fun e => by injection e with e2; omega
      have hneC : some w4.heap.size ≠ some (w4.heap.size + 1) := fun e => by injection e with e2; omega
      have hXB : ((w4.alloc (.cells #[] 24)).alloc (.cells #[.int .i64 x.day, .int .i64 x.kind, .int .i64 x.amount] 24)).drew.heap[w4.heap.size + 1]? = some (.cells #[.int .i64 x.day, .int .i64 x.kind, .int .i64 x.amount] 24) := by have := heap_alloc_new (w4.alloc (.cells #[] 24)) (.cells #[.int .i64 x.day, .int .i64 x.kind, .int .i64 x.amount] 24); rw [World.size_alloc] at this; exact this
      have hXC : ((w4.alloc (.cells #[.int .i64 x.day, .int .i64 x.kind, .int .i64 x.amount] 24)).alloc (.cells #[] 24)).drew.heap[w4.heap.size]? = some (.cells #[.int .i64 x.day, .int .i64 x.kind, .int .i64 x.amount] 24) := (Below.heap_alloc (w4.alloc (.cells #[.int .i64 x.day, .int .i64 x.kind, .int .i64 x.amount] 24)) (.cells #[] 24) w4.heap.size (by simp)).trans (heap_alloc_new w4 (.cells #[.int .i64 x.day, .int .i64 x.kind, .int .i64 x.amount] 24))
      go_region_law (first
        | (refine step_app (t := 22) (e := 24) (bytes := 24) (base := w4.heap.size) (c := entryC) (l := []) (xs := []) (l2 := l) (S := All) rfl (.tmp 47) (.tmp 48) rfl entry_elem entryC_good rfl rfl hownA hslA (fun _ _ hc => hc) hby1 (by omega) hbA.size ?_; intro v' w' xs' hown' hg' hat'; have hbw : Below w4.heap.size w4 w' := below_app hbA hownA hg' hbA.size; have hz' := hbw.size; have hx0' := (hbw.cell (p := ⟨W.heap.size, 0, none⟩) hlt).trans hx0; have hx1' := (hbw.cell (p := ⟨W.heap.size, 1, none⟩) hlt).trans hx1; have hx2' := (hbw.cell (p := ⟨W.heap.size, 2, none⟩) hlt).trans hx2; have hownD := hown'.below entryC_good ((Below.refl w'.heap.size w').alloc (Nat.le_refl _) (.cells #[.int .i64 x.day, .int .i64 x.kind, .int .i64 x.amount] 24)); have hslD := sl_entry w' All x.day x.kind x.amount 24 x0 x1 x2 trivial; have hbD := hbw.alloc hbw.size (.cells #[.int .i64 x.day, .int .i64 x.kind, .int .i64 x.amount] 24); clear hownA hownB hownC hslA hslB hslC)
        | (refine step_app (t := 22) (e := 24) (bytes := 24) (base := w4.heap.size) (c := entryC) (l := []) (xs := []) (l2 := l) (S := All) rfl (.tmp 47) (.tmp 48) rfl entry_elem entryC_good rfl rfl hownB hslB (fun _ _ hc => hc) hby1 (by omega) hbB.size ?_; intro v' w' xs' hown' hg' hat'; have hbw : Below w4.heap.size w4 w' := below_app hbB hownB hg' hbB.size; have hz' := hbw.size; have hslD := sl_heap (w := w') x0 x1 x2 ((hg'.block (w4.heap.size + 1) hzB1 hneB).trans hXB); have hownD := hown'; have hbD := hbw; clear hownA hownB hownC hslA hslB hslC)
        | (refine step_app (t := 22) (e := 24) (bytes := 24) (base := w4.heap.size) (c := entryC) (l := []) (xs := []) (l2 := l) (S := All) rfl (.tmp 47) (.tmp 48) rfl entry_elem entryC_good rfl rfl hownC hslC (fun _ _ hc => hc) hby1 (by omega) hbC.size ?_; intro v' w' xs' hown' hg' hat'; have hbw : Below w4.heap.size w4 w' := below_app hbC hownC hg' hbC.size; have hz' := hbw.size; have hslD := sl_heap (w := w') x0 x1 x2 ((hg'.block w4.heap.size hzC1 hneC).trans hXC); have hownD := hown'; have hbD := hbw; clear hownA hownB hownC hslA hslB hslC)
        | (refine step_app (t := 22) (e := 24) (bytes := 24) (base := w4.heap.size) (c := entryC) (l := l) (l2 := [x]) (S := All) rfl (.tmp 49) (.tmp 51) rfl entry_elem entryC_good rfl rfl hownD hslD (fun _ _ hc => hc) hby2 (by omega) hbD.size ?_; intro v2 w2 xs2 hown2 hg2 hat2; have hbE := below_app hbD hownD hg2 hbD.size))
      all_goals
        obtain ⟨A5, n5, cap5, rfl, _⟩ := hown2.sl entryC_good
        go_wp2_with fail
        go_meet
        exact ⟨⟨_, _, _, _, rfl, hown2.mono entryC_good hb1.size, hb1.trans (hbE.mono hb1.size)⟩, hbE⟩
    case rest =>
      obtain ⟨⟨A5, n5, cap5, xs5, rfl, hown5, _⟩, hb5⟩ := hcut
      obtain ⟨A5', n5', cap5', he, hs5⟩ := hown5.sl entryC_good
      injection he with e1 e2 e3
      subst e1 e2 e3
      replace hs5 := hs5.all entryC_good (by omega)
      replace hs2 := hs2.below entryC_good (by omega) hb5
      replace hs3 := hs3.below entryC_good (by omega) hb5
      replace hb1 := hb1.trans (hb5.mono hb1.size)
      clear hown5 hb5 hx0 hx1 hx2 hlt hb0
      have hu : checkFolio (l ++ [x]) = ra := by rw [HRA.out]; unfold addE; rw [if_pos HR.out.symm]
      have hck5 := CheckFolio_any _ _ _ _ _ hs5
      rw [hu] at hck5
      have HK5 := Lib.hid hck5
      clear hu hck5
      go_wp2_with fail
      refine HK5.out.mono ?_
      rintro e w6 ⟨rfl, hb6⟩
      replace hs2 := hs2.below entryC_good (by omega) hb6
      replace hs3 := hs3.below entryC_good (by omega) hb6
      replace hs5 := hs5.below entryC_good (by omega) hb6
      replace hb1 := hb1.trans (hb6.mono hb1.size)
      clear hb6 HK5
      by_cases hpr : p < 0 ∨ 100000000 < p
      · have hrc : rc = 3 := by rw [HRC.out]; unfold cancelE; rw [if_neg (by rw [← HR.out]; simp), if_pos hpr]
        subst hrc
        rcases hpr with hpr | hpr
        · go_wp2_with fail
          refine (folioBegun_any _).mono ?_
          rintro e w7 ⟨rfl, hb7⟩
          replace hs2 := hs2.below entryC_good (by omega) hb7
          replace hs3 := hs3.below entryC_good (by omega) hb7
          replace hs5 := hs5.below entryC_good (by omega) hb7
          replace hb1 := hb1.trans (hb7.mono hb1.size)
          clear hb7
          have hck8 := Check_any A n cap l w7 (h.below entryC_good (by omega) hb1)
          rw [← HR.out] at hck8
          have HK8 := Lib.hid hck8
          clear hck8
          go_wp2_with fail
          refine HK8.out.mono ?_
          rintro e w8 ⟨rfl, hb8⟩
          replace hs2 := hs2.below entryC_good (by omega) hb8
          replace hs3 := hs3.below entryC_good (by omega) hb8
          replace hs5 := hs5.below entryC_good (by omega) hb8
          replace hb1 := hb1.trans (hb8.mono hb1.size)
          clear hb8
          have hf9 := folioIs_any _ _ _ _ _ _ _ _ ra ra w8 hs2 hs5
          rw [folioIs_same] at hf9
          have HF9 := Lib.hid hf9
          clear hf9
          go_wp2_with fail
          refine HF9.out.mono ?_
          rintro e w9 ⟨rfl, hb9⟩
          replace hs3 := hs3.below entryC_good (by omega) hb9
          replace hb1 := hb1.trans (hb9.mono hb1.size)
          clear hb9
          have hf10 := folioIs_any _ _ _ _ _ _ _ _ 3 3 w9 hs3 (Sl.nil w9 All entryC 3)
          rw [show folioIsB (okL 3 (cancelL l d p)) 3 3 [] = true from rfl] at hf10
          have HF10 := Lib.hid hf10
          clear hf10
          go_wp2_with fail
          refine HF10.out.mono ?_
          rintro e w10 ⟨rfl, hb10⟩
          go_wp2_with fail
          go_ret
          exact ⟨rfl, hb1.trans (hb10.mono hb1.size)⟩
        · have hpr2 : ¬ p < 0 := by omega
          go_wp2_with fail
          refine (folioBegun_any _).mono ?_
          rintro e w7 ⟨rfl, hb7⟩
          replace hs2 := hs2.below entryC_good (by omega) hb7
          replace hs3 := hs3.below entryC_good (by omega) hb7
          replace hs5 := hs5.below entryC_good (by omega) hb7
          replace hb1 := hb1.trans (hb7.mono hb1.size)
          clear hb7
          have hck8 := Check_any A n cap l w7 (h.below entryC_good (by omega) hb1)
          rw [← HR.out] at hck8
          have HK8 := Lib.hid hck8
          clear hck8
          go_wp2_with fail
          refine HK8.out.mono ?_
          rintro e w8 ⟨rfl, hb8⟩
          replace hs2 := hs2.below entryC_good (by omega) hb8
          replace hs3 := hs3.below entryC_good (by omega) hb8
          replace hs5 := hs5.below entryC_good (by omega) hb8
          replace hb1 := hb1.trans (hb8.mono hb1.size)
          clear hb8
          have hf9 := folioIs_any _ _ _ _ _ _ _ _ ra ra w8 hs2 hs5
          rw [folioIs_same] at hf9
          have HF9 := Lib.hid hf9
          clear hf9
          go_wp2_with fail
          refine HF9.out.mono ?_
          rintro e w9 ⟨rfl, hb9⟩
          replace hs3 := hs3.below entryC_good (by omega) hb9
          replace hb1 := hb1.trans (hb9.mono hb1.size)
          clear hb9
          have hf10 := folioIs_any _ _ _ _ _ _ _ _ 3 3 w9 hs3 (Sl.nil w9 All entryC 3)
          rw [show folioIsB (okL 3 (cancelL l d p)) 3 3 [] = true from rfl] at hf10
          have HF10 := Lib.hid hf10
          clear hf10
          go_wp2_with fail
          refine HF10.out.mono ?_
          rintro e w10 ⟨rfl, hb10⟩
          go_wp2_with fail
          go_ret
          exact ⟨rfl, hb1.trans (hb10.mono hb1.size)⟩
      · have hp0 : 0 ≤ p := by omega
        have hp1 : p ≤ 100000000 := by omega
        have hrc : rc = checkFolio (cancelL l d p) := by rw [HRC.out]; unfold cancelE; rw [if_neg (by rw [← HR.out]; simp), if_neg hpr]
        have hco := CancelOf_any A n cap l d p w6 (h.below entryC_good (by omega) hb1) hd hp HR.out.symm hp0 hp1
        rw [← hrc] at hco
        have HCO := Lib.hid hco
        have hpn : ¬ p < 0 := by omega
        have hpn2 : ¬ 100000000 < p := by omega
        clear hco hrc hpr
        go_wp2_with fail
        refine HCO.out.mono ?_
        rintro e w7 ⟨v7, xs7, rfl, hown7, hb7⟩
        obtain ⟨A7, n7, cap7, rfl, hs7⟩ := hown7.sl entryC_good
        replace hs7 := hs7.all entryC_good (by omega)
        replace hs2 := hs2.below entryC_good (by omega) hb7
        replace hs3 := hs3.below entryC_good (by omega) hb7
        replace hs5 := hs5.below entryC_good (by omega) hb7
        replace hb1 := hb1.trans (hb7.mono hb1.size)
        clear hb7 hown7 HCO
        go_wp2_with fail
        refine (folioBegun_any _).mono ?_
        rintro e w8 ⟨rfl, hb7⟩
        replace hs7 := hs7.below entryC_good (by omega) hb7
        replace hs2 := hs2.below entryC_good (by omega) hb7
        replace hs3 := hs3.below entryC_good (by omega) hb7
        replace hs5 := hs5.below entryC_good (by omega) hb7
        replace hb1 := hb1.trans (hb7.mono hb1.size)
        clear hb7
        have hck8 := Check_any A n cap l w8 (h.below entryC_good (by omega) hb1)
        rw [← HR.out] at hck8
        have HK8 := Lib.hid hck8
        clear hck8
        go_wp2_with fail
        refine HK8.out.mono ?_
        rintro e w9 ⟨rfl, hb8⟩
        replace hs7 := hs7.below entryC_good (by omega) hb8
        replace hs2 := hs2.below entryC_good (by omega) hb8
        replace hs3 := hs3.below entryC_good (by omega) hb8
        replace hs5 := hs5.below entryC_good (by omega) hb8
        replace hb1 := hb1.trans (hb8.mono hb1.size)
        clear hb8
        have hf9 := folioIs_any _ _ _ _ _ _ _ _ ra ra w9 hs2 hs5
        rw [folioIs_same] at hf9
        have HF9 := Lib.hid hf9
        clear hf9
        go_wp2_with fail
        refine HF9.out.mono ?_
        rintro e w10 ⟨rfl, hb9⟩
        replace hs7 := hs7.below entryC_good (by omega) hb9
        replace hs3 := hs3.below entryC_good (by omega) hb9
        replace hb1 := hb1.trans (hb9.mono hb1.size)
        clear hb9
        have hf10 := folioIs_any _ _ _ _ _ _ _ _ rc rc w10 hs3 hs7
        rw [show folioIsB (okL rc (cancelL l d p)) rc rc (okL rc (cancelL l d p)) = true by simp [folioIsB, okL_okL]] at hf10
        have HF10 := Lib.hid hf10
        clear hf10
        go_wp2_with fail
        refine HF10.out.mono ?_
        rintro e w11 ⟨rfl, hb10⟩
        go_wp2_with fail
        go_ret
        exact ⟨rfl, hb1.trans (hb10.mono hb1.size)⟩
  · have hr1 : (r == 0) = false := by simpa using hr0
    have hra : ra = r := by rw [HRA.out]; unfold addE; rw [if_neg (by rw [← HR.out]; exact hr0)]; exact HR.out.symm
    have hrc : rc = r := by rw [HRC.out]; unfold cancelE; rw [if_pos (by rw [← HR.out]; exact hr0)]; exact HR.out.symm
    rw [hra] at hs2 ⊢
    rw [hrc] at hs3 ⊢
    rw [okI_ne hr0]
    rw [okL_ne hr0] at hs2 hs3
    clear hx0 hx1 hx2 hlt hb0 hra hrc
    have HR0 := Lib.hid hr0
    clear hr0
    go_wp2_with fail
    refine (folioBegun_any _).mono ?_
    rintro e w8 ⟨rfl, hb7⟩
    replace hs2 := hs2.below entryC_good (by omega) hb7
    replace hs3 := hs3.below entryC_good (by omega) hb7
    replace hb1 := hb1.trans (hb7.mono hb1.size)
    clear hb7
    have hck8 := Check_any A n cap l w8 (h.below entryC_good (by omega) hb1)
    rw [← HR.out] at hck8
    have HK8 := Lib.hid hck8
    clear hck8
    go_wp2_with fail
    refine HK8.out.mono ?_
    rintro e w9 ⟨rfl, hb8⟩
    replace hs2 := hs2.below entryC_good (by omega) hb8
    replace hs3 := hs3.below entryC_good (by omega) hb8
    replace hb1 := hb1.trans (hb8.mono hb1.size)
    clear hb8
    have hff : folioIsB [] r r [] = true := by simp [folioIsB, okL_ne HR0.out]
    have hf9 := folioIs_any _ _ _ _ _ _ _ _ r r w9 hs2 (Sl.nil w9 All entryC 3)
    rw [hff] at hf9
    have HF9 := Lib.hid hf9
    clear hf9
    go_wp2_with fail
    refine HF9.out.mono ?_
    rintro e w10 ⟨rfl, hb9⟩
    replace hs3 := hs3.below entryC_good (by omega) hb9
    replace hb1 := hb1.trans (hb9.mono hb1.size)
    clear hb9
    have hf10 := folioIs_any _ _ _ _ _ _ _ _ r r w10 hs3 (Sl.nil w10 All entryC 3)
    rw [hff] at hf10
    have HF10 := Lib.hid hf10
    clear hf10 hff
    go_wp2_with fail
    refine HF10.out.mono ?_
    rintro e w11 ⟨rfl, hb10⟩
    go_wp2_with fail
    go_ret
    exact ⟨rfl, hb1.trans (hb10.mono hb1.size)⟩

set_option maxRecDepth 100000 in
theorem FolioTells_lifted (os : Os) (started : os.Started) (H : Type) (enc : TypeId × Value → H) :
    ReturnsInHanded {} Try.checked os 3 .any (Rows.folioTellsSpec.pre6 enc Try.prog Try.f3 Rows.folioTellsRow.domain false) (Rows.folioTellsSpec.post enc Try.prog Try.f3 false true false false) := by
  refine returnsInHanded_of_change (C := Try.checked) own started (by kernel_rfl) Try.func3
    (ChangeSpec.witness6 (enc := enc) (C := Try.checked) false ⟨#[], #[.slice none 0 0, .agg #[.int .i64 0, .int .i64 0, .int .i64 0], .int .i64 0, .int .i64 0], []⟩ 8 (by kernel_rfl) (by kernel_rfl) (by kernel_rfl) (by kernel_rfl)) ?_
  intro W base args ds gs before hval0 hW hcnd _
  have hval : ∀ (j : Nat) t v, Try.f3.params[j]? = some t → args[j]? = some v → Value.okWide Try.prog W .any base t v := hval0
  have hW' := hW
  obtain ⟨p, q, hA0, hV, rfl, hfz, hnd⟩ := hW
  have hA : DataW.TrodAll enc Try.prog W 0 (fun _ => true) true Try.f3.params.toList args.toList ds p := hA0
  rw [Try.params3] at hA hval
  obtain ⟨v0, vs0, d0, ds0, p0, q0, hargs, rfl, rfl, h0, r0⟩ := trodAll_cons hA
  obtain ⟨v1, vs1, d1, ds1, p1, q1, rfl, rfl, rfl, h1, r1⟩ := trodAll_cons r0
  obtain ⟨v2, vs2, d2, ds2, p2, q2, rfl, rfl, rfl, h2, r2⟩ := trodAll_cons r1
  obtain ⟨v3, vs3, d3, ds3, p3, q3, rfl, rfl, rfl, h3, r3⟩ := trodAll_cons r2
  obtain ⟨rfl, rfl, rfl⟩ := trodAll_nil r3
  obtain rfl : args = #[v0, v1, v2, v3] := by cases args; simp_all
  obtain ⟨rfl, rfl⟩ := trodVars_none hV
  have lt0 := arg_lt h0
  have k0 := h0
  obtain ⟨A0, n0, c0, a0, rfl, w0⟩ := arg_sl (size := 3) Try.underlying22 (by kernel_rfl) (by omega) opens_entryC (hval 0 22 v0 rfl rfl) h0
  have lt1 := arg_lt h1
  have k1 := h1
  obtain ⟨cs1, a1, rfl, w1⟩ := arg_agg (c := entryC) Try.underlying24 opens_entryC (hval 1 24 v1 rfl rfl) h1
  have lt2 := arg_lt h2
  have k2 := h2
  obtain ⟨a2, rfl, w2⟩ := arg_int Try.underlying3 (hval 2 3 v2 rfl rfl) h2
  have lt3 := arg_lt h3
  have k3 := h3
  obtain ⟨a3, rfl, w3⟩ := arg_int Try.underlying3 (hval 3 3 v3 rfl rfl) h3
  clear hA0 hval0
  refine (FolioTells_walk W A0 n0 c0 a0 w0 cs1 a1 w1 a2 w2 a3 w3).mono fun e W' ⟨he, bel⟩ => ?_
  subst he
  exact ⟨_, rfl, _, _, _, [], _, [], hW', trodAll_mk1 (shut_bool Try.underlying4 _), (trodAll_cons_mk (Below.trod laidOut (by kernel_rfl) (of_decide_eq_true (by kernel_rfl)) k0 bel lt0) (trodAll_cons_mk (Below.trod laidOut (by kernel_rfl) (of_decide_eq_true (by kernel_rfl)) k1 bel lt1) (trodAll_cons_mk (Below.trod laidOut (by kernel_rfl) (of_decide_eq_true (by kernel_rfl)) k2 bel lt2) (trodAll_cons_mk (Below.trod laidOut (by kernel_rfl) (of_decide_eq_true (by kernel_rfl)) k3 bel lt3) trodAll_mk0)))), rfl, bel.frame _, fun h => by cases h⟩

/-- THE GIVEN STATEMENT FolioTells. -/
theorem folioTells_holds : Rows.FolioTellsSaid :=
  OpenClaim.holds_of_wide 3 Try.f3 rfl rfl rfl rfl rfl rfl rfl ⟨rfl, rfl, rfl, rfl, rfl⟩ rfl rfl rfl rfl rfl (by kernel_rfl) Try.func3 (by kernel_rfl)
    (of_decide_eq_true (by kernel_rfl)) (by unfold Func.isWrapper; rw [if_neg (of_decide_eq_false (by kernel_rfl))]; exact ⟨rfl, rfl⟩)
    (fun os started H enc _ => FolioTells_lifted os started H enc)
#print axioms folioTells_holds
end Go.Proofs.Ytehebngkjfjkbaa
