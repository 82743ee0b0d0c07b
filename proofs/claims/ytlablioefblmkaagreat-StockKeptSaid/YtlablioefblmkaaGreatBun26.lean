/-
  Words, laws and contracts: StockH, MatchL, MatchP, MatchR, MatchT.
-/
import Derived.Test.YtlablioefblmkaaGreatBun25
/-
  Sailings: Promises, Free.
-/
namespace Go.Proofs.YtlablioefblmkaaGreat
open Go.RowKit Go.Shelf

set_option maxRecDepth 100000 in
set_option maxHeartbeats 8000000 in
theorem Promises_any (x : Sai) (p : SaiV) (w : World) (h : SaiR w x p) :
    Calls Tryz.prog 15 #[.agg (saiA x p)] w fun e w' => ∃ v1 v2 xs1 xs2, e = .returned (.tuple #[v1, v2, .int .i64 (saiE x)]) ∧ Own intC 1 3 w' w.heap.size v1 (okL (saiE x) (idsL x)) xs1 ∧ Own edgC 2 95 w' w.heap.size v2 (okL (saiE x) (edgL x)) xs2 ∧ Below w.heap.size w w' := by
  have HCK := Lib.hid (fun W h => saiCheck_any x p W h)
  have HOP := Lib.hid (fun W h (hb : OkBs x) => Open_any x p W h hb.ship hb.bk hb.len)
  have HS := Lib.hid h
  obtain ⟨A, n, cap, B, m, cap2, D, nd, cd, E, ne, ce, C, nb, cb⟩ := p
  obtain ⟨r, hr⟩ : ∃ r, r = saiE x := ⟨_, rfl⟩
  rw [← hr] at HCK
  rw [← hr]
  have HR := Lib.hid hr
  clear hr
  clear h
  go_enter Tryz.func15, Tryz.ntmps15
  go_upto_region 0 with (fail)
  go_cut [1, 2, 3, 4] (fun q _ _ _ wx => ∃ g, q = .pointer (some ⟨g, 0, none⟩) ∧ Blk wx g (saiA x ⟨A, n, cap, B, m, cap2, D, nd, cd, E, ne, ce, C, nb, cb⟩) 32 ∧ Below w.heap.size w wx)
  case first => as_aux_lemma =>
    go_wp2_with fail
    go_meet
    exact ⟨_, rfl, blk1 _ _, bel1 _ _⟩
  obtain ⟨g, rfl, hG, hbw⟩ := hcut
  have s0 : wc.cell? ⟨g, 0, none⟩ = some (.int .i64 x.ship.legs) := hG.cell rfl
  have s1 : wc.cell? ⟨g, 1, none⟩ = some (.int .i64 x.ship.souls) := hG.cell rfl
  have s2 : wc.cell? ⟨g, 2, none⟩ = some (.slice A n cap) := hG.cell rfl
  have s3 : wc.cell? ⟨g, 3, none⟩ = some (.slice B m cap2) := hG.cell rfl
  have s4 : wc.cell? ⟨g, 4, none⟩ = some (.slice D nd cd) := hG.cell rfl
  have s5 : wc.cell? ⟨g, 5, none⟩ = some (.int .i64 x.fares.alone) := hG.cell rfl
  have s6 : wc.cell? ⟨g, 6, none⟩ = some (.int .i64 x.fares.third) := hG.cell rfl
  have s7 : wc.cell? ⟨g, 7, none⟩ = some (.slice E ne ce) := hG.cell rfl
  have s8 : wc.cell? ⟨g, 8, none⟩ = some (.int .i64 x.fares.down) := hG.cell rfl
  have s9 : wc.cell? ⟨g, 9, none⟩ = some (.int .i64 x.day) := hG.cell rfl
  have s10 : wc.cell? ⟨g, 10, none⟩ = some (.int .i64 x.leaves) := hG.cell rfl
  have s11 : wc.cell? ⟨g, 11, none⟩ = some (.slice C nb cb) := hG.cell rfl
  have s12 : wc.cell? ⟨g, 12, none⟩ = some (.bool x.closed) := hG.cell rfl
  have HCALL := Lib.hid (HCK.out wc (HS.out.bel hbw))
  go_wp2_with fail
  refine HCALL.out.mono ?_
  rintro e w2 ⟨rfl, hb2⟩
  replace hG := hG.bel hb2
  replace hbw := hbw.trans (hb2.mono hbw.size)
  clear hb2 s0 s1 s2 s3 s4 s5 s6 s7 s8 s9 s10 s11 s12 HCALL HCK
  by_cases h0 : r = 0
  rotate_left
  · have h0' : (r != 0) = true := by simpa using h0
    have H0 := Lib.hid h0
    clear h0 hG
    go_wp2_with fail
    go_ret3
    exact ⟨_, _, [], [], rfl, Own.nilE H0.out, Own.nilE H0.out, hbw⟩
  subst h0
  have HOK := Lib.hid (sai_ok HR.out.symm)
  have s0 : w2.cell? ⟨g, 0, none⟩ = some (.int .i64 x.ship.legs) := hG.cell rfl
  have s1 : w2.cell? ⟨g, 1, none⟩ = some (.int .i64 x.ship.souls) := hG.cell rfl
  have s2 : w2.cell? ⟨g, 2, none⟩ = some (.slice A n cap) := hG.cell rfl
  have s3 : w2.cell? ⟨g, 3, none⟩ = some (.slice B m cap2) := hG.cell rfl
  have s4 : w2.cell? ⟨g, 4, none⟩ = some (.slice D nd cd) := hG.cell rfl
  have s5 : w2.cell? ⟨g, 5, none⟩ = some (.int .i64 x.fares.alone) := hG.cell rfl
  have s6 : w2.cell? ⟨g, 6, none⟩ = some (.int .i64 x.fares.third) := hG.cell rfl
  have s7 : w2.cell? ⟨g, 7, none⟩ = some (.slice E ne ce) := hG.cell rfl
  have s8 : w2.cell? ⟨g, 8, none⟩ = some (.int .i64 x.fares.down) := hG.cell rfl
  have s9 : w2.cell? ⟨g, 9, none⟩ = some (.int .i64 x.day) := hG.cell rfl
  have s10 : w2.cell? ⟨g, 10, none⟩ = some (.int .i64 x.leaves) := hG.cell rfl
  have s11 : w2.cell? ⟨g, 11, none⟩ = some (.slice C nb cb) := hG.cell rfl
  have s12 : w2.cell? ⟨g, 12, none⟩ = some (.bool x.closed) := hG.cell rfl
  have HCALL := Lib.hid (HOP.out w2 (HS.out.bel hbw) HOK.out.bs)
  have hsz := hbw.size
  clear hG HOP
  go_wp2_with fail
  refine HCALL.out.mono ?_
  rintro e w3 ⟨v1, v2, xs1, xs2, rfl, hO1, hO2, hb3⟩
  obtain ⟨A1, n1, c1, rfl, _⟩ := hO1.sl intC_good
  obtain ⟨A2, n2, c2, rfl, _⟩ := hO2.sl edgC_good
  have HO1 := Lib.hid (hO1.mono intC_good hsz)
  have HO2 := Lib.hid (hO2.mono edgC_good hsz)
  clear hO1 hO2
  go_wp2_with fail
  go_ret3
  exact ⟨_, _, xs1, xs2, rfl, HO1.out, HO2.out, hbw.trans (hb3.mono hbw.size)⟩

/-- What is wrong where free spans are asked for. -/
noncomputable def freeE (x : Sai) (c : Int) : Int := if saiE x ≠ 0 then saiE x else if betB c 0 ((x.ship.cabs.length : Int) - 1) = false then 3 else 0
set_option maxRecDepth 100000 in
set_option maxHeartbeats 8000000 in
theorem stockFree_any (x : Sai) (p : SaiV) (c : Int) (w : World) (h : SaiR w x p) :
    Calls Tryz.prog 16 #[.agg (saiA x p), .int .i64 c] w fun e w' => ∃ v xs, e = .returned (.tuple #[v, .int .i64 (freeE x c)]) ∧ Own spanC 2 39 w' w.heap.size v (okL (freeE x c) (gapsL (takL x.bks c) x.ship.legs)) xs ∧ Below w.heap.size w w' := by
  have HCK := Lib.hid (fun W h => saiCheck_any x p W h)
  have HS := Lib.hid h
  obtain ⟨A, n, cap, B, m, cap2, D, nd, cd, E, ne, ce, C, nb, cb⟩ := p
  have hl : Sl bkgC 11 w All C nb cb x.bks := h.bks
  have hd : Sl cabC 4 w All B m cap2 x.ship.cabs := h.cabs
  have HTK := Lib.hid (fun W hW (hb : OkBs x) => Taken_any C nb cb x.bks c W hW (spOk_of hb.ship hb.bk) (by have := hb.len; rw [hl.len] at this; omega))
  have hmb := hd.bd
  obtain ⟨r, hr⟩ : ∃ r, r = freeE x c := ⟨_, rfl⟩
  rw [← hr]
  obtain ⟨se, hse⟩ : ∃ q, q = saiE x := ⟨_, rfl⟩
  have HR := Lib.hid (show r = if se ≠ 0 then se else if betB c 0 ((m : Int) - 1) = false then 3 else 0 by rw [hr, hse, ← hd.len]; rfl)
  rw [← hse] at HCK
  have HSE := Lib.hid hse
  clear hse
  obtain ⟨tl, htl⟩ : ∃ q, q = takL x.bks c := ⟨_, rfl⟩
  rw [← htl] at HTK
  rw [← htl]
  have HTL := Lib.hid htl
  clear htl
  have HL := Lib.hid hl
  clear h hl hd hr
  go_enter Tryz.func16, Tryz.ntmps16
  go_upto_region 0 with (fail)
  go_cut [2, 4, 5] (fun q _ _ wx => ∃ g, q = .pointer (some ⟨g, 0, none⟩) ∧ Blk wx g (saiA x ⟨A, n, cap, B, m, cap2, D, nd, cd, E, ne, ce, C, nb, cb⟩) 32 ∧ Below w.heap.size w wx)
  case first => as_aux_lemma =>
    go_wp2_with fail
    go_meet
    exact ⟨_, rfl, blk1 _ _, bel1 _ _⟩
  obtain ⟨g, rfl, hG, hbw⟩ := hcut
  have s0 : wc.cell? ⟨g, 0, none⟩ = some (.int .i64 x.ship.legs) := hG.cell rfl
  have s1 : wc.cell? ⟨g, 1, none⟩ = some (.int .i64 x.ship.souls) := hG.cell rfl
  have s2 : wc.cell? ⟨g, 2, none⟩ = some (.slice A n cap) := hG.cell rfl
  have s3 : wc.cell? ⟨g, 3, none⟩ = some (.slice B m cap2) := hG.cell rfl
  have s4 : wc.cell? ⟨g, 4, none⟩ = some (.slice D nd cd) := hG.cell rfl
  have s5 : wc.cell? ⟨g, 5, none⟩ = some (.int .i64 x.fares.alone) := hG.cell rfl
  have s6 : wc.cell? ⟨g, 6, none⟩ = some (.int .i64 x.fares.third) := hG.cell rfl
  have s7 : wc.cell? ⟨g, 7, none⟩ = some (.slice E ne ce) := hG.cell rfl
  have s8 : wc.cell? ⟨g, 8, none⟩ = some (.int .i64 x.fares.down) := hG.cell rfl
  have s9 : wc.cell? ⟨g, 9, none⟩ = some (.int .i64 x.day) := hG.cell rfl
  have s10 : wc.cell? ⟨g, 10, none⟩ = some (.int .i64 x.leaves) := hG.cell rfl
  have s11 : wc.cell? ⟨g, 11, none⟩ = some (.slice C nb cb) := hG.cell rfl
  have s12 : wc.cell? ⟨g, 12, none⟩ = some (.bool x.closed) := hG.cell rfl
  have HCALL := Lib.hid (HCK.out wc (HS.out.bel hbw))
  go_wp2_with fail
  refine HCALL.out.mono ?_
  rintro e w2 ⟨rfl, hb2⟩
  replace hG := hG.bel hb2
  replace hbw := hbw.trans (hb2.mono hbw.size)
  clear hb2 s0 s1 s2 s3 s4 s5 s6 s7 s8 s9 s10 s11 s12 HCALL HCK
  by_cases h0 : se = 0
  rotate_left
  · obtain rfl : r = se := by rw [HR.out, if_pos h0]
    have h0' : (r != 0) = true := by simpa using h0
    have H0 := Lib.hid h0
    clear h0 hG
    go_wp2_with fail
    go_ret2
    exact ⟨_, [], rfl, Own.nilE H0.out, hbw⟩
  have HR2 := Lib.hid (HR.out.trans (if_neg (by rw [h0]; simp)))
  have HOK := Lib.hid (sai_ok (HSE.out.symm.trans h0))
  subst h0
  have s3 : w2.cell? ⟨g, 3, none⟩ = some (.slice B m cap2) := hG.cell rfl
  by_cases hc0 : c < 0
  · obtain rfl : r = 3 := HR2.out.trans (if_pos (betB_false (.inl hc0)))
    clear hG
    go_wp2_with fail
    go_ret2
    exact ⟨_, [], rfl, Own.nilE (by decide), hbw⟩
  by_cases hc1 : (m : Int) ≤ c
  · obtain rfl : r = 3 := HR2.out.trans (if_pos (betB_false (.inr (by omega))))
    clear hG
    go_wp2_with fail
    go_ret2
    exact ⟨_, [], rfl, Own.nilE (by decide), hbw⟩
  obtain rfl : r = 0 := HR2.out.trans (if_neg (by rw [betB_true (by omega) (by omega)]; simp))
  have s11 : w2.cell? ⟨g, 11, none⟩ = some (.slice C nb cb) := hG.cell rfl
  have HCALL := Lib.hid (HTK.out w2 (HL.out.bel hbw) HOK.out.bs)
  have hsz := hbw.size
  have HGG := Lib.hid hG
  clear hG
  go_wp2_with fail
  refine HCALL.out.mono ?_
  rintro e w3 ⟨v1, xs1, rfl, hO1, hb3⟩
  obtain ⟨A1, n1, c1, rfl, hs1⟩ := hO1.sl spanC_good
  have hG := HGG.out.bel hb3
  replace hbw := hbw.trans (hb3.mono hbw.size)
  have s0 : w3.cell? ⟨g, 0, none⟩ = some (.int .i64 x.ship.legs) := hG.cell rfl
  have hlg := shp_legs HOK.out.bs.ship
  have hln : tl.length ≤ 1000 := by
    rw [HTL.out]
    unfold takL
    cases hq : spF (spL x.bks c) with
    | none => simp
    | some o =>
      have := (spF_len (spL_ok (spOk_of HOK.out.bs.ship HOK.out.bs.bk)) hq).1
      simp only [Option.getD_some]; omega
  have HCALL2 := Lib.hid (Gaps_any A1 n1 c1 tl x.ship.legs w3 (hs1.all spanC_good (by omega)) hln (.of (by omega) (by omega)))
  clear hO1 hs1 hb3 HCALL hlg hln hG s3 s11
  have hsz := hbw.size
  go_wp2_with fail
  refine HCALL2.out.mono ?_
  rintro e w4 ⟨v2, xs2, rfl, hO2, hb4⟩
  obtain ⟨A2, n2, c2, rfl, _⟩ := hO2.sl spanC_good
  have HO2 := Lib.hid (hO2.mono spanC_good hsz)
  clear hO2
  go_wp2_with fail
  go_ret2
  exact ⟨_, xs2, rfl, HO2.out, hbw.trans (hb4.mono hbw.size)⟩
end Go.Proofs.YtlablioefblmkaaGreat
/-
  Matchings: the program checks a graph.
-/
namespace Go.Proofs.YtlablioefblmkaaGreat
open Go.RowKit Go.Shelf Go.Maps

theorem side_any (n : Int) (w : World) : Calls Tryz.prog 157 #[.int .i64 n] w fun e w' => e = .returned (.bool (betB n 0 16)) ∧ w' = w := by
  go_enter Tryz.func157, Tryz.ntmps157
  by_cases h0 : 0 ≤ n <;> by_cases h1 : n ≤ 16
  · rw [betB_true h0 h1]
    go_wp2_with fail
    go_ret
    exact ⟨rfl, rfl⟩
  · rw [betB_false (by omega)]
    go_wp2_with fail
    go_ret
    exact ⟨rfl, rfl⟩
  · rw [betB_false (by omega)]
    go_wp2_with fail
    go_ret
    exact ⟨rfl, rfl⟩
  · rw [betB_false (by omega)]
    go_wp2_with fail
    go_ret
    exact ⟨rfl, rfl⟩

set_option maxRecDepth 100000 in
set_option maxHeartbeats 4000000 in
theorem CheckM_any (left right : Int) (A : Option Addr) (n cap : Nat) (l : List Edg) (w : World) (h : Sl edgC 2 w All A n cap l) :
    Calls Tryz.prog 81 #[.int .i64 left, .int .i64 right, .slice A n cap] w fun e w' => e = .returned (.int .i64 (grE left right l)) ∧ Below w.heap.size w w' := by
  have hmm := @run_makeMap Tryz.prog
  have hbd := h.bd
  have hle := h.le
  have hmx := h.max
  obtain ⟨r, hr⟩ : ∃ r, r = grE left right l := ⟨_, rfl⟩
  rw [← hr]
  have HSL := Lib.hid h
  unfold grE at hr
  rw [h.len] at hr
  have HR := Lib.hid hr
  clear hr h
  have hb1 := fun W => side_any left W
  have hb2 := fun W => side_any right W
  go_enter Tryz.func81, Tryz.ntmps81
  cases b1 : betB left 0 16
  · rw [b1] at hb1
    have hr : r = 3 := by rw [HR.out, if_pos (by unfold sidesB; rw [b1]; rfl)]
    subst hr
    clear b1
    go_wp2_with fail
    refine (hb1 _).mono ?_
    rintro e w9 ⟨rfl, rfl⟩
    go_wp2_with fail
    go_ret
    exact ⟨rfl, Below.refl _ _⟩
  rw [b1] at hb1
  go_wp2_with fail
  refine (hb1 _).mono ?_
  rintro e w9 ⟨rfl, rfl⟩
  cases b2 : betB right 0 16
  · rw [b2] at hb2
    have hr : r = 3 := by rw [HR.out, if_pos (by unfold sidesB; rw [b1, b2]; rfl)]
    subst hr
    clear b1 b2
    go_wp2_with fail
    refine (hb2 _).mono ?_
    rintro e w9 ⟨rfl, rfl⟩
    go_wp2_with fail
    go_ret
    exact ⟨rfl, Below.refl _ _⟩
  rw [b2] at hb2
  have HR2 := Lib.hid (show r = firstE (edgE left right l) n by rw [HR.out, if_neg (by unfold sidesB; rw [b1, b2]; simp)])
  clear b1 b2 HR
  go_wp2_with fail
  refine (hb2 _).mono ?_
  rintro e w8 ⟨rfl, rfl⟩
  go_wp2_with fail
  go_loopg [21] n (fun gk i wr => ∃ k : Nat, k ≤ n ∧ n - k ≤ gk ∧ i = .int .i64 k ∧ Aside (firstE (edgE left right l) k = 0) ∧ Tally Tryz.prog wr 95 3 w8.heap.size k (cntE (l.take k)) ∧ Below w8.heap.size w8 wr)
  case atStart => exact ⟨0, Nat.zero_le _, by omega, rfl, rfl, by rw [List.take_zero, cntE_nil]; exact Tally.made _ _ _ _, (Below.refl _ _).alloc (Nat.le_refl _) _⟩
  case round =>
    obtain ⟨k, hk, hgk, rfl, HA, hT, hb⟩ := hrel
    by_cases hlt : k < n
    · obtain ⟨b, off, x, c0, c1, rfl, hx, hcs, e0, e1⟩ := (HSL.out.bel hb).at2 hlt
      obtain ⟨hcs, ix, iy⟩ := hcs
      simp only [List.cons.injEq, and_true] at hcs
      obtain ⟨rfl, rfl⟩ := hcs
      have HV := Lib.hid (edgE_at (left := left) (right := right) hx)
      have hBl := hT.lt
      have hs8 := hb.size
      obtain ⟨W4, hW4⟩ : ∃ W4, W4 = wr.alloc (.cells #[.int .i64 x.lft, .int .i64 x.rgt] 95) := ⟨_, rfl⟩
      have hb4 : Below wr.heap.size wr W4 := by rw [hW4]; exact bel1 _ _
      have hE4 : Blk W4 wr.heap.size #[.int .i64 x.lft, .int .i64 x.rgt] 95 := by rw [hW4]; exact blk1 _ _
      have hT4 : Tally Tryz.prog W4.drew 95 3 w8.heap.size k (cntE (l.take k)) := hT.bel hb4.drew
      have hB4 : Below w8.heap.size w8 W4.drew := (hb.trans (hb4.mono hb.size)).drew
      obtain ⟨q, hq⟩ : ∃ q, q = (l.take k).count x := ⟨_, rfl⟩
      have hqk : q ≤ k := by
        rw [hq]
        exact Nat.le_trans List.count_le_length (by rw [List.length_take]; omega)
      have hci : InI (((l.take k).count x : Nat) + 1 : Int) := by rw [← hq]; exact ⟨by omega, by omega⟩
      obtain ⟨st, W2, W3, hl1, hme, hl2, hst, hT3, hg2, hg3⟩ := tally_incr ix iy hT4 (show k < maxLen by omega) hci
      rw [← take_snoc hx] at hT3
      have hl3 := tally_look (x := x) ix iy hT3
      rw [take_snoc hx, List.count_append, List.count_singleton_self, ← hq] at hl3
      rw [← hq] at hl1 hme hl2 hst
      have HCN := Lib.hid (show (l.take k).contains x = decide (0 < q) by
        cases hcn : (l.take k).contains x
        · have h2 : x ∉ l.take k := fun hm => by rw [List.contains_iff_mem.2 hm] at hcn; cases hcn
          rw [hq, List.count_eq_zero.2 h2]; rfl
        · have h2 := List.contains_iff_mem.1 hcn
          rw [hq, decide_eq_true (List.count_pos_iff.2 h2)])
      have hB3 := hB4.grown hg3 (by have := hb4.size; have h2 : W4.drew.heap.size = W4.heap.size := rfl; omega) (fun j hj => by cases hj; exact Nat.le_refl _)
      have hne : some wr.heap.size ≠ some w8.heap.size := fun e => by injection e with e; omega
      have hE40 : W4.drew.cell? ⟨wr.heap.size, 0, none⟩ = some (.int .i64 x.lft) := hE4.cell rfl
      have hE41 : W4.drew.cell? ⟨wr.heap.size, 1, none⟩ = some (.int .i64 x.rgt) := hE4.cell rfl
      have hEl : wr.heap.size < W4.drew.heap.size := hE4.lt
      have mv : ∀ (W : World), W4.drew.grownBy W (some w8.heap.size) → ∀ j, W.cell? ⟨wr.heap.size, j, none⟩ = W4.drew.cell? ⟨wr.heap.size, j, none⟩ := fun W hg j => World.cell?_of_block (a := ⟨wr.heap.size, j, none⟩) (hg.block _ hEl hne)
      have hE20 := (mv W2 hg2 0).trans hE40
      have hE21 := (mv W2 hg2 1).trans hE41
      have hE30 := (mv W3 hg3 0).trans hE40
      have hE31 := (mv W3 hg3 1).trans hE41
      have HT3 := Lib.hid hT3
      have HB3 := Lib.hid hB3
      have hst' : (Instr.entryStore 181 (.map (some w8.heap.size)) (.int .i64 st) (.int .i64 ((q : Int) + 1))).run Tryz.prog W2 = .ok () W3 := hst
      have hme' : (Instr.mapEntry 181 (.map (some w8.heap.size)) (.agg #[.int .i64 x.lft, .int .i64 x.rgt])).run Tryz.prog W4.drew = .ok (.tuple #[.int .i64 q, .int .i64 st]) W2 := hme
      have hl1' : (Instr.lookup 181 (.map (some w8.heap.size)) (.agg #[.int .i64 x.lft, .int .i64 x.rgt]) false).run Tryz.prog W4.drew = .ok (.int .i64 q) W4.drew := hl1
      have hl2' : (Instr.lookup 181 (.map (some w8.heap.size)) (.agg #[.int .i64 x.lft, .int .i64 x.rgt]) false).run Tryz.prog W2 = .ok (.int .i64 q) W2 := hl2
      have hl3' : (Instr.lookup 181 (.map (some w8.heap.size)) (.agg #[.int .i64 x.lft, .int .i64 x.rgt]) false).run Tryz.prog W3 = .ok (.int .i64 ((q : Int) + 1)) W3 := hl3
      have hwq : IntKind.i64.wrap ((q : Int) + 1) = (q : Int) + 1 := by rw [IntKind.wrap_i64]; omega
      clear hx hq hl1 hme hl2 hst hl3 hT3 hB3 hT4 hB4 hg2 hg3 hT hb mv hE4 hb4 hci ix iy
      go_upto_region 7 with (fail)
      rw [← hW4]
      clear hW4
      go_cut [21] (fun i wx => i = .int .i64 k ∧ W3 = wx)
      case first =>
        go_region_with (fail)
        all_goals
          go_wp2_with fail
          go_meet
          exact ⟨rfl, rfl⟩
      obtain ⟨rfl, hw3⟩ := hcut
      subst hw3
      clear hl1' hme' hl2' hst' hE20 hE21 hE40 hE41
      by_cases hbad : x.lft < 0 ∨ left ≤ x.lft ∨ x.rgt < 0 ∨ right ≤ x.rgt
      · have hr : r = 3 := by rw [HR2.out, firstE_at HA (by rw [HV.out, if_pos (inE_false hbad)]; decide) hlt, HV.out, if_pos (inE_false hbad)]
        subst hr
        by_cases f1 : x.lft < 0
        · clear hbad
          go_wp2_with fail
          go_ret
          exact ⟨rfl, HB3.out⟩
        · by_cases f2 : left ≤ x.lft
          · clear hbad
            go_wp2_with fail
            go_ret
            exact ⟨rfl, HB3.out⟩
          · by_cases f3 : x.rgt < 0
            · clear hbad
              go_wp2_with fail
              go_ret
              exact ⟨rfl, HB3.out⟩
            · have f4 : right ≤ x.rgt := by omega
              clear hbad
              go_wp2_with fail
              go_ret
              exact ⟨rfl, HB3.out⟩
      · have f1 : ¬ x.lft < 0 := by omega
        have f2 : ¬ left ≤ x.lft := by omega
        have f3 : ¬ x.rgt < 0 := by omega
        have f4 : ¬ right ≤ x.rgt := by omega
        clear hbad
        have HV2 := Lib.hid (show edgE left right l k = if 0 < q then 6 else 0 by
          rw [HV.out, if_neg (by rw [inE_true f1 f2 f3 f4]; simp), HCN.out]
          by_cases h0 : 0 < q
          · rw [decide_eq_true h0, if_pos rfl, if_pos h0]
          · rw [decide_eq_false h0, if_neg (by simp), if_neg h0])
        clear HV
        by_cases h0 : 0 < q
        · have h6 : edgE left right l k = 6 := by rw [HV2.out, if_pos h0]
          have hr : r = 6 := by rw [HR2.out, firstE_at HA (by rw [h6]; decide) hlt, h6]
          subst hr
          have hq1 : (1 : Int) < (q : Int) + 1 := by omega
          clear h6
          go_wp2_with fail
          go_ret
          exact ⟨rfl, HB3.out⟩
        · have HN := Lib.hid (show edgE left right l k = 0 by rw [HV2.out, if_neg h0])
          have hq1 : ¬ (1 : Int) < (q : Int) + 1 := by omega
          clear h0
          go_wp2_with fail
          go_roundg (n - (k + 1))
          case measure => omega
          case rel => exact ⟨k + 1, by omega, by omega, by go_num, (show Aside _ from firstE_succ HA HN.out), HT3.out, HB3.out⟩
    · obtain rfl : k = n := by omega
      have hr : r = 0 := by rw [HR2.out]; exact HA
      subst hr
      have HB := Lib.hid hb
      clear hb hT
      go_wp2_with fail
      go_ret
      exact ⟨rfl, HB.out⟩
end Go.Proofs.YtlablioefblmkaaGreat
/-
  Matchings: match.Most.
-/
namespace Go.Proofs.YtlablioefblmkaaGreat
open Go.RowKit Go.Shelf

set_option maxRecDepth 100000 in
set_option maxHeartbeats 2000000 in
theorem Most_any (left right : Int) (A : Option Addr) (n cap : Nat) (l : List Edg) (w : World) (h : Sl edgC 2 w All A n cap l) :
    Calls Tryz.prog 29 #[.int .i64 left, .int .i64 right, .slice A n cap] w fun e w' => ∃ (v : Value) (ml : List Edg) (xs : List Value), e = .returned (.tuple #[v, .int .i64 (grE left right l)]) ∧ Own edgC 2 95 w' w.heap.size v ml xs ∧ MostOk left right l ml ∧ Below w.heap.size w w' := by
  have HC := Lib.hid (CheckM_any left right A n cap l w h)
  obtain ⟨r, hr⟩ : ∃ r, r = grE left right l := ⟨_, rfl⟩
  rw [← hr] at HC ⊢
  have HR := Lib.hid hr
  clear hr
  have HH := Lib.hid h
  clear h
  go_enter Tryz.func29, Tryz.ntmps29
  go_wp2_with fail
  refine HC.out.mono ?_
  rintro e w1 ⟨rfl, hb⟩
  by_cases h0 : r = 0
  · have hR := HR.out
    rw [h0] at hR
    obtain ⟨a, b, rfl, rfl, ha, hb16, hg, hnd⟩ := grE_ok hR.symm
    have hlen := HH.out.len
    have hsm := graph_small hg hnd ha hb16
    have HBS := Lib.hid (Best_any a b A n cap l w1 (HH.out.bel hb) ha hb16 hg (by omega))
    have HRR := Lib.hid hR
    have HB1 := Lib.hid hb
    subst h0
    clear hR HR hg hnd hlen hsm hb HC
    go_wp2_with fail
    refine HBS.out.mono ?_
    rintro e w2 ⟨v, ml, xs, rfl, hO, hbest, hsz, hb2⟩
    have HO := Lib.hid (hO.mono edgC_good HB1.out.size)
    have HM := Lib.hid (MostOk.of HRR.out.symm hbest hsz)
    have HB2 := Lib.hid (HB1.out.trans (hb2.mono HB1.out.size))
    clear hO hbest hsz hb2
    go_wp2_with fail
    go_ret2
    exact ⟨v, ml, xs, rfl, HO.out, HM.out, HB2.out⟩
  · have HM := Lib.hid (MostOk.none (left := left) (right := right) (l := l) (by rw [← HR.out]; exact h0))
    have h0' : (r == 0) = false := by simpa using h0
    clear h0
    go_wp2_with fail
    go_ret2
    exact ⟨_, [], [], rfl, Own.nil _ _ _ _ _, HM.out, hb⟩
end Go.Proofs.YtlablioefblmkaaGreat
/-
  Matchings: match.Lack.
-/
namespace Go.Proofs.YtlablioefblmkaaGreat
open Go.RowKit Go.Shelf

/-- A literal of one number is an own row. -/
theorem Own.oneI {w : World} {b base : Nat} {y : Int} (h : Blk w b #[.int .i64 y] 3) (hb : base ≤ b) (hy : InI y) : Own intC 1 3 w base (.slice (some ⟨b, 0, none⟩) 1 1) [y] [.int .i64 y] :=
  ⟨⟨rfl, .inr ⟨b, 1, _, rfl, hb, h, Nat.le_refl _, by decide, rfl, rfl⟩⟩, fun i x hx => by
    rcases i with _ | i
    · simp at hx; subst hx
      exact ⟨[.int .i64 y], ⟨rfl, hy⟩, rfl, fun j u hu => by rcases j with _ | j <;> simp_all⟩
    · simp at hx⟩
theorem lackL_len (n0 : Nat) (has : List Int) (met : List Bool) (n : Nat) : (lackL n0 has met n).length ≤ n + 1 ∧ 0 < (lackL n0 has met n).length := by
  unfold lackL metL
  rw [List.length_cons, List.length_map]
  have := List.length_filter_le (fun r => met.getD r true) (List.range n)
  rw [List.length_range] at this
  omega

set_option maxRecDepth 100000 in
set_option maxHeartbeats 8000000 in
theorem Lack_any (left right : Int) (A : Option Addr) (n cap : Nat) (l : List Edg) (w : World) (h : Sl edgC 2 w All A n cap l) :
    Calls Tryz.prog 80 #[.int .i64 left, .int .i64 right, .slice A n cap] w fun e w' => ∃ (v : Value) (sm : List Int) (xs : List Value), e = .returned (.tuple #[v, .int .i64 (grE left right l)]) ∧ Own intC 1 3 w' w.heap.size v sm xs ∧ LackOk left right l sm ∧ Below w.heap.size w w' := by
  have HC := Lib.hid (CheckM_any left right A n cap l w h)
  obtain ⟨r, hr⟩ : ∃ r, r = grE left right l := ⟨_, rfl⟩
  rw [← hr] at HC ⊢
  have HR := Lib.hid hr
  clear hr
  have HH := Lib.hid h
  clear h
  go_enter Tryz.func80, Tryz.ntmps80
  go_wp2_with fail
  refine HC.out.mono ?_
  rintro e w1 ⟨rfl, hb⟩
  by_cases h0 : r = 0
  · have hR := HR.out
    rw [h0] at hR
    obtain ⟨a, b, rfl, rfl, ha, hb16, hg, hnd⟩ := grE_ok hR.symm
    have hlen := HH.out.len
    have hsm := graph_small hg hnd ha hb16
    have HS := Lib.hid (solve_any a b A n cap l w1 (HH.out.bel hb) ha hb16 hg (by omega))
    have HRR := Lib.hid hR
    have HG := Lib.hid hg
    have HB1 := Lib.hid hb
    have hs0 := hb.size
    subst h0
    clear hR HR hg hnd hlen hsm hb HC HH
    go_wp2_with fail
    refine HS.out.mono ?_
    rintro e w2 ⟨P, G, N, O, v, has, no, D, xs0, rfl, hSt, hOw, hAs, hP0, hG0, hN0, hb2⟩
    have hb := HB1.out.trans (hb2.mono HB1.out.size)
    have HB2 := Lib.hid hb
    have hs2 := hb.size
    obtain ⟨A7, n7, c7, rfl, hs7⟩ := hOw.sl intC_good
    have hl7 : no.length = n7 := by have := hs7.len; rwa [List.length_map] at this
    clear hs7 hb2 hb HS
    by_cases hz : n7 = 0
    · have hnil : no = [] := List.eq_nil_of_length_eq_zero (by omega)
      have HL := Lib.hid (LackOk.of HRR.out.symm (sm := []) (k := a) ⟨has, no, D, hAs, by rw [hnil]; rfl⟩ (.inl ⟨rfl, rfl⟩))
      subst hz
      clear hSt hOw hAs hnil hl7
      go_wp2_with fail
      go_ret2
      exact ⟨_, [], [], rfl, Own.nil _ _ _ _ _, HL.out, HB2.out⟩
    · obtain ⟨n0, hn0⟩ : ∃ n0, no[0]? = some n0 := ⟨_, List.getElem?_eq_getElem (by omega)⟩
      have hm0 := List.mem_of_getElem? hn0
      have hnA : n0 < a := hAs.noA n0 hm0
      obtain ⟨g, c9, hv, hg0, hgl⟩ := hOw.form (by rw [List.length_map]; omega)
      simp only [Value.slice.injEq] at hv
      obtain ⟨rfl, -, rfl⟩ := hv
      have hx0 : (no.map Int.ofNat)[0]? = some (n0 : Int) := by rw [List.getElem?_map, hn0]; rfl
      have hNl := hSt.le
      have hPG := hSt.pg
      have hPn := hSt.pn
      have hGn := hSt.gn
      have HFG := Lib.hid (forget_any P G N (some ⟨O, 0, none⟩) a a b (rowsOf a l) has w2 hSt hb16)
      have HOW := Lib.hid hOw
      have HAS := Lib.hid hAs
      have HM0 := Lib.hid hm0
      have HRG2 := Lib.hid (rgts_rows HG.out)
      have HRB := Lib.hid (rows_bd HG.out)
      have HKA := Lib.hid (show n7 + (a - n7) = a ∧ a - n7 < a from by have := hAs.most (nbrs_lt HG.out) (M := []) ⟨by simp, by simp, by simp⟩; simp at this; omega)
      have hne7 : ((n7 : Int) == 0) = false := by have : ¬ (n7 : Int) = 0 := (by omega); simpa using this
      have hz0 : (0 : Int) < (n7 : Int) := by omega
      have hz1 : ¬ (n7 : Int) = 0 := by omega
      clear hSt hOw hAs hn0 hm0 hgl
      go_wp2_with fail
      refine HFG.out.mono ?_
      rintro e w5 ⟨rfl, hM5, hS5, hK5⟩
      have hO5 := HOW.out.keep intC_good (fun q hq hql => hK5.block q hql (by omega))
      obtain ⟨cs, ⟨hcs, _⟩, _, hcell, _⟩ := hO5.cells hx0
      subst hcs
      have e0 : w5.cell? ⟨g, 0, none⟩ = some (.int .i64 (n0 : Int)) := hcell 0 _ rfl
      have hcall := find_any P G w2.heap.size (some ⟨O, 0, none⟩) a a b (rowsOf a l) (by omega) hPG (by omega) HRB.out _ has (List.replicate b false) n0 w5 hM5 hnA (Nat.le_refl _) (fun r hr => (HAS.out.edge r hr).imp id (fun ⟨d, e, h1, _⟩ => ⟨d, e, h1⟩)) (by omega)
      rw [HRG2.out] at hcall
      have HCALL := Lib.hid hcall
      have HO5 := Lib.hid hO5
      have HK5 := Lib.hid hK5
      have hs5 := hK5.size
      clear hM5 hS5 hK5 hcall hO5 hcell HFG
      go_wp2_with fail
      refine HCALL.out.mono ?_
      rintro e w6 ⟨bb, has', met', rfl, hA6, hK6, hT6, hF6⟩
      cases bb
      rotate_left
      · exact absurd (HAS.out.noD n0 HM0.out) ((hT6 rfl).shut D HAS.out.shut).1
      obtain ⟨rfl, h6⟩ := hF6 rfl
      have hK7 : Kept (fun q => q = P ∨ q = G) w2 w6 := ((HK5.out.mono (T := fun q => q = P ∨ q = G ∨ q = w2.heap.size) (fun q _ e => .inl e)).trans (hK6.mono (fun q _ e => .inr e))).mono (fun q hq e => by
        rcases e with e | e | e
        · exact .inl e
        · exact .inr e
        · omega)
      have hs6 := hK7.size
      have hO6 := HOW.out.keep intC_good (fun q hq hql => hK7.block q hql (by rintro (e | e) <;> omega))
      obtain ⟨cs, ⟨hcs, _⟩, _, hcell, _⟩ := hO6.cells hx0
      subst hcs
      have e0 : w6.cell? ⟨g, 0, none⟩ = some (.int .i64 (n0 : Int)) := hcell 0 _ rfl
      have HB6 := Lib.hid (HB2.out.trans (hK7.below (B := w.heap.size) (by omega) (fun q hq e => by rcases e with e | e <;> omega)))
      have HA6 := Lib.hid hA6
      have HF6 := Lib.hid h6
      have hI0 : InI (n0 : Int) := .of (by omega) (by omega)
      obtain ⟨W7, hW7⟩ : ∃ W7, W7 = w6.alloc (.cells #[.int .i64 (n0 : Int)] 3) := ⟨_, rfl⟩
      have hb7 : Below w6.heap.size w6 W7 := by rw [hW7]; exact bel1 _ _
      have hL7 : Blk W7 w6.heap.size #[.int .i64 (n0 : Int)] 3 := by rw [hW7]; exact blk1 _ _
      have HO7 := Lib.hid (Own.oneI hL7 (Nat.le_refl _) hI0)
      have p2 : W7.cell? ⟨P, 2, none⟩ = some (.slice (some ⟨w2.heap.size, 0, none⟩) b b) := (hA6.st.bel hb7).cell rfl
      have HB7 := Lib.hid hb7
      clear hO6 hcell hA6 h6 hT6 hF6 hK6 hK7 hL7 hb7 hI0 HCALL HO5 HK5
      go_upto_region 10 with (fail)
      rw [← hW7]
      clear hW7
      go_wp2_with fail
      go_loopg [47, 11] b (fun gk i nv wr => ∃ (k : Nat) (xs : List Value), k ≤ b ∧ b - k ≤ gk ∧ i = .int .i64 k ∧ Own intC 1 3 wr w6.heap.size nv (lackL n0 has' met' k) xs ∧ Below w6.heap.size w6 wr)
      case atStart => exact ⟨0, _, Nat.zero_le _, by omega, rfl, HO7.out, HB7.out⟩
      case round =>
        obtain ⟨k, xs, hk, hgk, rfl, hO, hb⟩ := hrel
        obtain ⟨A2, n2, cap2, rfl, hsl2⟩ := hO.sl intC_good
        have hln := hsl2.len
        clear hsl2
        have hsw := hb.size
        by_cases hlt : k < b
        · have hMk := HA6.out
          have c0 := RowB.cell (hMk.mt.bel hb : RowB wr _ _) (i := k) (by rw [hMk.lm]; exact hlt)
          have p1 : wr.cell? ⟨P, 1, none⟩ = some (.slice (some ⟨G, 0, none⟩) b b) := (hMk.st.bel hb).cell rfl
          have g0 := RowI.cell' (hMk.row.bel hb : RowI wr _ _ _) (i := k) (by rw [hMk.lh]; exact hlt)
          obtain ⟨v, hv⟩ : ∃ v, v = met'.getD k true := ⟨_, rfl⟩
          rw [← hv] at c0
          clear hMk
          cases v
          · have HV := Lib.hid (show lackL n0 has' met' (k + 1) = lackL n0 has' met' k by rw [lackL_succ, if_neg (by rw [← hv]; simp)])
            have HO := Lib.hid hO
            clear hO hv hln
            go_wp2_with fail
            go_roundg (b - (k + 1))
            case measure => omega
            case rel => exact ⟨k + 1, xs, by omega, by omega, by go_num, by rw [HV.out]; exact HO.out, hb⟩
          · have hy0 : InI (has'.getD k (-1)) := by
              rcases HAS.out.edge k hlt with e | ⟨d, e, hd, _⟩
              · rw [e]; exact .of (by decide) (by decide)
              · have hd : d < a := hd
                rw [e]; exact .of (by omega) (by omega)
            have hV0 : lackL n0 has' met' (k + 1) = lackL n0 has' met' k ++ [has'.getD k (-1)] := by rw [lackL_succ, if_pos hv.symm]
            obtain ⟨y, hy⟩ : ∃ y, y = has'.getD k (-1) := ⟨_, rfl⟩
            rw [← hy] at g0 hy0 hV0
            have HV := Lib.hid hV0
            have hOq := Lib.hid (hO.bel (bel1 wr (.cells #[.int .i64 y] 3)))
            have hsq : w6.heap.size ≤ (wr.alloc (.cells #[.int .i64 y] 3)).heap.size := by simp; omega
            have hby : ((lackL n0 has' met' k).length + 1) * 8 ≤ 140737488355328 := by have := (lackL_len n0 has' met' k).1; omega
            have HBQ := Lib.hid (hb.alloc hb.size (.cells #[.int .i64 y] 3))
            clear hO hv hln hV0 hb hy
            go_wp2_with (at_builtin; refine list_app (t := 44) (e := 3) (bytes := 8) rfl (.tmp 53) (.tmp 61) rfl int_elem intC_good rfl hOq.out rfl (sl_int _ All y 3 hy0 trivial) (fun _ _ hc => hc) hby (by omega) hsq ?_; intro v' w' xs' hown' hg' _)
            go_roundg (b - (k + 1))
            case measure => omega
            case rel => exact ⟨k + 1, xs', by omega, by omega, by go_num, by rw [HV.out]; exact hown', below_app HBQ.out hOq.out hg' hsq⟩
        · obtain rfl : k = b := by omega
          have hll := lackL_len n0 has' met' k
          obtain ⟨g2, c2, hv, hg2, _⟩ := hO.form hll.2
          simp only [Value.slice.injEq] at hv
          obtain ⟨rfl, -, rfl⟩ := hv
          have hbx := HB6.out.trans (hb.mono HB6.out.size)
          have HB8 := Lib.hid hbx
          have hs8 := HB6.out.size
          have HSO := Lib.hid (Sort_ints hO (by omega))
          clear hO hb hbx
          go_wp2_with fail
          refine HSO.out.mono ?_
          rintro e w3 ⟨rfl, sm, xs3, hp, hs, hO3, hK⟩
          have HL := Lib.hid (LackOk.of HRR.out.symm (k := a - n7) ⟨has', no, D, HAS.out, by have := HKA.out.1; rw [hl7]; omega⟩ (.inr ⟨HKA.out.2, lack_law HAS.out HG.out HM0.out HF6.out hp hs⟩))
          have HO := Lib.hid (hO3.mono intC_good hs8)
          have hnot : ∀ q, q < w.heap.size → ¬ q = g2 := fun q hq e => by omega
          have HB9 := Lib.hid (HB8.out.trans (hK.below (B := w.heap.size) HB8.out.size hnot))
          clear hp hs hO3 hK HSO
          go_wp2_with fail
          go_ret2
          exact ⟨_, sm, xs3, rfl, HO.out, HL.out, HB9.out⟩
  · have HM := Lib.hid (LackOk.none (left := left) (right := right) (l := l) (by rw [← HR.out]; exact h0))
    have h0' : (r == 0) = false := by simpa using h0
    clear h0
    go_wp2_with fail
    go_ret2
    exact ⟨_, [], [], rfl, Own.nil _ _ _ _ _, HM.out, hb⟩
end Go.Proofs.YtlablioefblmkaaGreat
/-
  Matchings: the laws' helpers pairs, matchBegun.
-/
namespace Go.Proofs.YtlablioefblmkaaGreat
open Go.RowKit Go.Shelf

theorem flat_ed (l : List Edg) : ∀ i x, l[i]? = some x → ∀ j u, (encEd x)[j]? = some u → (l.flatMap encEd)[i * 2 + j]? = some u := by
  induction l with
  | nil => intro i x hx; simp at hx
  | cons y l ih =>
    intro i x hx j u hu
    rcases i with _ | i
    · simp at hx; subst hx
      have hj : j < 2 := (List.getElem?_eq_some_iff.1 hu).1
      rw [List.flatMap_cons, Nat.zero_mul, Nat.zero_add, List.getElem?_append_left (by exact hj)]
      exact hu
    · rw [List.flatMap_cons, List.getElem?_append_right (by show 2 ≤ _; omega)]
      rw [show (i + 1) * 2 + j - (encEd y).length = i * 2 + j by show _ - 2 = _; omega]
      exact ih i x (by simpa using hx) j u hu
theorem Sl.ofEdgs {w : World} {S : Nat → Prop} {b : Nat} {cs : Array Value} {t : TypeId} (l : List Edg) (h : Blk w b cs t) (hl : l.length ≤ 1000) (hS : S b) (he : cs.toList = l.flatMap encEd) (hi : ∀ x ∈ l, InI x.lft ∧ InI x.rgt) :
    Sl edgC 2 w S (some ⟨b, 0, none⟩) l.length l.length l :=
  Sl.ofBlk h l (by omega) hS fun i x hx => ⟨encEd x, ⟨rfl, hi x (List.mem_of_getElem? hx)⟩, rfl, fun j u hu => by
    have := flat_ed l i x hx j u hu
    rw [← he] at this
    simpa using this⟩

def pairsX : List Edg := [⟨0, 1⟩, ⟨1, 1⟩, ⟨2, 0⟩, ⟨2, 1⟩]
def pairsY : List Edg := [⟨0, 0⟩, ⟨0, 1⟩, ⟨1, 0⟩]
theorem pairsX_ok : OkGr 3 2 pairsX := by unfold OkGr; decide
theorem pairsY_ok : OkGr 2 2 pairsY := by unfold OkGr; decide
theorem pairsX_e : grE 3 2 pairsX = 0 := by decide
theorem pairsY_e : grE 2 2 pairsY = 0 := by decide
theorem pairsX_most {ml : List Edg} (h : MostOk 3 2 pairsX ml) : ml.length = 2 := by
  obtain ⟨hb, _⟩ := h.2 3 2 rfl rfl pairsX_e
  have h1 := hb.right pairsX_ok
  have h2 : 2 ≤ ml.length := hb.most [(0, 1), (2, 0)] ⟨by decide, by decide, by decide⟩
  omega
theorem pairsX_lack {sm : List Int} (h : LackOk 3 2 pairsX sm) : 0 < sm.length := by
  obtain ⟨k, hk, h3⟩ := h.2 3 2 rfl rfl pairsX_e
  have := hk.right pairsX_ok
  rcases h3 with ⟨_, e⟩ | ⟨_, hl⟩
  · omega
  · obtain ⟨P, _, hP⟩ := hl.nb
    omega
theorem pairsY_lack {sm : List Int} (h : LackOk 2 2 pairsY sm) : sm = [] := by
  obtain ⟨k, hk, h3⟩ := h.2 2 2 rfl rfl pairsY_e
  have h2 : 2 ≤ k := hk.most pairsY_ok (M := [(0, 1), (1, 0)]) ⟨by decide, by decide, by decide⟩
  rcases h3 with ⟨e, _⟩ | ⟨hlt, _⟩
  · exact e
  · omega

set_option maxRecDepth 100000 in
theorem pairs_any (w : World) : Calls Tryz.prog 79 #[] w fun e w' => ∃ A cap, e = .returned (.slice A 4 cap) ∧ Sl edgC 2 w' All A 4 cap pairsX ∧ Below w.heap.size w w' := by
  have hblk := Blk.new w #[.int .i64 0, .int .i64 1, .int .i64 1, .int .i64 1, .int .i64 2, .int .i64 0, .int .i64 2, .int .i64 1] 95
  have hsl := Lib.hid (Sl.ofEdgs (S := All) pairsX hblk (by decide) trivial rfl (fun x hx => by simp [pairsX] at hx; rcases hx with rfl | rfl | rfl | rfl <;> exact ⟨.of (by decide) (by decide), .of (by decide) (by decide)⟩))
  clear hblk
  go_enter Tryz.func79, Tryz.ntmps79
  go_wp2_with fail
  go_ret
  exact ⟨_, _, rfl, hsl.out, bel1 _ _⟩

set_option maxRecDepth 100000 in
set_option maxHeartbeats 8000000 in
theorem matchBegun_any (w : World) : Calls Tryz.prog 27 #[] w fun e w' => e = .returned (.bool true) ∧ Below w.heap.size w w' := by
  have hM := fun A cap W h => Most_any 3 2 A 4 cap pairsX W h
  have hL := fun A cap W h => Lack_any 3 2 A 4 cap pairsX W h
  have hY := fun A cap W h => Lack_any 2 2 A 3 cap pairsY W h
  have hC := fun A cap W h => CheckM_any 3 2 A 4 cap pairsX W h
  rw [pairsX_e] at hM hL hC
  rw [pairsY_e] at hY
  have HM := Lib.hid hM
  clear hM
  have HL := Lib.hid hL
  clear hL
  have HY := Lib.hid hY
  clear hY
  have HC := Lib.hid hC
  clear hC
  go_enter Tryz.func27, Tryz.ntmps27
  go_wp2_with fail
  refine (pairs_any _).mono ?_
  rintro e w1 ⟨A1, c1, rfl, h1, hb⟩
  go_wp2_with fail
  refine (HM.out _ _ _ h1).mono ?_
  rintro e w2 ⟨v2, ml, xs2, rfl, ho2, hm, hb2⟩
  have hml := pairsX_most hm
  obtain ⟨A2, n2, c2, rfl, hs2⟩ := ho2.sl edgC_good
  obtain rfl : n2 = 2 := hs2.len.symm.trans hml
  replace hb := hb.trans (hb2.mono hb.size)
  clear hb2 ho2 h1 hs2 hm hml
  go_wp2_with fail
  refine (pairs_any _).mono ?_
  rintro e w3 ⟨A3, c3, rfl, h3, hb2⟩
  replace hb := hb.trans (hb2.mono hb.size)
  clear hb2
  go_wp2_with fail
  refine (HL.out _ _ _ h3).mono ?_
  rintro e w4 ⟨v4, sm, xs4, rfl, ho4, hm, hb2⟩
  have hsm := pairsX_lack hm
  obtain ⟨A4, n4, c4, rfl, hs4⟩ := ho4.sl intC_good
  have hn4 : 0 < n4 := by have := hs4.len; omega
  replace hb := hb.trans (hb2.mono hb.size)
  clear hb2 ho4 h3 hs4 hm hsm
  have hsl := Sl.ofEdgs (S := All) pairsY (Blk.new w4 #[.int .i64 0, .int .i64 0, .int .i64 0, .int .i64 1, .int .i64 1, .int .i64 0] 95) (by decide) trivial rfl (fun x hx => by simp [pairsY] at hx; rcases hx with rfl | rfl | rfl <;> exact ⟨.of (by decide) (by decide), .of (by decide) (by decide)⟩)
  replace hb := hb.alloc hb.size (.cells #[.int .i64 0, .int .i64 0, .int .i64 0, .int .i64 1, .int .i64 1, .int .i64 0] 95)
  go_wp2_with fail
  refine (HY.out _ _ _ hsl).mono ?_
  rintro e w5 ⟨v5, sm5, xs5, rfl, ho5, hm, hb2⟩
  obtain rfl := pairsY_lack hm
  obtain ⟨A5, n5, c5, rfl, hs5⟩ := ho5.sl intC_good
  obtain rfl : n5 = 0 := hs5.len.symm
  replace hb := hb.trans (hb2.mono hb.size)
  clear hb2 ho5 hsl hs5 hm
  go_wp2_with fail
  refine (pairs_any _).mono ?_
  rintro e w6 ⟨A6, c6, rfl, h6, hb2⟩
  replace hb := hb.trans (hb2.mono hb.size)
  clear hb2
  go_wp2_with fail
  refine (HC.out _ _ _ h6).mono ?_
  rintro e w7 ⟨rfl, hb2⟩
  replace hb := hb.trans (hb2.mono hb.size)
  clear hb2 h6
  have hn4' : (0 : Int) < (n4 : Int) := by omega
  go_wp2_with fail
  go_ret
  exact ⟨rfl, hb⟩
end Go.Proofs.YtlablioefblmkaaGreat
