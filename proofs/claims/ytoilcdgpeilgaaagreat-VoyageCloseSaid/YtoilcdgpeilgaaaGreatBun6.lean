/-
  Words, laws and contracts: ShipL, ShipM.
-/
import Derived.Test.YtoilcdgpeilgaaaGreatBun2
import Derived.Test.YtoilcdgpeilgaaaGreatBun5
set_option linter.unusedSimpArgs false
set_option linter.unusedVariables false
namespace Go.Proofs.YtoilcdgpeilgaaaGreat
open Go.RowKit Go.Shelf
theorem cell_mv {W X : World} {p j : Nat} {v : Value} (hX : Below W.heap.size W X) (hc : W.cell? ⟨p, j, none⟩ = some v) : X.cell? ⟨p, j, none⟩ = some v := (World.cell?_of_block (a := ⟨p, j, none⟩) (hX.block _ (cell_lt hc))).trans hc
theorem contains_succ {α : Type} [DecidableEq α] [BEq α] [LawfulBEq α] {l : List α} {k : Nat} {x y : α} (h : l[k]? = some x) : (l.take (k + 1)).contains y = ((l.take k).contains y || decide (x = y)) := by
  rw [take_snoc h, Bool.eq_iff_iff, Bool.or_eq_true, List.contains_iff_mem, List.contains_iff_mem, List.mem_append, List.mem_singleton, decide_eq_true_iff, @eq_comm _ y x]
theorem contains_take {α : Type} [BEq α] [LawfulBEq α] {l : List α} {k n : Nat} {x y : α} (h : l[k]? = some x) (hk : k < n) (he : x = y) : (l.take n).contains y = true := by
  subst he
  refine List.contains_iff_mem.2 (List.mem_take_iff_getElem.2 ⟨k, ?_, ?_⟩)
  · have := (List.getElem?_eq_some_iff.1 h).1; omega
  · exact (List.getElem?_eq_some_iff.1 h).2
set_option maxRecDepth 100000 in
set_option maxHeartbeats 20000000 in
theorem CheckShip_any (x : Shp) (A : Option Addr) (n cap : Nat) (B : Option Addr) (m cap2 : Nat) (w : World) (hc : Sl catC 2 w All A n cap x.cats) (hb : Sl cabC 4 w All B m cap2 x.cabs) :
    Calls Tryz.prog 105 #[.agg #[.int .i64 x.legs, .int .i64 x.souls, .slice A n cap, .slice B m cap2]] w fun e w' => e = .returned (.int .i64 (shipE x)) ∧ Below w.heap.size w w' := by
  obtain ⟨legs, souls, cats, cabs⟩ := x
  simp only at hc hb ⊢
  have hcl := hc.len
  have hbl := hb.len
  obtain ⟨r, hr⟩ : ∃ r, r = shipE ⟨legs, souls, cats, cabs⟩ := ⟨_, rfl⟩
  rw [← hr]
  have HR := Lib.hid hr
  clear hr
  have HCL := Lib.hid hcl
  clear hcl
  have HBL := Lib.hid hbl
  clear hbl
  have HC := Lib.hid hc
  clear hc
  have HBB := Lib.hid hb
  clear hb
  go_enter Tryz.func105, Tryz.ntmps105
  go_upto_region 0 with (fail)
  go_cut [1, 2] (fun p _ wx => ∃ g, p = .pointer (some ⟨g, 0, none⟩) ∧ ShpAt wx g legs souls A n cap B m cap2 ∧ Below w.heap.size w wx)
  case first => as_aux_lemma =>
    go_wp2_with fail
    go_meet
    exact ⟨_, rfl, blk1 _ _, bel1 _ _⟩
  obtain ⟨g, rfl, hG, hb⟩ := hcut
  obtain ⟨g0, g1, g2, g3⟩ := hG.all
  have hw1 := fun W => between_any legs 1 7 W
  have hw2 := fun W => between_any souls 1 60 W
  cases b1 : betB legs 1 7
  · have hr : r = 3 := by rw [HR.out]; unfold shipE; rw [if_pos (.inl b1)]
    subst hr
    rw [b1] at hw1
    clear b1
    go_wp2_with fail
    refine (hw1 _).mono ?_
    rintro e w9 ⟨rfl, rfl⟩
    go_wp2_with fail
    go_ret
    exact ⟨rfl, hb⟩
  have HB1 := Lib.hid b1
  rw [b1] at hw1
  clear b1
  go_wp2_with fail
  refine (hw1 _).mono ?_
  rintro e w9 ⟨rfl, rfl⟩
  clear hw1
  cases b2 : betB souls 1 60
  · have hr : r = 3 := by rw [HR.out]; unfold shipE; rw [if_pos (.inr b2)]
    subst hr
    rw [b2] at hw2
    clear b2
    go_wp2_with fail
    refine (hw2 _).mono ?_
    rintro e w9 ⟨rfl, rfl⟩
    go_wp2_with fail
    go_ret
    exact ⟨rfl, hb⟩
  have hr2 := HR.out
  unfold shipE at hr2
  rw [if_neg (by rw [HB1.out, b2]; simp)] at hr2
  simp only [HCL.out, HBL.out] at hr2
  have HR2 := Lib.hid hr2
  clear hr2
  rw [b2] at hw2
  clear b2
  go_wp2_with fail
  refine (hw2 _).mono ?_
  rintro e w9 ⟨rfl, rfl⟩
  clear hw2
  by_cases h0 : 5 < n
  · have hr : r = 2 := by rw [HR2.out, if_pos (.inl h0)]
    subst hr
    go_wp2_with fail
    go_ret
    exact ⟨rfl, hb⟩
  by_cases h1 : 12 < m
  · have hr : r = 2 := by rw [HR2.out, if_pos (.inr h1)]
    subst hr
    go_wp2_with fail
    go_ret
    exact ⟨rfl, hb⟩
  have HR3 := Lib.hid (HR2.out.trans (if_neg (by omega)))
  by_cases h2 : n = 0
  · have hr : r = 5 := by rw [HR3.out, if_pos (.inl h2)]
    subst hr
    subst h2
    go_wp2_with fail
    go_ret
    exact ⟨rfl, hb⟩
  by_cases h3 : m = 0
  · have hr : r = 5 := by rw [HR3.out, if_pos (.inr h3)]
    subst hr
    subst h3
    go_wp2_with fail
    go_ret
    exact ⟨rfl, hb⟩
  have HR4 := Lib.hid (HR3.out.trans (if_neg (by omega)))
  have d1 : decide ((5 : Int) < (n : Int)) = false := decide_eq_false (by omega)
  have d2 : decide ((12 : Int) < (m : Int)) = false := decide_eq_false (by omega)
  have d3 : ((n : Int) == 0) = false := by simpa using h2
  have d4 : ((m : Int) == 0) = false := by simpa using h3
  obtain ⟨W1, hW1⟩ : ∃ W1, W1 = wc := ⟨_, rfl⟩
  subst hW1
  have HG := Lib.hid hG
  have HB0 := Lib.hid hb
  have hr5 := HR4.out
  obtain ⟨e1, he1⟩ : ∃ e1, e1 = firstE (nmE (catNames cats) (catE cats)) n := ⟨_, rfl⟩
  obtain ⟨e2, he2⟩ : ∃ e2, e2 = firstE (nmE (cabNames cabs) (fun k => cabE n (cabs.getD k default))) m := ⟨_, rfl⟩
  obtain ⟨q, hq⟩ : ∃ q, q = rndB (higC cats) n := ⟨_, rfl⟩
  rw [← he1, ← he2, ← hq] at hr5
  have HQ := Lib.hid hq
  have HE1 := Lib.hid he1
  have HE2 := Lib.hid he2
  have HFIN := Lib.hid (show ∀ (k : Nat) (c : Int), k < n → firstE (nmE (catNames cats) (catE cats)) k = 0 → nmE (catNames cats) (catE cats) k = c → c ≠ 0 → r = c from fun k c hk h1 h2 h3 => by
    have : e1 = c := by rw [he1, firstE_at h1 (by rw [h2]; exact h3) hk, h2]
    rw [hr5, if_pos (by rw [this]; exact h3), this])
  have HR5 := Lib.hid hr5
  clear hr5
  clear hG hb he1 he2 hq HR HR2 HR3 HR4
  have hcl := HCL.out
  have hbl := HBL.out
  have hn5 : n ≤ 5 := by omega
  have hm12 : m ≤ 12 := by omega
  go_upto_block 0 with (fail)
  go_cut [3, 4, 5, 6, 7] (fun _ _ _ _ _ wx => Aside (e1 = 0) ∧ Below W1.heap.size W1 wx)
  case first => as_aux_lemma =>
    go_wp2_with fail
    go_loopg [3, 4, 5, 6, 7] n (fun gk i _ _ _ _ wr => ∃ k : Nat, k ≤ n ∧ n - k ≤ gk ∧ i = .int .i64 k ∧ Aside (firstE (nmE (catNames cats) (catE cats)) k = 0) ∧ Below W1.heap.size W1 wr)
    case atStart => exact ⟨0, Nat.zero_le _, by omega, rfl, rfl, Below.refl _ _⟩
    case round =>
      obtain ⟨k, hk, hgk, rfl, HA, hb⟩ := hrel
      have q2 := cell_mv hb g2
      have hret := Lib.hid (HB0.out.trans (hb.mono HB0.out.size))
      by_cases hlt : k < n
      · obtain ⟨bb, off, x, c0, c1, rfl, hx, ⟨A2, n2, cap2', hcs, hs2, hxl⟩, e0, e1'⟩ := (HC.out.bel hret.out).at2 hlt
        simp only [List.cons.injEq, and_true] at hcs
        obtain ⟨rfl, rfl⟩ := hcs
        have hnm : (catNames cats)[k]? = some x.name := by unfold catNames; rw [List.getElem?_map, hx]; rfl
        have HV := Lib.hid (show nmE (catNames cats) (catE cats) k = if nameB x.name = false then 1 else if ((catNames cats).take k).contains x.name then 6 else catE cats k by unfold nmE; rw [getD_of hnm])
        have hce : catE cats k = firstE (highE n x.high) n2 := by unfold catE; rw [getD_of hx, HCL.out, hs2.len]
        have HS2 := Lib.hid (hs2.all intC_good (by omega))
        have HCE := Lib.hid hce
        have HNM := Lib.hid (fun W => isName_any x.name W hxl)
        have HXL := Lib.hid hxl
        clear hx hs2 hnm hce hxl
        go_upto_region 10 with (fail)
        go_cut [4] (fun p wx => ∃ z, p = .pointer (some ⟨z, 0, none⟩) ∧ Blk wx z #[strV x.name, .slice A2 n2 cap2'] 184 ∧ Below wr.heap.size wr wx)
        case first => as_aux_lemma =>
          go_wp2_with fail
          go_meet
          exact ⟨_, rfl, blk1 _ _, bel1 _ _⟩
        obtain ⟨z, rfl, hz, hb3⟩ := hcut
        have HS3 := Lib.hid (HS2.out.bel hb3)
        have hb4 := hb.trans (hb3.mono hb.size)
        obtain ⟨W2, hW2⟩ : ∃ W2, W2 = wc := ⟨_, rfl⟩
        subst hW2
        have z0 : W2.cell? ⟨z, 0, none⟩ = some (strV x.name) := hz.cell rfl
        have z1 : W2.cell? ⟨z, 1, none⟩ = some (.slice A2 n2 cap2') := hz.cell rfl
        have HZ := Lib.hid hz
        have HB2 := Lib.hid hb4
        clear hb hb3 hb4 hz q2 e0 e1' hret
        have hret := Lib.hid (HB0.out.trans (HB2.out.mono HB0.out.size))
        cases b1 : nameB x.name
        · have hr : r = 1 := HFIN.out k 1 hlt HA (by rw [HV.out, if_pos b1]) (by decide)
          subst hr
          rw [b1] at HNM
          clear b1
          go_wp2_with fail
          refine (HNM.out _).mono ?_
          rintro e w2 ⟨rfl, rfl⟩
          go_wp2_with fail
          go_ret
          exact ⟨rfl, hret.out⟩
        have HV2 := Lib.hid (HV.out.trans (if_neg (by rw [b1]; simp)))
        rw [b1] at HNM
        clear b1
        go_wp2_with fail
        refine (HNM.out _).mono ?_
        rintro e W2 ⟨rfl, rfl⟩
        go_upto_block 2 with (fail)
        go_cut [5] (fun _ wx => Aside (((catNames cats).take k).contains x.name = false) ∧ Below W2.heap.size W2 wx)
        case first => as_aux_lemma =>
          go_wp2_with fail
          go_loopg [5] k (fun gk i wr => ∃ j : Nat, j ≤ k ∧ k - j ≤ gk ∧ i = .int .i64 j ∧ Aside (((catNames cats).take j).contains x.name = false) ∧ Below W2.heap.size W2 wr)
          case atStart => exact ⟨0, Nat.zero_le _, by omega, rfl, rfl, Below.refl _ _⟩
          case round =>
            obtain ⟨j, hj, hgj, rfl, HJ, hb⟩ := hrel
            by_cases hjk : j < k
            · have hbw := HB2.out.trans (hb.mono HB2.out.size)
              have q2 := cell_mv hbw g2
              have y0 := cell_mv hb z0
              obtain ⟨bb', off', y, c0', c1', hA', hy, ⟨A3, n3, cap3, hcs', _, _⟩, e0, e1'⟩ := (HC.out.bel (HB0.out.trans (hbw.mono HB0.out.size))).at2 (show j < n by omega)
              injection hA' with hA'
              injection hA' with h1 h2 _
              subst h1 h2
              simp only [List.cons.injEq, and_true] at hcs'
              obtain ⟨rfl, rfl⟩ := hcs'
              have hyn : (catNames cats)[j]? = some y.name := by unfold catNames; rw [List.getElem?_map, hy]; rfl
              have HYN := Lib.hid hyn
              have HRT := Lib.hid (HB0.out.trans (hbw.mono HB0.out.size))
              obtain ⟨nx, hnx⟩ : ∃ nx, nx = x.name := ⟨_, rfl⟩
              obtain ⟨ny, hny⟩ : ∃ ny, ny = y.name := ⟨_, rfl⟩
              rw [← hnx] at y0
              rw [← hny] at e0
              unfold strV at y0 e0
              clear hyn hy hbw
              have HT1 := Lib.hid (show ny = nx ↔ y.name = x.name by rw [hnx, hny])
              clear hnx hny z0 z1
              by_cases hne : ny = nx
              · have hr : r = 6 := HFIN.out k 6 hlt HA (by rw [HV2.out, if_pos (contains_take HYN.out hjk (HT1.out.1 hne))]) (by decide)
                subst hr
                subst hne
                go_wp2_with fail
                go_quiet (fail)
                go_wp2_with fail
                go_ret
                exact ⟨rfl, below_drewN HRT.out _⟩
              · have hbq : (ny == nx) = false := by simpa using hne
                have HN := Lib.hid (show ((catNames cats).take (j + 1)).contains x.name = false by rw [contains_succ HYN.out, show ((catNames cats).take j).contains x.name = false from HJ, decide_eq_false (fun h => hne (HT1.out.2 h))]; rfl)
                go_wp2_with fail
                go_quiet (fail)
                go_wp2_with fail
                go_roundg (k - (j + 1))
                case measure => omega
                case rel => exact ⟨j + 1, by omega, by omega, by go_num, HN.out, below_drewN hb _⟩
            · obtain rfl : j = k := by omega
              go_wp2_with fail
              go_meet
              exact ⟨HJ, hb⟩
        obtain ⟨HJ, hb⟩ := hcut
        have HV3 := Lib.hid ((HV2.out.trans (if_neg (by rw [show ((catNames cats).take k).contains x.name = false from HJ]; simp))).trans HCE.out)
        have HFI2 := Lib.hid (show ∀ (i : Nat) (c : Int), i < n2 → firstE (highE n x.high) i = 0 → highE n x.high i = c → c ≠ 0 → r = c from fun i c hi h1 h2 h3 =>
          HFIN.out k c hlt HA (by rw [HV3.out, firstE_at h1 (by rw [h2]; exact h3) hi, h2]) h3)
        have HSW := Lib.hid (HS3.out.bel hb)
        have w1 := cell_mv hb z1
        have HB5 := Lib.hid (HB2.out.trans (hb.mono HB2.out.size))
        have w2 := cell_mv HB5.out g2
        have hn2 : n2 ≤ 9223372036854775807 := HSW.out.bd
        obtain ⟨W5, hW5⟩ : ∃ W5, W5 = wc := ⟨_, rfl⟩
        subst hW5
        clear hb z0 z1
        go_wp2_with fail
        go_loopg [6, 7] n2 (fun gk i _ wr => ∃ j : Nat, j ≤ n2 ∧ n2 - j ≤ gk ∧ i = .int .i64 j ∧ Aside (firstE (highE n x.high) j = 0) ∧ Below W5.heap.size W5 wr)
        case atStart => exact ⟨0, Nat.zero_le _, by omega, rfl, rfl, Below.refl _ _⟩
        case round =>
          obtain ⟨j, hj, hgj, rfl, HJ2, hb⟩ := hrel
          have y1 := cell_mv hb w1
          have y2 := cell_mv hb w2
          have HBW := Lib.hid (HB5.out.trans (hb.mono HB5.out.size))
          by_cases hjk : j < n2
          · obtain ⟨b3, off3, y, d0, rfl, hy, ⟨hd, _⟩, f5⟩ := HSW.out.at1 hjk
            simp only [List.cons.injEq, and_true] at hd
            obtain rfl := hd
            have f0 := cell_mv hb f5
            have HHV := Lib.hid (show highE n x.high j = if betB y 0 ((n : Int) - 1) = false then 3 else if (x.high.take j).contains y then 6 else 0 by unfold highE; rw [getD_of hy])
            have HY := Lib.hid hy
            have HBJ := Lib.hid hb
            clear hy hb
            by_cases hy0 : y < 0
            · have hr : r = 3 := HFI2.out j 3 hjk HJ2 (by rw [HHV.out, if_pos (betB_false (.inl hy0))]) (by decide)
              subst hr
              go_wp2_with fail
              go_quiet (fail)
              go_wp2_with fail
              go_ret
              exact ⟨rfl, below_drewN (HB0.out.trans (HBW.out.mono HB0.out.size)) _⟩
            by_cases hyn : (n : Int) ≤ y
            · have hr : r = 3 := HFI2.out j 3 hjk HJ2 (by rw [HHV.out, if_pos (betB_false (.inr (by omega)))]) (by decide)
              subst hr
              go_wp2_with fail
              go_quiet (fail)
              go_wp2_with fail
              go_ret
              exact ⟨rfl, below_drewN (HB0.out.trans (HBW.out.mono HB0.out.size)) _⟩
            have HHV2 := Lib.hid (HHV.out.trans (if_neg (by rw [betB_true (by omega) (by omega)]; simp)))
            go_wp2_with fail
            go_quiet (fail)
            have hbq := below_drewN HBJ.out nq
            clear y1 y2 f0
            go_wp2_with fail
            go_loopg [7] j (fun gk i wr => ∃ s : Nat, s ≤ j ∧ j - s ≤ gk ∧ i = .int .i64 s ∧ Aside ((x.high.take s).contains y = false) ∧ Below W5.heap.size W5 wr)
            case atStart => exact ⟨0, Nat.zero_le _, by omega, rfl, rfl, hbq⟩
            case round =>
              obtain ⟨s, hs, hgs, rfl, HS, hb⟩ := hrel
              have HBS := Lib.hid (HB5.out.trans (hb.mono HB5.out.size))
              by_cases hsj : s < j
              · obtain ⟨b4, off4, y', d4, hA4, hy', ⟨hd', _⟩, f6⟩ := HSW.out.at1 (show s < n2 by omega)
                injection hA4 with hA4
                injection hA4 with h1 h2 _
                subst h1 h2
                simp only [List.cons.injEq, and_true] at hd'
                obtain rfl := hd'
                have y1 := cell_mv hb w1
                have f0 := cell_mv hb f5
                have f1 := cell_mv hb f6
                have HY2 := Lib.hid hy'
                have HBN := Lib.hid hb
                clear hy' hb w1 w2 f5 f6
                by_cases hyy : y' = y
                · have hr : r = 6 := HFI2.out j 6 hjk HJ2 (by rw [HHV2.out, if_pos (contains_take HY2.out hsj hyy)]) (by decide)
                  subst hr
                  subst hyy
                  go_wp2_with fail
                  go_quiet (fail)
                  go_wp2_with fail
                  go_ret
                  exact ⟨rfl, below_drewN (HB0.out.trans (HBS.out.mono HB0.out.size)) _⟩
                · have hbf : (y' == y) = false := by simpa using hyy
                  have HN := Lib.hid (show (x.high.take (s + 1)).contains y = false by rw [contains_succ HY2.out, show (x.high.take s).contains y = false from HS, decide_eq_false hyy]; rfl)
                  go_wp2_with fail
                  go_quiet (fail)
                  go_wp2_with fail
                  go_roundg (j - (s + 1))
                  case measure => omega
                  case rel => exact ⟨s + 1, by omega, by omega, by go_num, HN.out, below_drewN HBN.out _⟩
              · obtain rfl : s = j := by omega
                have HN := Lib.hid (show firstE (highE n x.high) (s + 1) = 0 from firstE_succ HJ2 (by rw [HHV2.out, show (x.high.take s).contains y = false from HS]; rfl))
                have HBN := Lib.hid hb
                clear hb
                go_wp2_with fail
                go_roundg (n2 - (s + 1))
                case measure => omega
                case rel => exact ⟨s + 1, by omega, by omega, by go_num, HN.out, HBN.out⟩
          · obtain rfl : j = n2 := by omega
            have HN := Lib.hid (show firstE (nmE (catNames cats) (catE cats)) (k + 1) = 0 from firstE_succ HA (by rw [HV3.out]; exact HJ2))
            go_wp2_with fail
            go_roundg (n - (k + 1))
            case measure => omega
            case rel => exact ⟨k + 1, by omega, by omega, by go_num, HN.out, HBW.out⟩
      · obtain rfl : k = n := by omega
        have HE := Lib.hid (show e1 = 0 by rw [HE1.out]; exact HA)
        go_wp2_with fail
        go_meet
        exact ⟨HE.out, hb⟩
  obtain ⟨HE0, hb⟩ := hcut
  have HR6 := Lib.hid (show r = if q = true then 4 else e2 from HR5.out.trans (if_neg (by rw [show e1 = 0 from HE0]; simp)))
  have hok := okCats_of (cats := cats) (nms := catNames cats) (by omega) (by rw [HCL.out, ← HE1.out]; exact HE0)
  have HB2 := Lib.hid (HB0.out.trans (hb.mono HB0.out.size))
  have hst := ServeTable_any legs souls A n cap cats (.slice B m cap2) wc (HC.out.bel HB2.out) hok (by omega)
  have x0 := cell_mv hb g0
  have x1 := cell_mv hb g1
  have x2 := cell_mv hb g2
  have x3 := cell_mv hb g3
  have HBC := Lib.hid hb
  have HCN := Lib.hid (show (higC cats).length = n by rw [higC_len]; exact HCL.out)
  have HST := Lib.hid hst
  clear hst
  clear hb hok HFIN HR5 HE0 HE1
  go_wp2_with fail
  refine HST.out.mono ?_
  rintro e w2 ⟨BS, o, cap3, bls, rfl, hbl2, hT, hb2⟩
  have HT := Lib.hid hT
  have HBC2 := Lib.hid (HBC.out.trans (hb2.mono HBC.out.size))
  clear x0 x1 x2 x3 hT hb2
  obtain ⟨W8, hW8⟩ : ∃ W8, W8 = w2 := ⟨_, rfl⟩
  subst hW8
  go_upto_block 8 with (fail)
  go_cut [9] (fun _ wx => Aside (q = false) ∧ wx = W8)
  case first => as_aux_lemma =>
    go_wp2_with fail
    go_loopg [9] n (fun gk i wr => ∃ k : Nat, k ≤ n ∧ n - k ≤ gk ∧ i = .int .i64 k ∧ Aside (rndB (higC cats) k = false) ∧ wr = W8)
    case atStart => exact ⟨0, Nat.zero_le _, by omega, rfl, rfl, rfl⟩
    case round =>
      obtain ⟨k, hk, hgk, rfl, HA, rfl⟩ := hrel
      by_cases hlt : k < n
      · obtain ⟨bk, hbk⟩ : ∃ bk, bls[k]? = some bk := ⟨_, List.getElem?_eq_getElem (by omega)⟩
        have r0 := HT.out.outer hbk
        have r1 := HT.out.inner hbk (j := k) hlt
        have hts := tab_srv (C := higC cats) k k
        rw [HCN.out] at hts
        obtain ⟨s, hs⟩ : ∃ s, s = tabF (higC cats) n k k := ⟨_, rfl⟩
        rw [← hs] at r1 hts
        have HTS := Lib.hid hts
        clear hts
        clear hs hbk
        cases s
        · have HN := Lib.hid (show rndB (higC cats) (k + 1) = false by rw [rndB_succ, show rndB (higC cats) k = false from HA, decide_eq_false (fun h => absurd (HTS.out.2 h) (by simp))]; rfl)
          go_wp2_with fail
          go_roundg (n - (k + 1))
          case measure => omega
          case rel => exact ⟨k + 1, by omega, by omega, by go_num, HN.out, rfl⟩
        · have hr : r = 4 := HR6.out.trans (if_pos (by rw [HQ.out]; exact rndB_hit (HTS.out.1 rfl) hlt))
          subst hr
          go_wp2_with fail
          go_ret
          exact ⟨rfl, HB0.out.trans (HBC2.out.mono HB0.out.size)⟩
      · obtain rfl : k = n := by omega
        go_wp2_with fail
        go_meet
        exact ⟨(show Aside _ from by rw [HQ.out]; exact HA), rfl⟩
  obtain ⟨HQF, rfl⟩ := hcut
  have HR7 := Lib.hid (show r = e2 from HR6.out.trans (if_neg (by rw [show q = false from HQF]; simp)))
  obtain ⟨fc, hfc⟩ : ∃ fc : Nat → Int, fc = fun k => cabE n (cabs.getD k default) := ⟨_, rfl⟩
  have he2 := HE2.out
  rw [← hfc] at he2
  have HFC := Lib.hid hfc
  have HFIN := Lib.hid (show ∀ (k : Nat) (c : Int), k < m → firstE (nmE (cabNames cabs) fc) k = 0 → nmE (cabNames cabs) fc k = c → c ≠ 0 → r = c from fun k c hk h1 h2 h3 => by
    rw [HR7.out, he2, firstE_at h1 (by rw [h2]; exact h3) hk, h2])
  have HE3 := Lib.hid (show r = firstE (nmE (cabNames cabs) fc) m by rw [HR7.out, he2])
  clear he2 hfc HQF HR6 HQ HE2 HST HT HCN hbl2
  go_wp2_with fail
  go_loopg [10, 11, 12] m (fun gk i _ _ wr => ∃ k : Nat, k ≤ m ∧ m - k ≤ gk ∧ i = .int .i64 k ∧ Aside (firstE (nmE (cabNames cabs) fc) k = 0) ∧ Below W1.heap.size W1 wr)
  case atStart => exact ⟨0, Nat.zero_le _, by omega, rfl, rfl, HBC2.out⟩
  case round =>
    obtain ⟨k, hk, hgk, rfl, HA, hb⟩ := hrel
    have q2 := cell_mv hb g3
    have hret := Lib.hid (HB0.out.trans (hb.mono HB0.out.size))
    by_cases hlt : k < m
    · obtain ⟨bb, off, x, c0, c1, c2, c3, rfl, hx, ⟨hcs, hxl, i1, i2⟩, e0, e1', e2', e3'⟩ := (HBB.out.bel hret.out).at4 hlt
      simp only [List.cons.injEq, and_true] at hcs
      obtain ⟨rfl, rfl, rfl, rfl⟩ := hcs
      have hnm : (cabNames cabs)[k]? = some x.name := by unfold cabNames; rw [List.getElem?_map, hx]; rfl
      have hfk : fc k = cabE n x := by rw [HFC.out]; show cabE n (cabs.getD k default) = _; rw [getD_of hx]
      have HV := Lib.hid (show nmE (cabNames cabs) fc k = if nameB x.name = false then 1 else if ((cabNames cabs).take k).contains x.name then 6 else cabE n x by unfold nmE; rw [getD_of hnm, hfk])
      have HNM := Lib.hid (fun W => isName_any x.name W hxl)
      clear hx hnm hxl hfk
      go_upto_region 37 with (fail)
      go_cut [11] (fun p wx => ∃ z, p = .pointer (some ⟨z, 0, none⟩) ∧ Blk wx z #[strV x.name, .int .i64 x.cat, .int .i64 x.ber, .bool x.lev] 76 ∧ Below wr.heap.size wr wx)
      case first => as_aux_lemma =>
        go_wp2_with fail
        go_meet
        exact ⟨_, rfl, blk1 _ _, bel1 _ _⟩
      obtain ⟨z, rfl, hz, hb3⟩ := hcut
      obtain ⟨nx, hnx⟩ : ∃ nx, nx = x.name := ⟨_, rfl⟩
      rw [← hnx] at HV HNM hz
      have hb4 := hb.trans (hb3.mono hb.size)
      obtain ⟨W2, hW2⟩ : ∃ W2, W2 = wc := ⟨_, rfl⟩
      subst hW2
      have z0 : W2.cell? ⟨z, 0, none⟩ = some (.string ⟨nx.toArray⟩) := hz.cell rfl
      have z1 : W2.cell? ⟨z, 1, none⟩ = some (.int .i64 x.cat) := hz.cell rfl
      have z2 : W2.cell? ⟨z, 2, none⟩ = some (.int .i64 x.ber) := hz.cell rfl
      have HB4 := Lib.hid hb4
      clear hb hb3 hb4 hz q2 e0 e1' e2' e3' hret hnx
      have hret := Lib.hid (HB0.out.trans (HB4.out.mono HB0.out.size))
      cases b1 : nameB nx
      · have hr : r = 1 := HFIN.out k 1 hlt HA (by rw [HV.out, if_pos b1]) (by decide)
        subst hr
        rw [b1] at HNM
        clear b1
        go_wp2_with fail
        refine (HNM.out _).mono ?_
        rintro e w2 ⟨rfl, rfl⟩
        go_wp2_with fail
        go_ret
        exact ⟨rfl, hret.out⟩
      have HV2 := Lib.hid (HV.out.trans (if_neg (by rw [b1]; simp)))
      rw [b1] at HNM
      clear b1
      go_wp2_with fail
      refine (HNM.out _).mono ?_
      rintro e W2 ⟨rfl, rfl⟩
      go_upto_block 12 with (fail)
      go_cut [12] (fun _ wx => Aside (((cabNames cabs).take k).contains nx = false) ∧ Below W2.heap.size W2 wx)
      case first => as_aux_lemma =>
        go_wp2_with fail
        go_loopg [12] k (fun gk i wr => ∃ j : Nat, j ≤ k ∧ k - j ≤ gk ∧ i = .int .i64 j ∧ Aside (((cabNames cabs).take j).contains nx = false) ∧ Below W2.heap.size W2 wr)
        case atStart => exact ⟨0, Nat.zero_le _, by omega, rfl, rfl, Below.refl _ _⟩
        case round =>
          obtain ⟨j, hj, hgj, rfl, HJ, hb⟩ := hrel
          by_cases hjk : j < k
          · have hbw := HB4.out.trans (hb.mono HB4.out.size)
            have q2 := cell_mv hbw g3
            have y0 := cell_mv hb z0
            obtain ⟨bb', off', y, c0', c1', c2', c3', hA', hy, ⟨hcs', _, _, _⟩, e0, e1', e2', e3'⟩ := (HBB.out.bel (HB0.out.trans (hbw.mono HB0.out.size))).at4 (show j < m by omega)
            injection hA' with hA'
            injection hA' with h1 h2 _
            subst h1 h2
            simp only [List.cons.injEq, and_true] at hcs'
            obtain ⟨rfl, rfl, rfl, rfl⟩ := hcs'
            have hyn : (cabNames cabs)[j]? = some y.name := by unfold cabNames; rw [List.getElem?_map, hy]; rfl
            have HRT := Lib.hid (HB0.out.trans (hbw.mono HB0.out.size))
            obtain ⟨ny, hny⟩ : ∃ ny, ny = y.name := ⟨_, rfl⟩
            rw [← hny] at e0 hyn
            have HYN := Lib.hid hyn
            unfold strV at e0
            clear hyn hy hbw hny z0 z1 z2 e1' e2' e3'
            by_cases hne : ny = nx
            · have hr : r = 6 := HFIN.out k 6 hlt HA (by rw [HV2.out, if_pos (contains_take HYN.out hjk hne)]) (by decide)
              subst hr
              subst hne
              go_wp2_with fail
              go_quiet (fail)
              go_wp2_with fail
              go_ret
              exact ⟨rfl, below_drewN HRT.out _⟩
            · have hbq : (ny == nx) = false := by simpa using hne
              have HN := Lib.hid (show ((cabNames cabs).take (j + 1)).contains nx = false by rw [contains_succ HYN.out, show ((cabNames cabs).take j).contains nx = false from HJ, decide_eq_false hne]; rfl)
              go_wp2_with fail
              go_quiet (fail)
              go_wp2_with fail
              go_roundg (k - (j + 1))
              case measure => omega
              case rel => exact ⟨j + 1, by omega, by omega, by go_num, HN.out, below_drewN hb _⟩
          · obtain rfl : j = k := by omega
            go_wp2_with fail
            go_meet
            exact ⟨HJ, hb⟩
      obtain ⟨HJ, hb⟩ := hcut
      have HV3 := Lib.hid (show nmE (cabNames cabs) fc k = if betB x.cat 0 ((n : Int) - 1) = false ∨ betB x.ber 1 4 = false then 3 else 0 from HV2.out.trans (if_neg (by rw [show ((cabNames cabs).take k).contains nx = false from HJ]; simp)))
      have HB5 := Lib.hid (HB4.out.trans (hb.mono HB4.out.size))
      have w1 := cell_mv hb z1
      have w2 := cell_mv hb z2
      have w3 := cell_mv HB5.out g2
      have HRT := Lib.hid (HB0.out.trans (HB5.out.mono HB0.out.size))
      have hw1 := fun W => between_any x.ber 1 4 W
      clear hb z0 z1 z2 hret
      by_cases hy0 : x.cat < 0
      · have hr : r = 3 := HFIN.out k 3 hlt HA (by rw [HV3.out, if_pos (.inl (betB_false (.inl hy0)))]) (by decide)
        subst hr
        go_wp2_with fail
        go_ret
        exact ⟨rfl, HRT.out⟩
      by_cases hyn : (n : Int) ≤ x.cat
      · have hr : r = 3 := HFIN.out k 3 hlt HA (by rw [HV3.out, if_pos (.inl (betB_false (.inr (by omega))))]) (by decide)
        subst hr
        go_wp2_with fail
        go_ret
        exact ⟨rfl, HRT.out⟩
      cases b2 : betB x.ber 1 4
      · have hr : r = 3 := HFIN.out k 3 hlt HA (by rw [HV3.out, if_pos (.inr b2)]) (by decide)
        subst hr
        rw [b2] at hw1
        clear b2
        go_wp2_with fail
        refine (hw1 _).mono ?_
        rintro e wz ⟨rfl, rfl⟩
        go_wp2_with fail
        go_ret
        exact ⟨rfl, HRT.out⟩
      have HN := Lib.hid (show firstE (nmE (cabNames cabs) fc) (k + 1) = 0 from firstE_succ HA (by rw [HV3.out, if_neg (by rw [b2, betB_true (by omega) (by omega)]; simp)]))
      rw [b2] at hw1
      clear b2
      go_wp2_with fail
      refine (hw1 _).mono ?_
      rintro e wz ⟨rfl, rfl⟩
      go_wp2_with fail
      go_roundg (m - (k + 1))
      case measure => omega
      case rel => exact ⟨k + 1, by omega, by omega, by go_num, HN.out, HB5.out⟩
    · obtain rfl : k = m := by omega
      have hr : r = 0 := by rw [HE3.out]; exact HA
      subst hr
      go_wp2_with fail
      go_ret
      exact ⟨rfl, hret.out⟩
end Go.Proofs.YtoilcdgpeilgaaaGreat
namespace Go.Proofs.YtoilcdgpeilgaaaGreat
open Go.RowKit Go.Shelf
def vesselX : Shp := ⟨3, 6, [⟨[73, 78], [1]⟩, ⟨[79, 85, 84], [2]⟩, ⟨[83, 85, 73, 84, 69], []⟩], [⟨[65, 49], 0, 2, false⟩, ⟨[66, 49], 1, 4, true⟩, ⟨[67, 49], 2, 2, false⟩]⟩
theorem mlen {n : Nat} (h : n ≤ 1000) : n ≤ maxLen := by simp only [maxLen]; omega
set_option maxRecDepth 100000 in
set_option maxHeartbeats 2000000 in
theorem vessel_any (w : World) : Calls Tryz.prog 128 #[] w fun e w' => ∃ A n cap B m cap2, e = .returned (.agg #[.int .i64 vesselX.legs, .int .i64 vesselX.souls, .slice A n cap, .slice B m cap2]) ∧ Sl catC 2 w' All A n cap vesselX.cats ∧ Sl cabC 4 w' All B m cap2 vesselX.cabs ∧ Below w.heap.size w w' := by
  go_enter Tryz.func128, Tryz.ntmps128
  go_wp2_with fail
  refine bodyPost_ret (v := .agg #[.int .i64 3, .int .i64 6, .slice (some ⟨w.heap.size + 1 + 1 + 1, 0, none⟩) 3 3, .slice (some ⟨w.heap.size + 1 + 1 + 1 + 1, 0, none⟩) 3 3]) (by simp [results, Tryz.results128, go_sem]) rfl ?_
  refine ⟨_, _, _, _, _, _, rfl, ?_, ?_, ?_⟩
  · refine Sl.ofBlk (l := vesselX.cats) (((Blk.new3 w _ _ _ _ _).old _)) (by decide) trivial fun i x hx => ?_
    rcases i with _ | _ | _ | i
    · obtain rfl : (⟨[73, 78], [1]⟩ : Cat) = x := by simpa [vesselX] using hx
      exact ⟨[strV [73, 78], .slice (some ⟨w.heap.size + 1, 0, none⟩) 1 1], ⟨_, _, _, rfl, Sl.ofInts [1] ((((Blk.new1 w _ _ _).old _).old _).old _) (by decide) trivial (by decide), mlen (by decide)⟩, rfl, fun j u hu => by rcases j with _ | _ | j <;> simp_all⟩
    · obtain rfl : (⟨[79, 85, 84], [2]⟩ : Cat) = x := by simpa [vesselX] using hx
      exact ⟨[strV [79, 85, 84], .slice (some ⟨w.heap.size + 1 + 1, 0, none⟩) 1 1], ⟨_, _, _, rfl, Sl.ofInts [2] (((Blk.new2 w _ _ _ _).old _).old _) (by decide) trivial (by decide), mlen (by decide)⟩, rfl, fun j u hu => by rcases j with _ | _ | j <;> simp_all⟩
    · obtain rfl : (⟨[83, 85, 73, 84, 69], []⟩ : Cat) = x := by simpa [vesselX] using hx
      exact ⟨[strV [83, 85, 73, 84, 69], .slice none 0 0], ⟨_, _, _, rfl, Sl.nil _ _ _ _, mlen (by decide)⟩, rfl, fun j u hu => by rcases j with _ | _ | j <;> simp_all⟩
    · simp [vesselX] at hx
  · refine Sl.ofBlk (l := vesselX.cabs) (Blk.new4 w _ _ _ _ _ _) (by decide) trivial fun i x hx => ?_
    rcases i with _ | _ | _ | i
    · obtain rfl : (⟨[65, 49], 0, 2, false⟩ : Cab) = x := by simpa [vesselX] using hx
      exact ⟨[strV [65, 49], .int .i64 0, .int .i64 2, .bool false], ⟨rfl, mlen (by decide), .of (by decide) (by decide), .of (by decide) (by decide)⟩, rfl, fun j u hu => by rcases j with _ | _ | _ | _ | j <;> simp_all⟩
    · obtain rfl : (⟨[66, 49], 1, 4, true⟩ : Cab) = x := by simpa [vesselX] using hx
      exact ⟨[strV [66, 49], .int .i64 1, .int .i64 4, .bool true], ⟨rfl, mlen (by decide), .of (by decide) (by decide), .of (by decide) (by decide)⟩, rfl, fun j u hu => by rcases j with _ | _ | _ | _ | j <;> simp_all⟩
    · obtain rfl : (⟨[67, 49], 2, 2, false⟩ : Cab) = x := by simpa [vesselX] using hx
      exact ⟨[strV [67, 49], .int .i64 2, .int .i64 2, .bool false], ⟨rfl, mlen (by decide), .of (by decide) (by decide), .of (by decide) (by decide)⟩, rfl, fun j u hu => by rcases j with _ | _ | _ | _ | j <;> simp_all⟩
    · simp [vesselX] at hx
  · exact ((bel3 w _ _ _).alloc (by simp; omega) _).alloc (by simp; omega) _
theorem vessel_e : shipE vesselX = 0 := by decide
theorem vessel_s1 : servE vesselX 2 0 = 0 := by decide
theorem vessel_s2 : servE vesselX 0 1 = 0 := by decide
theorem vessel_b1 : srvB (higC vesselX.cats) 2 0 = true := by decide
theorem vessel_b2 : srvB (higC vesselX.cats) 0 1 = false := by decide
theorem vessel_o : ordF (higC vesselX.cats) 3 = [2, 1, 0] := by decide
set_option maxRecDepth 100000 in
set_option maxHeartbeats 8000000 in
theorem shipBegun_any (w : World) : Calls Tryz.prog 51 #[] w fun e w' => e = .returned (.bool true) ∧ Below w.heap.size w w' := by
  have hb := Below.refl w.heap.size w
  have hS := fun a b A n cap B m cap2 W hc hb => Serves_any vesselX A n cap B m cap2 a b W hc hb
  have hS1 := hS 2 0
  have hS2 := hS 0 1
  rw [vessel_s1, show okB 0 (srvB (higC vesselX.cats) (2 : Int).toNat (0 : Int).toNat) = true from vessel_b1] at hS1
  rw [vessel_s2, show okB 0 (srvB (higC vesselX.cats) (0 : Int).toNat (1 : Int).toNat) = false from vessel_b2] at hS2
  have hO := fun A cap B m cap2 W hc hb => Order_any vesselX A 3 cap B m cap2 W hc hb
  rw [vessel_e, okL_zero, vessel_o] at hO
  have hK := fun A n cap B m cap2 W hc hb => shipCheck_any vesselX A n cap B m cap2 W hc hb
  rw [vessel_e] at hK
  have HS1 := Lib.hid hS1
  clear hS1
  have HS2 := Lib.hid hS2
  clear hS2
  have HO := Lib.hid hO
  clear hO
  have HK := Lib.hid hK
  clear hK
  clear hS
  go_enter Tryz.func51, Tryz.ntmps51
  go_wp2_with fail
  refine (vessel_any _).mono ?_
  rintro e w1 ⟨A1, n1, k1, B1, m1, q1, rfl, hc1, hd1, hb1⟩
  replace hb := hb.trans (hb1.mono hb.size)
  go_wp2_with fail
  refine (HS1.out _ _ _ _ _ _ _ hc1 hd1).mono ?_
  rintro e w2 ⟨rfl, hb2⟩
  replace hb := hb.trans (hb2.mono hb.size)
  clear hb1 hc1 hd1 hb2
  go_wp2_with fail
  refine (vessel_any _).mono ?_
  rintro e w3 ⟨A2, n2, k2, B2, m2, q2, rfl, hc2, hd2, hb3⟩
  replace hb := hb.trans (hb3.mono hb.size)
  go_wp2_with fail
  refine (HS2.out _ _ _ _ _ _ _ hc2 hd2).mono ?_
  rintro e w4 ⟨rfl, hb4⟩
  replace hb := hb.trans (hb4.mono hb.size)
  clear hb3 hc2 hd2 hb4
  go_wp2_with fail
  refine (vessel_any _).mono ?_
  rintro e w5 ⟨A3, n3, k3, B3, m3, q3, rfl, hc3, hd3, hb5⟩
  obtain rfl : n3 = 3 := hc3.len.symm
  replace hb := hb.trans (hb5.mono hb.size)
  go_wp2_with fail
  refine (HO.out _ _ _ _ _ _ hc3 hd3).mono ?_
  rintro e w6 ⟨v, xs, rfl, ho, hb6⟩
  obtain ⟨A4, n4, k4, rfl, hs⟩ := ho.sl intC_good
  replace hs := hs.all intC_good (by omega)
  replace hb := hb.trans (hb6.mono hb.size)
  clear hb5 hc3 hd3 hb6 ho
  go_wp2_with fail
  refine (vessel_any _).mono ?_
  rintro e w7 ⟨A5, n5, k5, B5, m5, q5, rfl, hc5, hd5, hb7⟩
  replace hb := hb.trans (hb7.mono hb.size)
  go_wp2_with fail
  refine (HK.out _ _ _ _ _ _ _ hc5 hd5).mono ?_
  rintro e w8 ⟨rfl, hb8⟩
  replace hs := (hs.bel hb7).bel hb8
  replace hb := hb.trans (hb8.mono hb.size)
  clear hb7 hc5 hd5 hb8
  have hlit := Sl.ofInts [2, 1, 0] (Blk.new w8 #[.int .i64 2, .int .i64 1, .int .i64 0] 3) (by decide) (S := All) trivial (by decide)
  have hsi := SameInts_any _ _ _ _ _ _ _ _ _ (hs.bel (bel1 w8 (.cells #[.int .i64 2, .int .i64 1, .int .i64 0] 3))) hlit
  rw [decide_eq_true rfl] at hsi
  have HSI := Lib.hid hsi
  clear hsi
  have HB := Lib.hid (hb.alloc hb.size (.cells #[.int .i64 2, .int .i64 1, .int .i64 0] 3))
  clear hlit hs hb
  go_wp2_with fail
  refine HSI.out.mono ?_
  rintro e w9 ⟨rfl, q, rfl⟩
  go_wp2_with fail
  go_ret
  exact ⟨rfl, below_drewN HB.out _⟩
end Go.Proofs.YtoilcdgpeilgaaaGreat
