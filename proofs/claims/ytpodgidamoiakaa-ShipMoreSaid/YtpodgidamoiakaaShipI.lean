/-
  Ships: Order.
-/
import Derived.Test.YtpodgidamoiakaaShipF
namespace Go.Proofs.Ytpodgidamoiakaa
open Go.RowKit Go.Shelf

set_option maxRecDepth 100000 in
theorem Order1_any (h : Nat) (A : Option Addr) (n cap : Nat) (out : List Int) (x : Int) (w : World) (hh : w.cell? ⟨h, 0, none⟩ = some (.slice A n cap)) (hs : Sl intC 1 w All A n cap out) :
    Calls Try.prog 47 #[.int .i64 x, .pointer (some ⟨h, 0, none⟩)] w fun e w' => e = .returned (.bool (!out.contains x)) ∧ Below w.heap.size w w' := by
  have hc := Contains_int A n cap out x w hs
  have HC := Lib.hid hc
  clear hc
  clear hs
  go_enter Try.func47, Try.ntmps47
  go_wp2_with fail
  refine HC.out.mono ?_
  rintro e w1 ⟨rfl, rfl⟩
  go_wp2_with fail
  go_ret
  exact ⟨retB (by simp), Below.refl _ _⟩

theorem okO_def (C : List (List Int)) (out : List Int) (i : Nat) : okO C out i = (!(C.getD i []).any (fun h => !out.contains h) && !out.contains (i : Int)) := by
  unfold okO
  rw [Bool.and_comm]
  congr 1
  rw [List.all_eq_not_any_not]

set_option maxRecDepth 100000 in
set_option maxHeartbeats 8000000 in
theorem Order_any (x : Shp) (A : Option Addr) (n cap : Nat) (B : Option Addr) (m cap2 : Nat) (w : World) (hc : Sl catC 2 w All A n cap x.cats) (hb : Sl cabC 4 w All B m cap2 x.cabs) :
    Calls Try.prog 15 #[.agg #[.int .i64 x.legs, .int .i64 x.souls, .slice A n cap, .slice B m cap2]] w fun e w' => ∃ v xs,
      e = .returned (.tuple #[v, .int .i64 (shipE x)]) ∧ Own intC 1 3 w' w.heap.size v (okL (shipE x) (ordF (higC x.cats) n)) xs ∧ Below w.heap.size w w' := by
  have hck := fun W h1 h2 => shipCheck_any x A n cap B m cap2 W h1 h2
  have HOK := Lib.hid (fun h => shp_ok (x := x) h)
  obtain ⟨v, hv⟩ : ∃ v, v = shipE x := ⟨_, rfl⟩
  rw [← hv] at hck HOK ⊢
  have HL := Lib.hid hc.len
  have HCK := Lib.hid hck
  clear hck
  have HC := Lib.hid hc
  have HB := Lib.hid hb
  clear hv hc hb
  obtain ⟨legs, souls, cats, cabs⟩ := x
  simp only at *
  go_enter Try.func15, Try.ntmps15
  go_upto_region 0 with (fail)
  go_cut [1, 2, 3] (fun p _ _ wx => ∃ g, p = .pointer (some ⟨g, 0, none⟩) ∧ ShpAt wx g legs souls A n cap B m cap2 ∧ Below w.heap.size w wx)
  case first => as_aux_lemma =>
    go_wp2_with fail
    go_meet
    exact ⟨_, rfl, blk1 _ _, bel1 _ _⟩
  obtain ⟨g, rfl, hG, hb1⟩ := hcut
  obtain ⟨g0, g1, g2, g3⟩ := hG.all
  go_wp2_with fail
  refine (HCK.out _ (HC.out.bel hb1) (HB.out.bel hb1)).mono ?_
  rintro e w2 ⟨rfl, hb2⟩
  have hb3 := hb1.trans (hb2.mono hb1.size)
  clear g0 g1 g2 g3
  have hG := hG.bel hb2
  clear hb1 hb2
  by_cases h0 : v = 0
  · have hok := HOK.out h0
    subst h0
    have hl5 : n ≤ 5 := by rw [← HL.out]; exact hok.cats5
    have hl0 : 0 < n := by rw [← HL.out]; exact hok.cats0
    have HSO := Lib.hid hok
    clear hok
    have HCN := Lib.hid (show (higC cats).length = n by rw [higC_len]; exact HL.out)
    go_upto_region 4 with (fail)
    go_cut [5] (fun p wx => ∃ h, p = .pointer (some ⟨h, 0, none⟩) ∧ w.heap.size ≤ h ∧ g < h ∧ h < wx.heap.size ∧ Blk wx h #[.slice none 0 0] 30 ∧ ShpAt wx g legs souls A n cap B m cap2 ∧ Below w.heap.size w wx)
    case first => as_aux_lemma =>
      go_wp2_with fail
      go_meet
      exact ⟨_, rfl, hb3.size, hG.lt, by simp, blk1 _ _, hG.bel (bel1 _ _), hb3.trans ((bel1 _ _).mono hb3.size)⟩
    obtain ⟨h, rfl, hsh, hgh, hhs, hH, hG2, hb2⟩ := hcut
    have HH := Lib.hid hH
    have HG := Lib.hid hG2
    have HB2 := Lib.hid hb2
    clear hH hG2 hb2 hb3 hG
    obtain ⟨W1, hW1⟩ : ∃ W1, W1 = wc := ⟨_, rfl⟩
    subst hW1
    obtain ⟨BS, hBS⟩ : ∃ BS, BS = W1.heap.size := ⟨_, rfl⟩
    have hhB : h < BS := by omega
    have HBS := Lib.hid hBS
    clear hBS
    clear hhs
    go_wp2_with fail
    go_loopg [23] n (fun gk i wr => ∃ (k : Nat) (v : Value) (xs : List Value), k ≤ n ∧ n - k ≤ gk ∧ Blk wr h #[v] 30 ∧ Own intC 1 3 wr BS v (ordF (higC cats) k) xs ∧ Below h W1 wr)
    case atStart => exact ⟨0, _, [], Nat.zero_le _, by omega, HH.out, Own.nil _ _ _ _ _, Below.refl _ _⟩
    case round =>
      obtain ⟨k, v, xs, hk, hgk, hbh, hown, hb⟩ := hrel
      obtain ⟨A5, n5, c5, rfl, hso⟩ := hown.sl intC_good
      obtain rfl : n5 = k := by rw [← hso.len, ordF_len]
      have HSO2 := Lib.hid (hso.all intC_good (by omega))
      have HG3 := Lib.hid (show ShpAt wr g legs souls A n cap B m cap2 from (hb.block g hgh).trans HG.out)
      have hhr := hbh.lt
      have hcl : wr.cell? ⟨h, 0, none⟩ = some (.slice A5 n5 c5) := hbh.cell rfl
      have hwr : BS ≤ wr.heap.size := by have := HBS.out; have := hb.size; omega
      have HBH := Lib.hid hbh
      have HOWN := Lib.hid hown
      have HB4 := Lib.hid hb
      clear hbh hown hso hb
      obtain ⟨g0, g1, g2, g3⟩ := HG3.out.all
      obtain ⟨W4, hW4⟩ : ∃ W4, W4 = wr := ⟨_, rfl⟩
      subst hW4
      by_cases hlt : n5 < n
      · obtain ⟨i0, hi0, hnx, hok0, _⟩ := ord_next HSO.out.ok.inC HSO.out.rnd (k := n5) (by rw [HCN.out]; exact hlt)
        have HEX := Lib.hid (show ¬ ∀ i, i < n → okO (higC cats) (ordF (higC cats) n5) i = false from fun hall => by rw [hall i0 (by rw [← HCN.out]; exact hi0)] at hok0; exact absurd hok0 (by simp))
        have HNXT := Lib.hid (show ∀ j, j < n → okO (higC cats) (ordF (higC cats) n5) j = true → (∀ i, i < j → okO (higC cats) (ordF (higC cats) n5) i = false) → ordF (higC cats) (n5 + 1) = ordF (higC cats) n5 ++ [(j : Int)] from fun j hj h1 h2 => by
          rw [ordF, (next_iff (C := higC cats) (out := ordF (higC cats) n5) (i := j)).2 ⟨by rw [HCN.out]; exact hj, h1, h2⟩]; rfl)
        obtain ⟨out, hout⟩ : ∃ out, out = ordF (higC cats) n5 := ⟨_, rfl⟩
        rw [← hout] at HSO2 HOWN HEX HNXT
        have HOL := Lib.hid (show out.length = n5 by rw [hout, ordF_len])
        clear hi0 hnx hok0 hout
        go_wp2_with fail
        go_loopg [23] n (fun gk i wr => ∃ j : Nat, j ≤ n ∧ n - j ≤ gk ∧ i = .int .i64 j ∧ Aside (∀ i, i < j → okO (higC cats) out i = false) ∧ Below W4.heap.size W4 wr)
        case atStart => exact ⟨0, Nat.zero_le _, by omega, rfl, fun i hi => absurd hi (by omega), Below.refl _ _⟩
        case round =>
          obtain ⟨j, hj, hgj, rfl, HA, hb⟩ := hrel
          by_cases hjn : j < n
          · obtain ⟨b, off, x, c0, c1, rfl, hx, ⟨A2, n2, cap2', hcs, hs2, hxl⟩, e0, e1⟩ := (HC.out.bel (HB2.out.trans ((HB4.out.mono (show w.heap.size ≤ h from hsh)).trans (hb.mono (by omega))))).at2 hjn
            simp only [List.cons.injEq, and_true] at hcs
            obtain ⟨rfl, rfl⟩ := hcs
            have HD := Lib.hid (show okO (higC cats) out j = (!x.high.any (fun h => !out.contains h) && !out.contains (j : Int)) by rw [okO_def, higC_getD cats j hx])
            have HS2 := Lib.hid (hs2.all intC_good (by omega))
            clear hx hs2 hxl
            go_upto_region 8 with (fail)
            go_cut [6, 7] (fun s p wx => s = .int .i64 j ∧ ∃ q, p = .pointer (some ⟨q, 0, none⟩) ∧ Blk wx q #[strV x.name, .slice A2 n2 cap2'] 32 ∧ Below wr.heap.size wr wx)
            case first => as_aux_lemma =>
              go_wp2_with fail
              go_meet
              exact ⟨rfl, _, rfl, blk1 _ _, bel1 _ _⟩
            obtain ⟨rfl, q, rfl, hq, hb3⟩ := hcut
            have hb4 := hb.trans (hb3.mono hb.size)
            have q1 : wc.cell? ⟨q, 1, none⟩ = some (.slice A2 n2 cap2') := hq.cell rfl
            have HBW := Lib.hid hb4
            have hcf := ContainsFunc_int A2 n2 cap2' x.high 47 #[.pointer (some ⟨h, 0, none⟩)] (fun y => !out.contains y) wc (HS2.out.bel hb3) (enters_of Try.func47 (by kernel_rfl) rfl)
              (fun y w1 _ hbx => by simpa using Order1_any h A5 n5 c5 out y w1 (((HBH.out.bel hb4).bel hbx).cell rfl) ((HSO2.out.bel hb4).bel hbx))
            obtain ⟨t1, ht1⟩ : ∃ t1, t1 = x.high.any (fun h => !out.contains h) := ⟨_, rfl⟩
            rw [← ht1] at hcf HD
            have hcn := fun W hW => Contains_int A5 n5 c5 out (j : Int) W hW
            obtain ⟨t2, ht2⟩ : ∃ t2, t2 = out.contains (j : Int) := ⟨_, rfl⟩
            rw [← ht2] at hcn HD
            have HCF := Lib.hid hcf
            clear hcf
            have HCT := Lib.hid hcn
            clear hcn
            clear ht1 ht2 hb hb3 hb4 hq
            go_wp2_with fail
            refine HCF.out.mono ?_
            rintro e w5 ⟨rfl, hb5⟩
            have hb6 := HBW.out.trans (hb5.mono HBW.out.size)
            have hH6 := HBH.out.bel hb6
            have h6 : w5.cell? ⟨h, 0, none⟩ = some (.slice A5 n5 c5) := hH6.cell rfl
            have HH6 := Lib.hid hH6
            have HB6 := Lib.hid hb6
            clear hb5 hb6 hH6
            cases t1
            · cases t2
              · have HNX2 := Lib.hid (HNXT.out j hjn (by rw [HD.out]; rfl) HA)
                go_wp2_with fail
                refine (HCT.out w5 (HSO2.out.bel HB6.out)).mono ?_
                rintro e w9 ⟨rfl, rfl⟩
                have hOq := (HOWN.out.bel HB6.out).bel (bel1 w9 (.cells #[.int .i64 (j : Int)] 3))
                have hbh4 := HH6.out.bel (bel1 w9 (.cells #[.int .i64 (j : Int)] 3))
                have hsq : BS ≤ (w9.alloc (.cells #[.int .i64 (j : Int)] 3)).heap.size := by have := HB6.out.size; simp; omega
                have HOQ := Lib.hid hOq
                have HBH4 := Lib.hid hbh4
                have HB5 := Lib.hid (show Below h W1 (w9.alloc (.cells #[.int .i64 (j : Int)] 3)) from (HB4.out.trans (HB6.out.mono (by omega))).alloc (by have := HB6.out.size; omega) _)
                clear hOq hbh4
                go_wp2_with (at_builtin; refine list_app (t := 30) (e := 3) (bytes := 8) rfl (.tmp 40) (.tmp 42) rfl int_elem intC_good rfl HOQ.out rfl (sl_int _ All (j : Int) 3 (.of (by omega) (by omega)) trivial) (fun _ _ hc => hc) (by rw [HOL.out]; omega) (by omega) hsq ?_; intro v' w' xs' hown' hg' _; obtain ⟨A6, n6, c6, rfl, _⟩ := hown'.sl intC_good; have hbh' := HBH4.out.grown hg' (fun e => by have := (HOQ.out.lt h e.symm).1; omega); have hcell' : w'.cell? ⟨h, 0, none⟩ = some (.slice A5 n5 c5) := hbh'.cell rfl; have hfr' := hbh'.free 0; have HBE := Lib.hid (HB5.out.grown hg' (Nat.le_trans (by omega) hsq) (fun j hj => by have := (HOQ.out.lt j hj).1; omega)); have HBH5 := Lib.hid hbh'; have HOWN5 := Lib.hid hown'; clear hg' hbh' hown')
                go_roundg (n - (n5 + 1))
                case measure => omega
                case rel => exact ⟨n5 + 1, _, xs', by omega, by omega, HBH5.out.set _, by rw [HNX2.out]; exact own_setCell_flat intC_flat HOWN5.out (fun e => by have := (HOWN5.out.lt h e).1; omega) _, HBE.out.setCell (Nat.le_refl _) _⟩
              · have HN := Lib.hid (show okO (higC cats) out j = false by rw [HD.out]; rfl)
                go_wp2_with fail
                refine (HCT.out w5 (HSO2.out.bel HB6.out)).mono ?_
                rintro e w9 ⟨rfl, rfl⟩
                go_wp2_with fail
                go_roundg (n - (j + 1))
                case measure => omega
                case rel => exact ⟨j + 1, by omega, by omega, by go_num, (show Aside _ from fun i hi => by by_cases he : i = j; (· subst he; exact HN.out); exact HA i (by omega)), HB6.out⟩
            · have HN := Lib.hid (show okO (higC cats) out j = false by rw [HD.out]; rfl)
              go_wp2_with fail
              go_roundg (n - (j + 1))
              case measure => omega
              case rel => exact ⟨j + 1, by omega, by omega, by go_num, (show Aside _ from fun i hi => by by_cases he : i = j; (· subst he; exact HN.out); exact HA i (by omega)), HB6.out⟩
          · obtain rfl : j = n := by omega
            exact absurd HA HEX.out
      · obtain rfl : n5 = n := by omega
        go_wp2_with fail
        go_ret2
        exact ⟨_, xs, rfl, by rw [okL_zero]; exact HOWN.out.mono intC_good (by omega), HB2.out.trans (HB4.out.mono hsh)⟩
  · have h0' : (v != 0) = true := by simpa using h0
    have HN := Lib.hid h0
    clear h0
    go_wp2_with fail
    go_ret2
    exact ⟨_, [], rfl, by rw [okL_ne HN.out]; exact Own.nil _ _ _ _ _, hb3⟩
end Go.Proofs.Ytpodgidamoiakaa
