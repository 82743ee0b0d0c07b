/-
  Words, laws and contracts: ShipI, ShipJ, ShipK, ShipN.
-/
import Derived.Test.YtoilcdgpeilgaaaGreatBun4
import Derived.BigRegion
import Derived.Deep.CutBlock
set_option linter.unusedSimpArgs false
set_option linter.unusedVariables false
namespace Go.Proofs.YtoilcdgpeilgaaaGreat
open Go.RowKit Go.Shelf
set_option maxRecDepth 100000 in
theorem Order1_any (h : Nat) (A : Option Addr) (n cap : Nat) (out : List Int) (x : Int) (w : World) (hh : w.cell? ⟨h, 0, none⟩ = some (.slice A n cap)) (hs : Sl intC 1 w All A n cap out) :
    Calls Tryz.prog 149 #[.int .i64 x, .pointer (some ⟨h, 0, none⟩)] w fun e w' => e = .returned (.bool (!out.contains x)) ∧ Below w.heap.size w w' := by
  have hc := Contains_int A n cap out x w hs
  have HC := Lib.hid hc
  clear hc
  clear hs
  go_enter Tryz.func149, Tryz.ntmps149
  go_wp2_with fail
  refine HC.out.mono ?_
  rintro e w1 ⟨rfl, rfl⟩
  go_wp2_with fail
  go_ret
  exact ⟨retB (by simp), Below.refl _ _⟩
theorem okO_def (C : List (List Int)) (out : List Int) (i : Nat) : okO C out i = (!(C.getD i []).any (fun h => !out.contains h) && !out.contains (i : Int)) := by
  unfold okO
  rw [Bool.and_comm]
  congr 1
  rw [List.all_eq_not_any_not]
set_option maxRecDepth 100000 in
set_option maxHeartbeats 8000000 in
theorem Order_any (x : Shp) (A : Option Addr) (n cap : Nat) (B : Option Addr) (m cap2 : Nat) (w : World) (hc : Sl catC 2 w All A n cap x.cats) (hb : Sl cabC 4 w All B m cap2 x.cabs) :
    Calls Tryz.prog 68 #[.agg #[.int .i64 x.legs, .int .i64 x.souls, .slice A n cap, .slice B m cap2]] w fun e w' => ∃ v xs,
      e = .returned (.tuple #[v, .int .i64 (shipE x)]) ∧ Own intC 1 3 w' w.heap.size v (okL (shipE x) (ordF (higC x.cats) n)) xs ∧ Below w.heap.size w w' := by
  have hck := fun W h1 h2 => shipCheck_any x A n cap B m cap2 W h1 h2
  have HOK := Lib.hid (fun h => shp_ok (x := x) h)
  obtain ⟨v, hv⟩ : ∃ v, v = shipE x := ⟨_, rfl⟩
  rw [← hv] at hck HOK ⊢
  have HL := Lib.hid hc.len
  have HCK := Lib.hid hck
  clear hck
  have HC := Lib.hid hc
  have HB := Lib.hid hb
  clear hv hc hb
  obtain ⟨legs, souls, cats, cabs⟩ := x
  simp only at *
  go_enter Tryz.func68, Tryz.ntmps68
  go_upto_region 0 with (fail)
  go_cut [1, 2, 3] (fun p _ _ wx => ∃ g, p = .pointer (some ⟨g, 0, none⟩) ∧ ShpAt wx g legs souls A n cap B m cap2 ∧ Below w.heap.size w wx)
  case first => as_aux_lemma =>
    go_wp2_with fail
    go_meet
    exact ⟨_, rfl, blk1 _ _, bel1 _ _⟩
  obtain ⟨g, rfl, hG, hb1⟩ := hcut
  obtain ⟨g0, g1, g2, g3⟩ := hG.all
  go_wp2_with fail
  refine (HCK.out _ (HC.out.bel hb1) (HB.out.bel hb1)).mono ?_
  rintro e w2 ⟨rfl, hb2⟩
  have hb3 := hb1.trans (hb2.mono hb1.size)
  clear g0 g1 g2 g3
  have hG := hG.bel hb2
  clear hb1 hb2
  by_cases h0 : v = 0
  · have hok := HOK.out h0
    subst h0
    have hl5 : n ≤ 5 := by rw [← HL.out]; exact hok.cats5
    have hl0 : 0 < n := by rw [← HL.out]; exact hok.cats0
    have HSO := Lib.hid hok
    clear hok
    have HCN := Lib.hid (show (higC cats).length = n by rw [higC_len]; exact HL.out)
    go_upto_region 4 with (fail)
    go_cut [5] (fun p wx => ∃ h, p = .pointer (some ⟨h, 0, none⟩) ∧ w.heap.size ≤ h ∧ g < h ∧ h < wx.heap.size ∧ Blk wx h #[.slice none 0 0] 47 ∧ ShpAt wx g legs souls A n cap B m cap2 ∧ Below w.heap.size w wx)
    case first => as_aux_lemma =>
      go_wp2_with fail
      go_meet
      exact ⟨_, rfl, hb3.size, hG.lt, by simp, blk1 _ _, hG.bel (bel1 _ _), hb3.trans ((bel1 _ _).mono hb3.size)⟩
    obtain ⟨h, rfl, hsh, hgh, hhs, hH, hG2, hb2⟩ := hcut
    have HH := Lib.hid hH
    have HG := Lib.hid hG2
    have HB2 := Lib.hid hb2
    clear hH hG2 hb2 hb3 hG
    obtain ⟨W1, hW1⟩ : ∃ W1, W1 = wc := ⟨_, rfl⟩
    subst hW1
    obtain ⟨BS, hBS⟩ : ∃ BS, BS = W1.heap.size := ⟨_, rfl⟩
    have hhB : h < BS := by omega
    have HBS := Lib.hid hBS
    clear hBS
    clear hhs
    go_wp2_with fail
    go_loopg [23] n (fun gk i wr => ∃ (k : Nat) (v : Value) (xs : List Value), k ≤ n ∧ n - k ≤ gk ∧ Blk wr h #[v] 47 ∧ Own intC 1 3 wr BS v (ordF (higC cats) k) xs ∧ Below h W1 wr)
    case atStart => exact ⟨0, _, [], Nat.zero_le _, by omega, HH.out, Own.nil _ _ _ _ _, Below.refl _ _⟩
    case round =>
      obtain ⟨k, v, xs, hk, hgk, hbh, hown, hb⟩ := hrel
      obtain ⟨A5, n5, c5, rfl, hso⟩ := hown.sl intC_good
      obtain rfl : n5 = k := by rw [← hso.len, ordF_len]
      have HSO2 := Lib.hid (hso.all intC_good (by omega))
      have HG3 := Lib.hid (show ShpAt wr g legs souls A n cap B m cap2 from (hb.block g hgh).trans HG.out)
      have hhr := hbh.lt
      have hcl : wr.cell? ⟨h, 0, none⟩ = some (.slice A5 n5 c5) := hbh.cell rfl
      have hwr : BS ≤ wr.heap.size := by have := HBS.out; have := hb.size; omega
      have HBH := Lib.hid hbh
      have HOWN := Lib.hid hown
      have HB4 := Lib.hid hb
      clear hbh hown hso hb
      obtain ⟨g0, g1, g2, g3⟩ := HG3.out.all
      obtain ⟨W4, hW4⟩ : ∃ W4, W4 = wr := ⟨_, rfl⟩
      subst hW4
      by_cases hlt : n5 < n
      · obtain ⟨i0, hi0, hnx, hok0, _⟩ := ord_next HSO.out.ok.inC HSO.out.rnd (k := n5) (by rw [HCN.out]; exact hlt)
        have HEX := Lib.hid (show ¬ ∀ i, i < n → okO (higC cats) (ordF (higC cats) n5) i = false from fun hall => by rw [hall i0 (by rw [← HCN.out]; exact hi0)] at hok0; exact absurd hok0 (by simp))
        have HNXT := Lib.hid (show ∀ j, j < n → okO (higC cats) (ordF (higC cats) n5) j = true → (∀ i, i < j → okO (higC cats) (ordF (higC cats) n5) i = false) → ordF (higC cats) (n5 + 1) = ordF (higC cats) n5 ++ [(j : Int)] from fun j hj h1 h2 => by
          rw [ordF, (next_iff (C := higC cats) (out := ordF (higC cats) n5) (i := j)).2 ⟨by rw [HCN.out]; exact hj, h1, h2⟩]; rfl)
        obtain ⟨out, hout⟩ : ∃ out, out = ordF (higC cats) n5 := ⟨_, rfl⟩
        rw [← hout] at HSO2 HOWN HEX HNXT
        have HOL := Lib.hid (show out.length = n5 by rw [hout, ordF_len])
        clear hi0 hnx hok0 hout
        go_wp2_with fail
        go_loopg [23] n (fun gk i wr => ∃ j : Nat, j ≤ n ∧ n - j ≤ gk ∧ i = .int .i64 j ∧ Aside (∀ i, i < j → okO (higC cats) out i = false) ∧ Below W4.heap.size W4 wr)
        case atStart => exact ⟨0, Nat.zero_le _, by omega, rfl, fun i hi => absurd hi (by omega), Below.refl _ _⟩
        case round =>
          obtain ⟨j, hj, hgj, rfl, HA, hb⟩ := hrel
          by_cases hjn : j < n
          · obtain ⟨b, off, x, c0, c1, rfl, hx, ⟨A2, n2, cap2', hcs, hs2, hxl⟩, e0, e1⟩ := (HC.out.bel (HB2.out.trans ((HB4.out.mono (show w.heap.size ≤ h from hsh)).trans (hb.mono (by omega))))).at2 hjn
            simp only [List.cons.injEq, and_true] at hcs
            obtain ⟨rfl, rfl⟩ := hcs
            have HD := Lib.hid (show okO (higC cats) out j = (!x.high.any (fun h => !out.contains h) && !out.contains (j : Int)) by rw [okO_def, higC_getD cats j hx])
            have HS2 := Lib.hid (hs2.all intC_good (by omega))
            clear hx hs2 hxl
            go_upto_region 8 with (fail)
            go_cut [6, 7] (fun s p wx => s = .int .i64 j ∧ ∃ q, p = .pointer (some ⟨q, 0, none⟩) ∧ Blk wx q #[strV x.name, .slice A2 n2 cap2'] 184 ∧ Below wr.heap.size wr wx)
            case first => as_aux_lemma =>
              go_wp2_with fail
              go_meet
              exact ⟨rfl, _, rfl, blk1 _ _, bel1 _ _⟩
            obtain ⟨rfl, q, rfl, hq, hb3⟩ := hcut
            have hb4 := hb.trans (hb3.mono hb.size)
            have q1 : wc.cell? ⟨q, 1, none⟩ = some (.slice A2 n2 cap2') := hq.cell rfl
            have HBW := Lib.hid hb4
            have hcf := ContainsFunc_int A2 n2 cap2' x.high 149 #[.pointer (some ⟨h, 0, none⟩)] (fun y => !out.contains y) wc (HS2.out.bel hb3) (enters_of Tryz.func149 (by kernel_rfl) rfl)
              (fun y w1 _ hbx => by simpa using Order1_any h A5 n5 c5 out y w1 (((HBH.out.bel hb4).bel hbx).cell rfl) ((HSO2.out.bel hb4).bel hbx))
            obtain ⟨t1, ht1⟩ : ∃ t1, t1 = x.high.any (fun h => !out.contains h) := ⟨_, rfl⟩
            rw [← ht1] at hcf HD
            have hcn := fun W hW => Contains_int A5 n5 c5 out (j : Int) W hW
            obtain ⟨t2, ht2⟩ : ∃ t2, t2 = out.contains (j : Int) := ⟨_, rfl⟩
            rw [← ht2] at hcn HD
            have HCF := Lib.hid hcf
            clear hcf
            have HCT := Lib.hid hcn
            clear hcn
            clear ht1 ht2 hb hb3 hb4 hq
            go_wp2_with fail
            refine HCF.out.mono ?_
            rintro e w5 ⟨rfl, hb5⟩
            have hb6 := HBW.out.trans (hb5.mono HBW.out.size)
            have hH6 := HBH.out.bel hb6
            have h6 : w5.cell? ⟨h, 0, none⟩ = some (.slice A5 n5 c5) := hH6.cell rfl
            have HH6 := Lib.hid hH6
            have HB6 := Lib.hid hb6
            clear hb5 hb6 hH6
            cases t1
            · cases t2
              · have HNX2 := Lib.hid (HNXT.out j hjn (by rw [HD.out]; rfl) HA)
                go_wp2_with fail
                refine (HCT.out w5 (HSO2.out.bel HB6.out)).mono ?_
                rintro e w9 ⟨rfl, rfl⟩
                have hOq := (HOWN.out.bel HB6.out).bel (bel1 w9 (.cells #[.int .i64 (j : Int)] 3))
                have hbh4 := HH6.out.bel (bel1 w9 (.cells #[.int .i64 (j : Int)] 3))
                have hsq : BS ≤ (w9.alloc (.cells #[.int .i64 (j : Int)] 3)).heap.size := by have := HB6.out.size; simp; omega
                have HOQ := Lib.hid hOq
                have HBH4 := Lib.hid hbh4
                have HB5 := Lib.hid (show Below h W1 (w9.alloc (.cells #[.int .i64 (j : Int)] 3)) from (HB4.out.trans (HB6.out.mono (by omega))).alloc (by have := HB6.out.size; omega) _)
                clear hOq hbh4
                go_wp2_with (at_builtin; refine list_app (t := 47) (e := 3) (bytes := 8) rfl (.tmp 40) (.tmp 42) rfl int_elem intC_good rfl HOQ.out rfl (sl_int _ All (j : Int) 3 (.of (by omega) (by omega)) trivial) (fun _ _ hc => hc) (by rw [HOL.out]; omega) (by omega) hsq ?_; intro v' w' xs' hown' hg' _; obtain ⟨A6, n6, c6, rfl, _⟩ := hown'.sl intC_good; have hbh' := HBH4.out.grown hg' (fun e => by have := (HOQ.out.lt h e.symm).1; omega); have hcell' : w'.cell? ⟨h, 0, none⟩ = some (.slice A5 n5 c5) := hbh'.cell rfl; have hfr' := hbh'.free 0; have HBE := Lib.hid (HB5.out.grown hg' (Nat.le_trans (by omega) hsq) (fun j hj => by have := (HOQ.out.lt j hj).1; omega)); have HBH5 := Lib.hid hbh'; have HOWN5 := Lib.hid hown'; clear hg' hbh' hown')
                go_roundg (n - (n5 + 1))
                case measure => omega
                case rel => exact ⟨n5 + 1, _, xs', by omega, by omega, HBH5.out.set _, by rw [HNX2.out]; exact own_setCell_flat intC_flat HOWN5.out (fun e => by have := (HOWN5.out.lt h e).1; omega) _, HBE.out.setCell (Nat.le_refl _) _⟩
              · have HN := Lib.hid (show okO (higC cats) out j = false by rw [HD.out]; rfl)
                go_wp2_with fail
                refine (HCT.out w5 (HSO2.out.bel HB6.out)).mono ?_
                rintro e w9 ⟨rfl, rfl⟩
                go_wp2_with fail
                go_roundg (n - (j + 1))
                case measure => omega
                case rel => exact ⟨j + 1, by omega, by omega, by go_num, (show Aside _ from fun i hi => by by_cases he : i = j; (· subst he; exact HN.out); exact HA i (by omega)), HB6.out⟩
            · have HN := Lib.hid (show okO (higC cats) out j = false by rw [HD.out]; rfl)
              go_wp2_with fail
              go_roundg (n - (j + 1))
              case measure => omega
              case rel => exact ⟨j + 1, by omega, by omega, by go_num, (show Aside _ from fun i hi => by by_cases he : i = j; (· subst he; exact HN.out); exact HA i (by omega)), HB6.out⟩
          · obtain rfl : j = n := by omega
            exact absurd HA HEX.out
      · obtain rfl : n5 = n := by omega
        go_wp2_with fail
        go_ret2
        exact ⟨_, xs, rfl, by rw [okL_zero]; exact HOWN.out.mono intC_good (by omega), HB2.out.trans (HB4.out.mono hsh)⟩
  · have h0' : (v != 0) = true := by simpa using h0
    have HN := Lib.hid h0
    clear h0
    go_wp2_with fail
    go_ret2
    exact ⟨_, [], rfl, by rw [okL_ne HN.out]; exact Own.nil _ _ _ _ _, hb3⟩
end Go.Proofs.YtoilcdgpeilgaaaGreat
namespace Go.Proofs.YtoilcdgpeilgaaaGreat
open Go.RowKit Go.Shelf
def ptrC (n : Nat) : Cod Nat := fun _ _ b cs => cs = [.slice (some ⟨b, 0, none⟩) n n]
theorem ptrC_flat (n : Nat) : Flat (ptrC n) := fun _ _ _ _ _ _ h => h
theorem ptrC_good (n : Nat) : Good (ptrC n) := .of_flat (ptrC_flat n) fun h u hu => by cases h; simp at hu; subst hu; rfl
instance ptrK (n : Nat) : CodK (ptrC n) 1 := ⟨ptrC_good n, by omega⟩
def rowV (n : Nat) (f : Nat → Bool) : Array Value := ((List.range n).map (fun b => Value.bool (f b))).toArray
theorem rowV_at {n : Nat} {f : Nat → Bool} {j : Nat} (h : j < n) : (rowV n f)[j]? = some (.bool (f j)) := by
  unfold rowV
  rw [List.getElem?_toArray, List.getElem?_map, List.getElem?_range h]; rfl
theorem rowV_set {n : Nat} {f : Nat → Bool} {j : Nat} (v : Bool) : (rowV n f).set! j (.bool v) = rowV n (fun b => if b = j then v else f b) := by
  unfold rowV
  apply Array.ext'
  simp only [Array.set!_eq_setIfInBounds, List.setIfInBounds_toArray]
  apply List.ext_getElem?
  intro i
  rw [List.getElem?_set]
  simp only [List.length_map, List.length_range, List.getElem?_map]
  by_cases h : j = i
  · subst h
    by_cases hj : j < n
    · rw [if_pos rfl, if_pos hj, List.getElem?_range hj]; simp
    · rw [if_pos rfl, if_neg hj, List.getElem?_eq_none (by simpa using hj)]; rfl
  · rw [if_neg h]
    cases hr : (List.range n)[i]? with
    | none => rfl
    | some b =>
      have hb : b = i := by
        have h1 := (List.getElem?_eq_some_iff.1 hr).2
        simpa using h1.symm
      subst hb
      simp only [Option.map_some]
      rw [if_neg (fun e => h e.symm)]
theorem rowV_congr {n : Nat} {f g : Nat → Bool} (h : ∀ j, j < n → f j = g j) : rowV n f = rowV n g := by
  unfold rowV
  congr 1
  exact List.map_congr_left fun j hj => by rw [h j (List.mem_range.1 hj)]
theorem nodup_inj {l : List Nat} (h : l.Nodup) {i j x : Nat} (hi : l[i]? = some x) (hj : l[j]? = some x) : i = j := by
  have hp := List.pairwise_iff_getElem.1 h
  obtain ⟨h1, e1⟩ := List.getElem?_eq_some_iff.1 hi
  obtain ⟨h2, e2⟩ := List.getElem?_eq_some_iff.1 hj
  rcases Nat.lt_trichotomy i j with hlt | he | hlt
  · exact absurd (e1.trans e2.symm) (hp i j h1 h2 hlt)
  · exact he
  · exact absurd (e2.trans e1.symm) (hp j i h2 h1 hlt)
structure TabB (w : World) (base n : Nat) (v : Value) (bls : List Nat) (T : Nat → Nat → Bool) : Prop where
  own : ∃ xs, Own (ptrC n) 1 235 w base v bls xs
  nod : bls.Nodup
  row : ∀ (a b : Nat), bls[a]? = some b → base ≤ b ∧ some b ≠ v.ownBlock ∧ Blk w b (rowV n (T a)) 4
theorem TabB.bel {w w' : World} {base n : Nat} {v : Value} {bls : List Nat} {T : Nat → Nat → Bool} (h : TabB w base n v bls T) (hb : Below w.heap.size w w') : TabB w' base n v bls T := by
  obtain ⟨⟨xs, ho⟩, h2, h3⟩ := h
  exact ⟨⟨xs, ho.bel hb⟩, h2, fun a b hab => ⟨(h3 a b hab).1, (h3 a b hab).2.1, (h3 a b hab).2.2.bel hb⟩⟩
theorem TabB.congr {w : World} {base n : Nat} {v : Value} {bls : List Nat} {T T' : Nat → Nat → Bool} (h : TabB w base n v bls T) (ht : ∀ a j, a < bls.length → j < n → T a j = T' a j) : TabB w base n v bls T' := by
  obtain ⟨h1, h2, h3⟩ := h
  refine ⟨h1, h2, fun a b hab => ⟨(h3 a b hab).1, (h3 a b hab).2.1, ?_⟩⟩
  rw [← rowV_congr (fun j hj => ht a j (List.getElem?_eq_some_iff.1 hab).1 hj)]
  exact (h3 a b hab).2.2
theorem TabB.form {w : World} {base n : Nat} {v : Value} {bls : List Nat} {T : Nat → Nat → Bool} (h : TabB w base n v bls T) (hn : 0 < bls.length) : ∃ o cap, v = .slice (some ⟨o, 0, none⟩) bls.length cap ∧ base ≤ o ∧ o < w.heap.size ∧ bls.length ≤ cap := by
  obtain ⟨⟨xs, ho⟩, _, _⟩ := h
  rcases ho.row.2 with ⟨hv, h0⟩ | ⟨g, cap, cur, hv, hb, hg, hnc, _⟩
  · omega
  · exact ⟨g, cap, hv, hb, (Array.getElem?_eq_some_iff.1 hg).1, hnc⟩
theorem TabB.outer {w : World} {base n m cap o : Nat} {bls : List Nat} {T : Nat → Nat → Bool} (h : TabB w base n (.slice (some ⟨o, 0, none⟩) m cap) bls T) {a b : Nat} (hab : bls[a]? = some b) : w.cell? ⟨o, a, none⟩ = some (.slice (some ⟨b, 0, none⟩) n n) := by
  obtain ⟨⟨xs, ho⟩, _, _⟩ := h
  obtain ⟨A, n2, c2, he, hs⟩ := ho.sl (ptrC_good n)
  injection he with e1 e2 e3
  subst e1 e2 e3
  obtain ⟨b', off, cs, hA, _, hc, hl, hcell⟩ := hs.rd a b hab
  injection hA with hA
  injection hA with h1 h2 _
  subst h1 h2
  cases hc
  simpa using hcell 0 _ rfl
theorem TabB.inner {w : World} {base n : Nat} {v : Value} {bls : List Nat} {T : Nat → Nat → Bool} (h : TabB w base n v bls T) {a b j : Nat} (hab : bls[a]? = some b) (hj : j < n) : w.cell? ⟨b, j, none⟩ = some (.bool (T a j)) :=
  (h.row a b hab).2.2.cell (rowV_at hj)
theorem TabB.free {w : World} {base n : Nat} {v : Value} {bls : List Nat} {T : Nat → Nat → Bool} (h : TabB w base n v bls T) {a b : Nat} (hab : bls[a]? = some b) (j : Nat) : w.frozen? ⟨b, j, none⟩ = false := (h.row a b hab).2.2.free j
theorem TabB.set {w : World} {base n : Nat} {v : Value} {bls : List Nat} {T : Nat → Nat → Bool} (h : TabB w base n v bls T) {i bi : Nat} (hi : bls[i]? = some bi) (j : Nat) (u : Bool) :
    TabB (w.setCell ⟨bi, j, none⟩ (.bool u)) base n v bls (fun a b => if a = i ∧ b = j then u else T a b) := by
  obtain ⟨⟨xs, ho⟩, h2, h3⟩ := h
  refine ⟨⟨xs, own_setCell_flat (ptrC_flat n) ho (fun e => (h3 i bi hi).2.1 e.symm) _⟩, h2, fun a b hab => ⟨(h3 a b hab).1, (h3 a b hab).2.1, ?_⟩⟩
  by_cases he : a = i
  · subst he
    obtain rfl : b = bi := by rw [hab] at hi; injection hi
    have := Blk.set (j := j) (h3 a b hab).2.2 (.bool u)
    rw [rowV_set] at this
    rw [rowV_congr (g := fun b => if b = j then u else T a b) (fun k _ => by simp)]
    exact this
  · have hne : bi ≠ b := fun e => he (by
      subst e
      exact nodup_inj h2 hab hi)
    rw [rowV_congr (g := T a) (fun k _ => by simp [he])]
    exact (h3 a b hab).2.2.other hne _
theorem TabB.snoc {w w' : World} {base n : Nat} {v v' : Value} {bls : List Nat} {T : Nat → Nat → Bool} {b : Nat} {xs : List Value} (h : TabB w base n v bls T) (ho : Own (ptrC n) 1 235 w' base v' (bls ++ [b]) xs) (hg : w.grownBy w' v.ownBlock)
    (hat : v'.ownBlock = v.ownBlock ∨ v'.ownBlock = some w.heap.size) (hb : base ≤ b) (hbl : b < w.heap.size) (hbv : some b ≠ v.ownBlock) (hnew : b ∉ bls) (hrow : Blk w b (rowV n (T bls.length)) 4) : TabB w' base n v' (bls ++ [b]) T := by
  obtain ⟨_, h2, h3⟩ := h
  refine ⟨⟨xs, ho⟩, ?_, fun a c hac => ?_⟩
  · rw [List.nodup_append]
    refine ⟨h2, by simp, fun x hx y hy => ?_⟩
    simp only [List.mem_singleton] at hy
    subst hy
    rintro rfl; exact hnew hx
  · have key : base ≤ c ∧ c < w.heap.size ∧ some c ≠ v.ownBlock ∧ Blk w c (rowV n (T a)) 4 := by
      by_cases hlt : a < bls.length
      · rw [List.getElem?_append_left hlt] at hac
        exact ⟨(h3 a c hac).1, (h3 a c hac).2.2.lt, (h3 a c hac).2⟩
      · rw [List.getElem?_append_right (by omega)] at hac
        have ha : a - bls.length = 0 := by have := (List.getElem?_eq_some_iff.1 hac).1; simp at this; omega
        rw [ha] at hac
        simp at hac
        subst hac
        obtain rfl : a = bls.length := by omega
        exact ⟨hb, hbl, hbv, hrow⟩
    refine ⟨key.1, ?_, key.2.2.2.grown hg key.2.2.1⟩
    rcases hat with e | e <;> rw [e]
    · exact key.2.2.1
    · intro he; injection he with he; have := key.2.1; omega
end Go.Proofs.YtoilcdgpeilgaaaGreat
namespace Go.Proofs.YtoilcdgpeilgaaaGreat
open Go.RowKit Go.Shelf
def tpF (C : List (List Int)) (b k a b' : Nat) : Bool := if b' < b then decide ((a : Int) ∈ C.getD b' []) else if b' = b then decide ((a : Int) ∈ (C.getD b []).take k) else false
theorem tpF_zero (C : List (List Int)) (a b : Nat) : tpF C 0 0 a b = false := by
  unfold tpF
  rw [if_neg (by omega)]
  split <;> simp
theorem tpF_next (C : List (List Int)) (b : Nat) (a b' : Nat) : tpF C b (C.getD b []).length a b' = tpF C (b + 1) 0 a b' := by
  unfold tpF
  by_cases h1 : b' < b
  · rw [if_pos h1, if_pos (by omega)]
  · rw [if_neg h1]
    by_cases h2 : b' = b
    · subst h2; rw [if_pos rfl, if_pos (by omega), List.take_length]
    · rw [if_neg h2, if_neg (by omega)]
      split <;> simp
theorem tpF_last (C : List (List Int)) (a b : Nat) : tpF C C.length 0 a b = tabF C 0 a b := by
  unfold tpF tabF
  by_cases h1 : b < C.length
  · rw [if_pos h1]
  · rw [if_neg h1, getD_far (C := C) (b := C.length) (by omega), getD_far (C := C) (b := b) (by omega)]
    split <;> simp
theorem tpF_step (C : List (List Int)) (b k h : Nat) (hx : (C.getD b [])[k]? = some (h : Int)) (a b' : Nat) : (if a = h ∧ b' = b then true else tpF C b k a b') = tpF C b (k + 1) a b' := by
  unfold tpF
  by_cases h1 : b' < b
  · rw [if_pos h1, if_pos h1, if_neg (by omega)]
  · rw [if_neg h1, if_neg h1]
    by_cases h2 : b' = b
    · subst h2
      rw [if_pos rfl, if_pos rfl, take_snoc hx]
      by_cases h3 : a = h
      · subst h3; rw [if_pos ⟨rfl, rfl⟩]; simp
      · rw [if_neg (fun e => h3 e.1)]
        have : ¬ (a : Int) = (h : Int) := by omega
        simp [this]
    · rw [if_neg h2, if_neg h2, if_neg (fun e => h2 e.2)]
def twF (C : List (List Int)) (m a b a' b' : Nat) : Bool := if a' < a ∨ (a' = a ∧ b' < b) then tabF C (m + 1) a' b' else tabF C m a' b'
theorem twF_zero (C : List (List Int)) (m a b : Nat) : twF C m 0 0 a b = tabF C m a b := by unfold twF; rw [if_neg (by omega)]
theorem twF_next (C : List (List Int)) (m a n a' b' : Nat) (h : b' < n) : twF C m a n a' b' = twF C m (a + 1) 0 a' b' := by
  unfold twF
  by_cases h1 : a' < a + 1
  · rw [if_pos (by omega), if_pos (by omega)]
  · rw [if_neg (by omega), if_neg (by omega)]
theorem twF_last (C : List (List Int)) (m n a' b' : Nat) (h : a' < n) : twF C m n 0 a' b' = tabF C (m + 1) a' b' := by unfold twF; rw [if_pos (by omega)]
theorem twF_col (C : List (List Int)) (m a b x : Nat) : twF C m a b x m = tabF C m x m := by unfold twF; split; (exact tab_col C m x); rfl
theorem twF_row (C : List (List Int)) (m a b y : Nat) : twF C m a b m y = tabF C m m y := by unfold twF; split; (exact tab_row C m y); rfl
theorem twF_self (C : List (List Int)) (m a b : Nat) : twF C m a b a b = tabF C m a b := by unfold twF; rw [if_neg (by omega)]
theorem twF_step (C : List (List Int)) (m a b a' b' : Nat) : (if a' = a ∧ b' = b then (tabF C m a b || (tabF C m a m && tabF C m m b)) else twF C m a b a' b') = twF C m a (b + 1) a' b' := by
  unfold twF
  by_cases h1 : a' = a ∧ b' = b
  · rw [if_pos h1, if_pos (by omega)]
    obtain ⟨rfl, rfl⟩ := h1
    rfl
  · rw [if_neg h1]
    by_cases h2 : a' < a ∨ (a' = a ∧ b' < b)
    · rw [if_pos h2, if_pos (by omega)]
    · rw [if_neg h2, if_neg (by omega)]
theorem mkBools0 (W : World) : (Instr.makeSlice 235 (.int .i64 0) (.int .i64 0)).run Tryz.prog W = .ok (.slice (some ⟨W.heap.size, 0, none⟩) 0 0) (W.alloc (.cells (rowV 0 fun _ => false) 4)) := by kernel_rfl
theorem mkBools1 (W : World) : (Instr.makeSlice 235 (.int .i64 1) (.int .i64 1)).run Tryz.prog W = .ok (.slice (some ⟨W.heap.size, 0, none⟩) 1 1) (W.alloc (.cells (rowV 1 fun _ => false) 4)) := by kernel_rfl
theorem mkBools2 (W : World) : (Instr.makeSlice 235 (.int .i64 2) (.int .i64 2)).run Tryz.prog W = .ok (.slice (some ⟨W.heap.size, 0, none⟩) 2 2) (W.alloc (.cells (rowV 2 fun _ => false) 4)) := by kernel_rfl
theorem mkBools3 (W : World) : (Instr.makeSlice 235 (.int .i64 3) (.int .i64 3)).run Tryz.prog W = .ok (.slice (some ⟨W.heap.size, 0, none⟩) 3 3) (W.alloc (.cells (rowV 3 fun _ => false) 4)) := by kernel_rfl
theorem mkBools4 (W : World) : (Instr.makeSlice 235 (.int .i64 4) (.int .i64 4)).run Tryz.prog W = .ok (.slice (some ⟨W.heap.size, 0, none⟩) 4 4) (W.alloc (.cells (rowV 4 fun _ => false) 4)) := by kernel_rfl
theorem mkBools5 (W : World) : (Instr.makeSlice 235 (.int .i64 5) (.int .i64 5)).run Tryz.prog W = .ok (.slice (some ⟨W.heap.size, 0, none⟩) 5 5) (W.alloc (.cells (rowV 5 fun _ => false) 4)) := by kernel_rfl
theorem mkBools (n : Nat) (hn : n ≤ 5) (W : World) : (Instr.makeSlice 235 (.int .i64 n) (.int .i64 n)).run Tryz.prog W = .ok (.slice (some ⟨W.heap.size, 0, none⟩) n n) (W.alloc (.cells (rowV n fun _ => false) 4)) := by
  have h : n = 0 ∨ n = 1 ∨ n = 2 ∨ n = 3 ∨ n = 4 ∨ n = 5 := by omega
  rcases h with rfl | rfl | rfl | rfl | rfl | rfl
  · exact mkBools0 W
  · exact mkBools1 W
  · exact mkBools2 W
  · exact mkBools3 W
  · exact mkBools4 W
  · exact mkBools5 W
theorem ptr_elem : ElemOf Tryz.prog 233 235 1 24 := .mk' Tryz.underlying233 (z := .slice none 0 0) (by kernel_rfl) rfl (by omega)
theorem sl_ptr (n : Nat) (w : World) (S : Nat → Prop) (b : Nat) (t : TypeId) (hS : S w.heap.size) : Sl (ptrC n) 1 (w.alloc (.cells #[.slice (some ⟨b, 0, none⟩) n n] t)) S (some ⟨w.heap.size, 0, none⟩) 1 1 [b] :=
  Sl.lit1 w S t b [.slice (some ⟨b, 0, none⟩) n n] rfl hS
set_option maxRecDepth 100000 in
set_option maxHeartbeats 20000000 in
theorem ServeTable_any (legs souls : Int) (A : Option Addr) (n cap : Nat) (cats : List Cat) (vc : Value) (w : World) (h : Sl catC 2 w All A n cap cats) (ho : OkCats cats) (hn0 : 0 < n) :
    Calls Tryz.prog 187 #[.agg #[.int .i64 legs, .int .i64 souls, .slice A n cap, vc]] w fun e w' => ∃ BS o cap2 bls, e = .returned (.slice (some ⟨o, 0, none⟩) n cap2) ∧ bls.length = n ∧
      TabB w' BS n (.slice (some ⟨o, 0, none⟩) n cap2) bls (tabF (higC cats) n) ∧ Below w.heap.size w w' := by
  have hl := h.len
  have h5 := ho.five
  have hn5 : n ≤ 5 := by omega
  have hmk := fun W => mkBools n hn5 W
  have HSL := Lib.hid h
  have HCN := Lib.hid (show (higC cats).length = n by rw [higC_len]; exact hl)
  have HO := Lib.hid ho
  clear ho
  clear h h5 hl
  go_enter Tryz.func187, Tryz.ntmps187
  go_upto_region 0 with (fail)
  go_cut [1, 2] (fun p _ wx => ∃ g, p = .pointer (some ⟨g, 0, none⟩) ∧ Blk wx g #[.int .i64 legs, .int .i64 souls, .slice A n cap, vc] 25 ∧ Below w.heap.size w wx)
  case first => as_aux_lemma =>
    go_wp2_with fail
    go_meet
    exact ⟨_, rfl, blk1 _ _, bel1 _ _⟩
  obtain ⟨g, rfl, hG, hb⟩ := hcut
  have g2 : wc.cell? ⟨g, 2, none⟩ = some (.slice A n cap) := hG.cell rfl
  have HG := Lib.hid hG
  have HB := Lib.hid hb
  obtain ⟨W1, hW1⟩ : ∃ W1, W1 = wc := ⟨_, rfl⟩
  subst hW1
  clear hG hb
  obtain ⟨BS, hBS⟩ : ∃ BS, BS = W1.heap.size := ⟨_, rfl⟩
  have HBS := Lib.hid hBS
  have HFR := Lib.hid (show Below BS W1 W1 from Below.refl _ _)
  clear hBS
  go_upto_block 0 with (fail)
  go_cut [4, 5] (fun v _ wx => ∃ o cap2 bls, v = .slice (some ⟨o, 0, none⟩) n cap2 ∧ bls.length = n ∧ TabB wx BS n v bls (fun _ _ => false) ∧ Below BS W1 wx)
  case first => as_aux_lemma =>
    go_wp2_with fail
    go_loopg [4, 5] n (fun gk v i wr => ∃ (k : Nat) (bls : List Nat), k ≤ n ∧ n - k ≤ gk ∧ i = .int .i64 k ∧ bls.length = k ∧ TabB wr BS n v bls (fun _ _ => false) ∧ Below BS W1 wr)
    case atStart => exact ⟨0, [], Nat.zero_le _, by omega, rfl, rfl, ⟨⟨[], Own.nil _ _ _ _ _⟩, by simp, by simp⟩, HFR.out⟩
    case round =>
      obtain ⟨k, bls, hk, hgk, rfl, hbl, hT, hb⟩ := hrel
      by_cases hlt : k < n
      · obtain ⟨xs, hown⟩ := hT.own
        obtain ⟨A5, n5, c5, rfl, _⟩ := hown.sl (ptrC_good n)
        have hwr : BS ≤ wr.heap.size := by have := HBS.out; have := hb.size; omega
        have hsp := sl_ptr n (wr.alloc (.cells (rowV n fun _ => false) 4)) All wr.heap.size 235 trivial
        rw [show (wr.alloc (.cells (rowV n fun _ => false) 4)).heap.size = wr.heap.size + 1 by simp] at hsp
        have hbe := bel2 wr (.cells (rowV n fun _ => false) 4) (.cells #[.slice (some ⟨wr.heap.size, 0, none⟩) n n] 235)
        have hOq := hown.bel hbe
        have HT2 := Lib.hid (hT.bel hbe)
        have HB2 := Lib.hid (hb.trans (hbe.mono hwr))
        have hrow := blk2_0 wr (.cells (rowV n fun _ => false) 4) (.cells #[.slice (some ⟨wr.heap.size, 0, none⟩) n n] 235)
        have HROW := Lib.hid hrow
        have HLT := Lib.hid (hown.lt)
        have HNEW := Lib.hid (show wr.heap.size ∉ bls from fun hm => by
          obtain ⟨a, ha, he⟩ := List.getElem_of_mem hm
          have := (hT.row a wr.heap.size (by rw [List.getElem?_eq_getElem ha, he])).2.2.lt
          omega)
        have hsq : BS ≤ ((wr.alloc (.cells (rowV n fun _ => false) 4)).alloc (.cells #[.slice (some ⟨wr.heap.size, 0, none⟩) n n] 235)).heap.size := by simp; omega
        have HOQ := Lib.hid hOq
        have HSP := Lib.hid hsp
        have HBL := Lib.hid hbl
        clear hown hOq hbe hT hb hrow hsp hbl
        go_wp2_with (at_builtin; refine list_app (t := 233) (e := 235) (bytes := 24) rfl (.tmp 19) (.tmp 22) rfl ptr_elem (ptrC_good n) rfl HOQ.out rfl HSP.out (fun _ _ hc => hc) (by rw [HBL.out]; omega) (by omega) hsq ?_; intro v' w' xs' hown' hg' hat'; have HTN := Lib.hid (HT2.out.snoc hown' hg' hat' hwr (by simp; omega) (fun e => by have := (HLT.out _ e.symm).2; omega) HNEW.out HROW.out); have HBN := Lib.hid (HB2.out.grown hg' hsq (fun j hj => (HLT.out j hj).1)); clear hown' hg' hat')
        go_roundg (n - (k + 1))
        case measure => omega
        case rel => exact ⟨k + 1, bls ++ [wr.heap.size], by omega, by omega, by go_num, by rw [List.length_append, HBL.out]; rfl, HTN.out, HBN.out⟩
      · obtain rfl : k = n := by omega
        obtain ⟨o, cap2, rfl, _⟩ := hT.form (by omega)
        have HT := Lib.hid hT
        have HBN := Lib.hid hb
        have HBL := Lib.hid hbl
        clear hT hb hbl
        go_wp2_with fail
        go_meet
        exact ⟨o, cap2, bls, by rw [HBL.out], HBL.out, HT.out, HBN.out⟩
  obtain ⟨o, cap2, bls, rfl, hbl, hT, hb⟩ := hcut
  have HT0 := Lib.hid (hT.congr (T' := tpF (higC cats) 0 0) (fun a j _ _ => (tpF_zero _ a j).symm))
  have HB0 := Lib.hid hb
  have HBL := Lib.hid hbl
  clear hT hb hbl
  have HWB := Lib.hid (show w.heap.size ≤ BS by rw [HBS.out]; exact HB.out.size)
  have HCATS := Lib.hid (fun X (hX : Below BS W1 X) => HSL.out.bel (HB.out.trans (hX.mono HWB.out)))
  have HGC := Lib.hid (fun X (hX : Below BS W1 X) => (show X.cell? ⟨g, 2, none⟩ = some (.slice A n cap) from (World.cell?_of_block (a := ⟨g, 2, none⟩) (hX.block g (by rw [HBS.out]; exact HG.out.lt))).trans g2))
  have HIN := Lib.hid (fun (b : Nat) (x : Cat) (hx : cats[b]? = some x) => higC_getD cats b hx)
  have HRNG := Lib.hid (show ∀ (b k : Nat) (x : Cat) (y : Int), cats[b]? = some x → x.high[k]? = some y → 0 ≤ y ∧ y < n from fun b k x y hx hy => by
    have := HO.out.inC.getD (b := b) (h := y) (by rw [higC_getD cats b hx]; exact List.mem_of_getElem? hy)
    rw [HCN.out] at this; exact this)
  have hbl := HBL.out
  clear g2
  go_upto_block 2 with (fail)
  go_cut [6, 7] (fun _ _ wx => TabB wx BS n (.slice (some ⟨o, 0, none⟩) n cap2) bls (tabF (higC cats) 0) ∧ Below BS W1 wx)
  case first => as_aux_lemma =>
    go_wp2_with fail
    go_loopg [6, 7] n (fun gk i _ wr => ∃ b : Nat, b ≤ n ∧ n - b ≤ gk ∧ i = .int .i64 b ∧ TabB wr BS n (.slice (some ⟨o, 0, none⟩) n cap2) bls (tpF (higC cats) b 0) ∧ Below BS W1 wr)
    case atStart => exact ⟨0, Nat.zero_le _, by omega, rfl, HT0.out, HB0.out⟩
    case round =>
      obtain ⟨b, hb, hgb, rfl, hT, hbe⟩ := hrel
      have HT := Lib.hid hT
      have HBE := Lib.hid hbe
      clear hT hbe
      by_cases hlt : b < n
      · obtain ⟨bb, off, x, c0, c1, rfl, hx, ⟨A2, n2, cap2', hcs, hs2, hxl⟩, e0, e1⟩ := (HCATS.out _ HBE.out).at2 hlt
        simp only [List.cons.injEq, and_true] at hcs
        obtain ⟨rfl, rfl⟩ := hcs
        have HX := Lib.hid hx
        have HN2 := Lib.hid hs2.len
        have hn25 : n2 ≤ 5 := by rw [← hs2.len]; exact HO.out.few x (List.mem_of_getElem? hx)
        clear hs2 hxl hx e0 e1
        go_wp2_with fail
        go_loopg [7] n2 (fun gk i wr => ∃ k : Nat, k ≤ n2 ∧ n2 - k ≤ gk ∧ i = .int .i64 k ∧ TabB wr BS n (.slice (some ⟨o, 0, none⟩) n cap2) bls (tpF (higC cats) b k) ∧ Below BS W1 wr)
        case atStart => exact ⟨0, Nat.zero_le _, by omega, rfl, HT.out, HBE.out⟩
        case round =>
          obtain ⟨k, hk, hgk, rfl, hT, hbe⟩ := hrel
          have q2 := HGC.out _ hbe
          obtain ⟨bb', off', x', c0', c1', hA', hx', ⟨A2', n2', cap3', hcs', hs2', hxl'⟩, e0, e1⟩ := (HCATS.out _ hbe).at2 hlt
          injection hA' with hA'
          injection hA' with h1 h2 _
          subst h1 h2
          have hxx := HX.out
          rw [hx'] at hxx
          injection hxx with hxx
          subst hxx
          simp only [List.cons.injEq, and_true] at hcs'
          obtain ⟨rfl, rfl⟩ := hcs'
          obtain rfl : n2' = n2 := by rw [← hs2'.len, HN2.out]
          have HTT := Lib.hid hT
          have HBE2 := Lib.hid hbe
          by_cases hkn : k < n2'
          · obtain ⟨b3, off3, y, d0, rfl, hy, ⟨hd, _⟩, f0⟩ := hs2'.at1 hkn
            simp only [List.cons.injEq, and_true] at hd
            obtain rfl := hd
            obtain ⟨y0, y1⟩ := HRNG.out b k x' y hx' hy
            obtain ⟨h, rfl⟩ := Int.eq_ofNat_of_zero_le y0
            have hhn : h < n := by omega
            obtain ⟨bh, hbh⟩ : ∃ bh, bls[h]? = some bh := ⟨_, List.getElem?_eq_getElem (by omega)⟩
            have r0 := hT.outer hbh
            have r1 := hT.inner hbh (j := b) hlt
            have r2 := hT.free hbh b
            have HTN := Lib.hid ((hT.set hbh b true).congr (T' := tpF (higC cats) b (k + 1)) (fun a j _ _ => tpF_step (higC cats) b k h (by rw [HIN.out b x' hx']; exact hy) a j))
            have HBN := Lib.hid (hbe.setCell (p := ⟨bh, b, none⟩) (hT.row h bh hbh).1 (.bool true))
            clear hT hbe hy hbh hxl' hs2' hx'
            go_wp2_with fail
            go_roundg (n2' - (k + 1))
            case measure => omega
            case rel => exact ⟨k + 1, by omega, by omega, by go_num, HTN.out, HBN.out⟩
          · obtain rfl : k = n2' := by omega
            have HTN := Lib.hid (hT.congr (T' := tpF (higC cats) (b + 1) 0) (fun a j _ _ => by
              have := tpF_next (higC cats) b a j
              rw [HIN.out b x' hx', hs2'.len] at this
              exact this))
            clear hT hbe hxl' hs2' hx'
            go_wp2_with fail
            go_roundg (n - (b + 1))
            case measure => omega
            case rel => exact ⟨b + 1, by omega, by omega, by go_num, HTN.out, HBE2.out⟩
      · obtain rfl : b = n := by omega
        have HTF := Lib.hid (HT.out.congr (T' := tabF (higC cats) 0) (fun a j _ _ => by have := tpF_last (higC cats) a j; rw [HCN.out] at this; exact this))
        go_wp2_with fail
        go_meet
        exact ⟨HTF.out, HBE.out⟩
  obtain ⟨hT, hb⟩ := hcut
  have HT1 := Lib.hid hT
  have HB1 := Lib.hid hb
  clear hT hb HT0 HB0 HIN HRNG HCATS HGC
  go_upto_block 6 with (fail)
  go_cut [8, 9, 10] (fun _ _ _ wx => TabB wx BS n (.slice (some ⟨o, 0, none⟩) n cap2) bls (tabF (higC cats) n) ∧ Below BS W1 wx)
  case first => as_aux_lemma =>
    go_wp2_with fail
    go_loopg [8, 9, 10] n (fun gk i _ _ wr => ∃ m : Nat, m ≤ n ∧ n - m ≤ gk ∧ i = .int .i64 m ∧ TabB wr BS n (.slice (some ⟨o, 0, none⟩) n cap2) bls (tabF (higC cats) m) ∧ Below BS W1 wr)
    case atStart => exact ⟨0, Nat.zero_le _, by omega, rfl, HT1.out, HB1.out⟩
    case round =>
      obtain ⟨m, hm, hgm, rfl, hT, hbe⟩ := hrel
      have HT := Lib.hid (hT.congr (T' := twF (higC cats) m 0 0) (fun a j _ _ => (twF_zero _ _ _ _).symm))
      have HTM := Lib.hid hT
      have HBE := Lib.hid hbe
      clear hT hbe
      by_cases hmn : m < n
      · obtain ⟨bm, hbm⟩ : ∃ bm, bls[m]? = some bm := ⟨_, List.getElem?_eq_getElem (by omega)⟩
        go_wp2_with fail
        go_loopg [9, 10] n (fun gk i _ wr => ∃ a : Nat, a ≤ n ∧ n - a ≤ gk ∧ i = .int .i64 a ∧ TabB wr BS n (.slice (some ⟨o, 0, none⟩) n cap2) bls (twF (higC cats) m a 0) ∧ Below BS W1 wr)
        case atStart => exact ⟨0, Nat.zero_le _, by omega, rfl, HT.out, HBE.out⟩
        case round =>
          obtain ⟨a, ha, hga, rfl, hT, hbe⟩ := hrel
          have HT2 := Lib.hid hT
          have HBE2 := Lib.hid hbe
          clear hT hbe
          by_cases han : a < n
          · obtain ⟨ba, hba⟩ : ∃ ba, bls[a]? = some ba := ⟨_, List.getElem?_eq_getElem (by omega)⟩
            go_wp2_with fail
            go_loopg [10] n (fun gk i wr => ∃ b : Nat, b ≤ n ∧ n - b ≤ gk ∧ i = .int .i64 b ∧ TabB wr BS n (.slice (some ⟨o, 0, none⟩) n cap2) bls (twF (higC cats) m a b) ∧ Below BS W1 wr)
            case atStart => exact ⟨0, Nat.zero_le _, by omega, rfl, HT2.out, HBE2.out⟩
            case round =>
              obtain ⟨b, hb, hgb, rfl, hT, hbe⟩ := hrel
              by_cases hbn : b < n
              · have r0 := hT.outer hba
                have r1 := hT.outer hbm
                have s0 := hT.inner hba (j := b) hbn
                have s1 := hT.inner hba (j := m) hmn
                have s2 := hT.inner hbm (j := b) hbn
                have f0 := hT.free hba b
                rw [twF_self] at s0
                rw [twF_col] at s1
                rw [twF_row] at s2
                have HTN := Lib.hid ((hT.set hba b (tabF (higC cats) m a b || (tabF (higC cats) m a m && tabF (higC cats) m m b))).congr (T' := twF (higC cats) m a (b + 1)) (fun a' j _ _ => twF_step (higC cats) m a b a' j))
                have HBN := Lib.hid (fun u => hbe.setCell (p := ⟨ba, b, none⟩) (hT.row a ba hba).1 u)
                obtain ⟨t1, h1⟩ : ∃ t, t = tabF (higC cats) m a b := ⟨_, rfl⟩
                obtain ⟨t2, h2⟩ : ∃ t, t = tabF (higC cats) m a m := ⟨_, rfl⟩
                obtain ⟨t3, h3⟩ : ∃ t, t = tabF (higC cats) m m b := ⟨_, rfl⟩
                rw [← h1] at s0 HTN
                rw [← h2] at s1 HTN
                rw [← h3] at s2 HTN
                have HBM := Lib.hid hbm
                have HBA := Lib.hid hba
                clear h1 h2 h3 hT hbe hbm hba
                cases t1
                · cases t2
                  · go_wp2_with fail
                    go_region
                    all_goals
                      go_wp2_with fail
                      go_roundg (n - (b + 1))
                      case measure => omega
                      case rel => exact ⟨b + 1, by omega, by omega, by go_num, (show TabB (wr.setCell ⟨ba, b, none⟩ (.bool false)) BS n (.slice (some ⟨o, 0, none⟩) n cap2) bls (twF (higC cats) m a (b + 1)) from HTN.out).bel (Below.refl _ _).drew, (HBN.out _).drew⟩
                  · go_wp2_with fail
                    go_region
                    all_goals
                      go_wp2_with fail
                      go_roundg (n - (b + 1))
                      case measure => omega
                      case rel => exact ⟨b + 1, by omega, by omega, by go_num, (show TabB (wr.setCell ⟨ba, b, none⟩ (.bool t3)) BS n (.slice (some ⟨o, 0, none⟩) n cap2) bls (twF (higC cats) m a (b + 1)) from HTN.out).bel (Below.refl _ _).drew, (HBN.out _).drew⟩
                · go_wp2_with fail
                  go_region
                  all_goals
                    go_wp2_with fail
                    go_roundg (n - (b + 1))
                    case measure => omega
                    case rel => exact ⟨b + 1, by omega, by omega, by go_num, (show TabB (wr.setCell ⟨ba, b, none⟩ (.bool true)) BS n (.slice (some ⟨o, 0, none⟩) n cap2) bls (twF (higC cats) m a (b + 1)) from HTN.out).bel (Below.refl _ _).drew, (HBN.out _).drew⟩
              · obtain rfl : b = n := by omega
                have HTN := Lib.hid (hT.congr (T' := twF (higC cats) m (a + 1) 0) (fun a' j _ hj => twF_next (higC cats) m a b a' j hj))
                have HBN := Lib.hid hbe
                clear hT hbe
                go_wp2_with fail
                go_roundg (b - (a + 1))
                case measure => omega
                case rel => exact ⟨a + 1, by omega, by omega, by go_num, HTN.out, HBN.out⟩
          · obtain rfl : a = n := by omega
            have HTN := Lib.hid (HT2.out.congr (T' := tabF (higC cats) (m + 1)) (fun a' j ha' _ => twF_last (higC cats) m a a' j (by omega)))
            go_wp2_with fail
            go_roundg (a - (m + 1))
            case measure => omega
            case rel => exact ⟨m + 1, by omega, by omega, by go_num, HTN.out, HBE2.out⟩
      · obtain rfl : m = n := by omega
        go_wp2_with fail
        go_meet
        exact ⟨HTM.out, HBE.out⟩
  obtain ⟨hT, hb⟩ := hcut
  have HT2 := Lib.hid hT
  have HB2 := Lib.hid (HB.out.trans (hb.mono HWB.out))
  clear hT hb
  go_wp2_with fail
  go_ret
  exact ⟨BS, o, cap2, bls, rfl, HBL.out, HT2.out, HB2.out⟩
end Go.Proofs.YtoilcdgpeilgaaaGreat
namespace Go.Proofs.YtoilcdgpeilgaaaGreat
open Go.RowKit Go.Shelf
set_option maxRecDepth 100000 in
set_option maxHeartbeats 4000000 in
theorem DoesServe_any (legs souls : Int) (A : Option Addr) (n cap : Nat) (cats : List Cat) (vc : Value) (a b : Nat) (w : World) (h : Sl catC 2 w All A n cap cats) (ho : OkCats cats) (ha : a < n) (hb : b < n) :
    Calls Tryz.prog 207 #[.agg #[.int .i64 legs, .int .i64 souls, .slice A n cap, vc], .int .i64 (a : Int), .int .i64 (b : Int)] w fun e w' => e = .returned (.bool (srvB (higC cats) a b)) ∧ Below w.heap.size w w' := by
  have hst := fun W hW => ServeTable_any legs souls A n cap cats vc W hW ho (by omega)
  have HST := Lib.hid hst
  clear hst
  have HCN := Lib.hid (show (higC cats).length = n by rw [higC_len]; exact h.len)
  have HSL := Lib.hid h
  obtain ⟨r, hr⟩ : ∃ r, r = srvB (higC cats) a b := ⟨_, rfl⟩
  rw [← hr]
  have HR := Lib.hid hr
  clear hr
  clear h
  go_enter Tryz.func207, Tryz.ntmps207
  go_upto_region 0 with (fail)
  go_cut [3, 6] (fun p _ wx => ∃ g, p = .pointer (some ⟨g, 0, none⟩) ∧ Blk wx g #[.int .i64 legs, .int .i64 souls, .slice A n cap, vc] 25 ∧ Below w.heap.size w wx)
  case first => as_aux_lemma =>
    go_wp2_with fail
    go_meet
    exact ⟨_, rfl, blk1 _ _, bel1 _ _⟩
  obtain ⟨g, rfl, hB, hb1⟩ := hcut
  have c0 : wc.cell? ⟨g, 0, none⟩ = some (.int .i64 legs) := hB.cell rfl
  have c1 : wc.cell? ⟨g, 1, none⟩ = some (.int .i64 souls) := hB.cell rfl
  have c2 : wc.cell? ⟨g, 2, none⟩ = some (.slice A n cap) := hB.cell rfl
  have c3 : wc.cell? ⟨g, 3, none⟩ = some vc := hB.cell rfl
  by_cases he : a = b
  · subst he
    have hr : r = true := by rw [HR.out]; unfold srvB; rw [decide_eq_true rfl]; rfl
    subst hr
    go_wp2_with fail
    go_ret
    exact ⟨rfl, hb1⟩
  · have hne : ((a : Int) == (b : Int)) = false := by rw [beq_eq_false_iff_ne]; omega
    have HR2 := Lib.hid (show r = decide (Srv (higC cats) a b) by rw [HR.out]; unfold srvB; rw [decide_eq_false he]; rfl)
    have hcall := HST.out wc (HSL.out.bel hb1)
    have HCALL := Lib.hid hcall
    clear hcall
    clear he
    go_wp2_with fail
    refine HCALL.out.mono ?_
    rintro e w2 ⟨BS, o, cap3, bls, rfl, hbl, hT, hb2⟩
    obtain ⟨ba, hba⟩ : ∃ ba, bls[a]? = some ba := ⟨_, List.getElem?_eq_getElem (by omega)⟩
    have r0 := hT.outer hba
    have r1 := hT.inner hba (j := b) hb
    have hts := tab_srv (C := higC cats) a b
    rw [HCN.out] at hts
    obtain ⟨s, hs⟩ : ∃ s, s = tabF (higC cats) n a b := ⟨_, rfl⟩
    rw [← hs] at r1 hts
    have HS := Lib.hid (show r = s by
      rw [HR2.out]
      cases s
      · exact decide_eq_false (fun h => absurd (hts.2 h) (by simp))
      · exact decide_eq_true (hts.1 rfl))
    have HB4 := Lib.hid (hb1.trans (hb2.mono hb1.size))
    clear hs hts hba hT hb2
    go_wp2_with fail
    go_ret
    exact ⟨retB HS.out.symm, HB4.out⟩
end Go.Proofs.YtoilcdgpeilgaaaGreat
