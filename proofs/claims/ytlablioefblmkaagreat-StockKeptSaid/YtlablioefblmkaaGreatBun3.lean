/-
  Words, laws and contracts: ShipK, ShipN, FolioA, FolioB, FolioC, FolioD.
-/
import Derived.Test.YtlablioefblmkaaGreatBun2
import Derived.BigRegion
import Derived.Deep.CutBlock
import Derived.RangeFuncNested
import Derived.RangeFuncBound
import Derived.RangeFuncCalls
import Derived.RangeFuncLeaves
import Derived.RangeFuncFrom
import Derived.Shelf.RegionOpen
import Derived.OwnWalkIn
import Derived.TacticsInMore
import Derived.LoopNIn
import Derived.LoopIn
/-
  Ships: the reference ServeTable.
-/
namespace Go.Proofs.YtlablioefblmkaaGreat
open Go.RowKit Go.Shelf

/-- The table while who stands straight above b is laid: k of b's are. -/
def tpF (C : List (List Int)) (b k a b' : Nat) : Bool := if b' < b then decide ((a : Int) ∈ C.getD b' []) else if b' = b then decide ((a : Int) ∈ (C.getD b []).take k) else false
theorem tpF_zero (C : List (List Int)) (a b : Nat) : tpF C 0 0 a b = false := by
  unfold tpF
  rw [if_neg (by omega)]
  split <;> simp
theorem tpF_next (C : List (List Int)) (b : Nat) (a b' : Nat) : tpF C b (C.getD b []).length a b' = tpF C (b + 1) 0 a b' := by
  unfold tpF
  by_cases h1 : b' < b
  · rw [if_pos h1, if_pos (by omega)]
  · rw [if_neg h1]
    by_cases h2 : b' = b
    · subst h2; rw [if_pos rfl, if_pos (by omega), List.take_length]
    · rw [if_neg h2, if_neg (by omega)]
      split <;> simp
theorem tpF_last (C : List (List Int)) (a b : Nat) : tpF C C.length 0 a b = tabF C 0 a b := by
  unfold tpF tabF
  by_cases h1 : b < C.length
  · rw [if_pos h1]
  · rw [if_neg h1, getD_far (C := C) (b := C.length) (by omega), getD_far (C := C) (b := b) (by omega)]
    split <;> simp
theorem tpF_step (C : List (List Int)) (b k h : Nat) (hx : (C.getD b [])[k]? = some (h : Int)) (a b' : Nat) : (if a = h ∧ b' = b then true else tpF C b k a b') = tpF C b (k + 1) a b' := by
  unfold tpF
  by_cases h1 : b' < b
  · rw [if_pos h1, if_pos h1, if_neg (by omega)]
  · rw [if_neg h1, if_neg h1]
    by_cases h2 : b' = b
    · subst h2
      rw [if_pos rfl, if_pos rfl, take_snoc hx]
      by_cases h3 : a = h
      · subst h3; rw [if_pos ⟨rfl, rfl⟩]; simp
      · rw [if_neg (fun e => h3 e.1)]
        have : ¬ (a : Int) = (h : Int) := by omega
        simp [this]
    · rw [if_neg h2, if_neg h2, if_neg (fun e => h2 e.2)]

/-- The table in the midst of the m-th round. -/
def twF (C : List (List Int)) (m a b a' b' : Nat) : Bool := if a' < a ∨ (a' = a ∧ b' < b) then tabF C (m + 1) a' b' else tabF C m a' b'
theorem twF_zero (C : List (List Int)) (m a b : Nat) : twF C m 0 0 a b = tabF C m a b := by unfold twF; rw [if_neg (by omega)]
theorem twF_next (C : List (List Int)) (m a n a' b' : Nat) (h : b' < n) : twF C m a n a' b' = twF C m (a + 1) 0 a' b' := by
  unfold twF
  by_cases h1 : a' < a + 1
  · rw [if_pos (by omega), if_pos (by omega)]
  · rw [if_neg (by omega), if_neg (by omega)]
theorem twF_last (C : List (List Int)) (m n a' b' : Nat) (h : a' < n) : twF C m n 0 a' b' = tabF C (m + 1) a' b' := by unfold twF; rw [if_pos (by omega)]
theorem twF_col (C : List (List Int)) (m a b x : Nat) : twF C m a b x m = tabF C m x m := by unfold twF; split; (exact tab_col C m x); rfl
theorem twF_row (C : List (List Int)) (m a b y : Nat) : twF C m a b m y = tabF C m m y := by unfold twF; split; (exact tab_row C m y); rfl
theorem twF_self (C : List (List Int)) (m a b : Nat) : twF C m a b a b = tabF C m a b := by unfold twF; rw [if_neg (by omega)]
theorem twF_step (C : List (List Int)) (m a b a' b' : Nat) : (if a' = a ∧ b' = b then (tabF C m a b || (tabF C m a m && tabF C m m b)) else twF C m a b a' b') = twF C m a (b + 1) a' b' := by
  unfold twF
  by_cases h1 : a' = a ∧ b' = b
  · rw [if_pos h1, if_pos (by omega)]
    obtain ⟨rfl, rfl⟩ := h1
    rfl
  · rw [if_neg h1]
    by_cases h2 : a' < a ∨ (a' = a ∧ b' < b)
    · rw [if_pos h2, if_pos (by omega)]
    · rw [if_neg h2, if_neg (by omega)]

theorem mkBools0 (W : World) : (Instr.makeSlice 170 (.int .i64 0) (.int .i64 0)).run Tryz.prog W = .ok (.slice (some ⟨W.heap.size, 0, none⟩) 0 0) (W.alloc (.cells (rowV 0 fun _ => false) 4)) := by kernel_rfl
theorem mkBools1 (W : World) : (Instr.makeSlice 170 (.int .i64 1) (.int .i64 1)).run Tryz.prog W = .ok (.slice (some ⟨W.heap.size, 0, none⟩) 1 1) (W.alloc (.cells (rowV 1 fun _ => false) 4)) := by kernel_rfl
theorem mkBools2 (W : World) : (Instr.makeSlice 170 (.int .i64 2) (.int .i64 2)).run Tryz.prog W = .ok (.slice (some ⟨W.heap.size, 0, none⟩) 2 2) (W.alloc (.cells (rowV 2 fun _ => false) 4)) := by kernel_rfl
theorem mkBools3 (W : World) : (Instr.makeSlice 170 (.int .i64 3) (.int .i64 3)).run Tryz.prog W = .ok (.slice (some ⟨W.heap.size, 0, none⟩) 3 3) (W.alloc (.cells (rowV 3 fun _ => false) 4)) := by kernel_rfl
theorem mkBools4 (W : World) : (Instr.makeSlice 170 (.int .i64 4) (.int .i64 4)).run Tryz.prog W = .ok (.slice (some ⟨W.heap.size, 0, none⟩) 4 4) (W.alloc (.cells (rowV 4 fun _ => false) 4)) := by kernel_rfl
theorem mkBools5 (W : World) : (Instr.makeSlice 170 (.int .i64 5) (.int .i64 5)).run Tryz.prog W = .ok (.slice (some ⟨W.heap.size, 0, none⟩) 5 5) (W.alloc (.cells (rowV 5 fun _ => false) 4)) := by kernel_rfl
theorem mkBools (n : Nat) (hn : n ≤ 5) (W : World) : (Instr.makeSlice 170 (.int .i64 n) (.int .i64 n)).run Tryz.prog W = .ok (.slice (some ⟨W.heap.size, 0, none⟩) n n) (W.alloc (.cells (rowV n fun _ => false) 4)) := by
  have h : n = 0 ∨ n = 1 ∨ n = 2 ∨ n = 3 ∨ n = 4 ∨ n = 5 := by omega
  rcases h with rfl | rfl | rfl | rfl | rfl | rfl
  · exact mkBools0 W
  · exact mkBools1 W
  · exact mkBools2 W
  · exact mkBools3 W
  · exact mkBools4 W
  · exact mkBools5 W
theorem ptr_elem : ElemOf Tryz.prog 168 170 1 24 := .mk' Tryz.underlying168 (z := .slice none 0 0) (by kernel_rfl) rfl (by omega)
theorem sl_ptr (n : Nat) (w : World) (S : Nat → Prop) (b : Nat) (t : TypeId) (hS : S w.heap.size) : Sl (ptrC n) 1 (w.alloc (.cells #[.slice (some ⟨b, 0, none⟩) n n] t)) S (some ⟨w.heap.size, 0, none⟩) 1 1 [b] :=
  Sl.lit1 w S t b [.slice (some ⟨b, 0, none⟩) n n] rfl hS

set_option maxRecDepth 100000 in
set_option maxHeartbeats 20000000 in
theorem ServeTable_any (legs souls : Int) (A : Option Addr) (n cap : Nat) (cats : List Cat) (vc : Value) (w : World) (h : Sl catC 2 w All A n cap cats) (ho : OkCats cats) (hn0 : 0 < n) :
    Calls Tryz.prog 147 #[.agg #[.int .i64 legs, .int .i64 souls, .slice A n cap, vc]] w fun e w' => ∃ BS o cap2 bls, e = .returned (.slice (some ⟨o, 0, none⟩) n cap2) ∧ bls.length = n ∧
      TabB w' BS n (.slice (some ⟨o, 0, none⟩) n cap2) bls (tabF (higC cats) n) ∧ Below w.heap.size w w' := by
  have hl := h.len
  have h5 := ho.five
  have hn5 : n ≤ 5 := by omega
  have hmk := fun W => mkBools n hn5 W
  have HSL := Lib.hid h
  have HCN := Lib.hid (show (higC cats).length = n by rw [higC_len]; exact hl)
  have HO := Lib.hid ho
  clear ho
  clear h h5 hl
  go_enter Tryz.func147, Tryz.ntmps147
  go_upto_region 0 with (fail)
  go_cut [1, 2] (fun p _ wx => ∃ g, p = .pointer (some ⟨g, 0, none⟩) ∧ Blk wx g #[.int .i64 legs, .int .i64 souls, .slice A n cap, vc] 25 ∧ Below w.heap.size w wx)
  case first => as_aux_lemma =>
    go_wp2_with fail
    go_meet
    exact ⟨_, rfl, blk1 _ _, bel1 _ _⟩
  obtain ⟨g, rfl, hG, hb⟩ := hcut
  have g2 : wc.cell? ⟨g, 2, none⟩ = some (.slice A n cap) := hG.cell rfl
  have HG := Lib.hid hG
  have HB := Lib.hid hb
  obtain ⟨W1, hW1⟩ : ∃ W1, W1 = wc := ⟨_, rfl⟩
  subst hW1
  clear hG hb
  obtain ⟨BS, hBS⟩ : ∃ BS, BS = W1.heap.size := ⟨_, rfl⟩
  have HBS := Lib.hid hBS
  have HFR := Lib.hid (show Below BS W1 W1 from Below.refl _ _)
  clear hBS
  go_upto_block 0 with (fail)
  go_cut [4, 5] (fun v _ wx => ∃ o cap2 bls, v = .slice (some ⟨o, 0, none⟩) n cap2 ∧ bls.length = n ∧ TabB wx BS n v bls (fun _ _ => false) ∧ Below BS W1 wx)
  case first => as_aux_lemma =>
    go_wp2_with fail
    go_loopg [4, 5] n (fun gk v i wr => ∃ (k : Nat) (bls : List Nat), k ≤ n ∧ n - k ≤ gk ∧ i = .int .i64 k ∧ bls.length = k ∧ TabB wr BS n v bls (fun _ _ => false) ∧ Below BS W1 wr)
    case atStart => exact ⟨0, [], Nat.zero_le _, by omega, rfl, rfl, ⟨⟨[], Own.nil _ _ _ _ _⟩, by simp, by simp⟩, HFR.out⟩
    case round =>
      obtain ⟨k, bls, hk, hgk, rfl, hbl, hT, hb⟩ := hrel
      by_cases hlt : k < n
      · obtain ⟨xs, hown⟩ := hT.own
        obtain ⟨A5, n5, c5, rfl, _⟩ := hown.sl (ptrC_good n)
        have hwr : BS ≤ wr.heap.size := by have := HBS.out; have := hb.size; omega
        have hsp := sl_ptr n (wr.alloc (.cells (rowV n fun _ => false) 4)) All wr.heap.size 170 trivial
        rw [show (wr.alloc (.cells (rowV n fun _ => false) 4)).heap.size = wr.heap.size + 1 by simp] at hsp
        have hbe := bel2 wr (.cells (rowV n fun _ => false) 4) (.cells #[.slice (some ⟨wr.heap.size, 0, none⟩) n n] 170)
        have hOq := hown.bel hbe
        have HT2 := Lib.hid (hT.bel hbe)
        have HB2 := Lib.hid (hb.trans (hbe.mono hwr))
        have hrow := blk2_0 wr (.cells (rowV n fun _ => false) 4) (.cells #[.slice (some ⟨wr.heap.size, 0, none⟩) n n] 170)
        have HROW := Lib.hid hrow
        have HLT := Lib.hid (hown.lt)
        have HNEW := Lib.hid (show wr.heap.size ∉ bls from fun hm => by
          obtain ⟨a, ha, he⟩ := List.getElem_of_mem hm
          have := (hT.row a wr.heap.size (by rw [List.getElem?_eq_getElem ha, he])).2.2.lt
          omega)
        have hsq : BS ≤ ((wr.alloc (.cells (rowV n fun _ => false) 4)).alloc (.cells #[.slice (some ⟨wr.heap.size, 0, none⟩) n n] 170)).heap.size := by simp; omega
        have HOQ := Lib.hid hOq
        have HSP := Lib.hid hsp
        have HBL := Lib.hid hbl
        clear hown hOq hbe hT hb hrow hsp hbl
        go_wp2_with (at_builtin; refine list_app (t := 168) (e := 170) (bytes := 24) rfl (.tmp 19) (.tmp 22) rfl ptr_elem (ptrC_good n) rfl HOQ.out rfl HSP.out (fun _ _ hc => hc) (by rw [HBL.out]; omega) (by omega) hsq ?_; intro v' w' xs' hown' hg' hat'; have HTN := Lib.hid (HT2.out.snoc hown' hg' hat' hwr (by simp; omega) (fun e => by have := (HLT.out _ e.symm).2; omega) HNEW.out HROW.out); have HBN := Lib.hid (HB2.out.grown hg' hsq (fun j hj => (HLT.out j hj).1)); clear hown' hg' hat')
        go_roundg (n - (k + 1))
        case measure => omega
        case rel => exact ⟨k + 1, bls ++ [wr.heap.size], by omega, by omega, by go_num, by rw [List.length_append, HBL.out]; rfl, HTN.out, HBN.out⟩
      · obtain rfl : k = n := by omega
        obtain ⟨o, cap2, rfl, _⟩ := hT.form (by omega)
        have HT := Lib.hid hT
        have HBN := Lib.hid hb
        have HBL := Lib.hid hbl
        clear hT hb hbl
        go_wp2_with fail
        go_meet
        exact ⟨o, cap2, bls, by rw [HBL.out], HBL.out, HT.out, HBN.out⟩
  obtain ⟨o, cap2, bls, rfl, hbl, hT, hb⟩ := hcut
  have HT0 := Lib.hid (hT.congr (T' := tpF (higC cats) 0 0) (fun a j _ _ => (tpF_zero _ a j).symm))
  have HB0 := Lib.hid hb
  have HBL := Lib.hid hbl
  clear hT hb hbl
  have HWB := Lib.hid (show w.heap.size ≤ BS by rw [HBS.out]; exact HB.out.size)
  have HCATS := Lib.hid (fun X (hX : Below BS W1 X) => HSL.out.bel (HB.out.trans (hX.mono HWB.out)))
  have HGC := Lib.hid (fun X (hX : Below BS W1 X) => (show X.cell? ⟨g, 2, none⟩ = some (.slice A n cap) from (World.cell?_of_block (a := ⟨g, 2, none⟩) (hX.block g (by rw [HBS.out]; exact HG.out.lt))).trans g2))
  have HIN := Lib.hid (fun (b : Nat) (x : Cat) (hx : cats[b]? = some x) => higC_getD cats b hx)
  have HRNG := Lib.hid (show ∀ (b k : Nat) (x : Cat) (y : Int), cats[b]? = some x → x.high[k]? = some y → 0 ≤ y ∧ y < n from fun b k x y hx hy => by
    have := HO.out.inC.getD (b := b) (h := y) (by rw [higC_getD cats b hx]; exact List.mem_of_getElem? hy)
    rw [HCN.out] at this; exact this)
  have hbl := HBL.out
  clear g2
  go_upto_block 2 with (fail)
  go_cut [6, 7] (fun _ _ wx => TabB wx BS n (.slice (some ⟨o, 0, none⟩) n cap2) bls (tabF (higC cats) 0) ∧ Below BS W1 wx)
  case first => as_aux_lemma =>
    go_wp2_with fail
    go_loopg [6, 7] n (fun gk i _ wr => ∃ b : Nat, b ≤ n ∧ n - b ≤ gk ∧ i = .int .i64 b ∧ TabB wr BS n (.slice (some ⟨o, 0, none⟩) n cap2) bls (tpF (higC cats) b 0) ∧ Below BS W1 wr)
    case atStart => exact ⟨0, Nat.zero_le _, by omega, rfl, HT0.out, HB0.out⟩
    case round =>
      obtain ⟨b, hb, hgb, rfl, hT, hbe⟩ := hrel
      have HT := Lib.hid hT
      have HBE := Lib.hid hbe
      clear hT hbe
      by_cases hlt : b < n
      · obtain ⟨bb, off, x, c0, c1, rfl, hx, ⟨A2, n2, cap2', hcs, hs2, hxl⟩, e0, e1⟩ := (HCATS.out _ HBE.out).at2 hlt
        simp only [List.cons.injEq, and_true] at hcs
        obtain ⟨rfl, rfl⟩ := hcs
        have HX := Lib.hid hx
        have HN2 := Lib.hid hs2.len
        have hn25 : n2 ≤ 5 := by rw [← hs2.len]; exact HO.out.few x (List.mem_of_getElem? hx)
        clear hs2 hxl hx e0 e1
        go_wp2_with fail
        go_loopg [7] n2 (fun gk i wr => ∃ k : Nat, k ≤ n2 ∧ n2 - k ≤ gk ∧ i = .int .i64 k ∧ TabB wr BS n (.slice (some ⟨o, 0, none⟩) n cap2) bls (tpF (higC cats) b k) ∧ Below BS W1 wr)
        case atStart => exact ⟨0, Nat.zero_le _, by omega, rfl, HT.out, HBE.out⟩
        case round =>
          obtain ⟨k, hk, hgk, rfl, hT, hbe⟩ := hrel
          have q2 := HGC.out _ hbe
          obtain ⟨bb', off', x', c0', c1', hA', hx', ⟨A2', n2', cap3', hcs', hs2', hxl'⟩, e0, e1⟩ := (HCATS.out _ hbe).at2 hlt
          injection hA' with hA'
          injection hA' with h1 h2 _
          subst h1 h2
          have hxx := HX.out
          rw [hx'] at hxx
          injection hxx with hxx
          subst hxx
          simp only [List.cons.injEq, and_true] at hcs'
          obtain ⟨rfl, rfl⟩ := hcs'
          obtain rfl : n2' = n2 := by rw [← hs2'.len, HN2.out]
          have HTT := Lib.hid hT
          have HBE2 := Lib.hid hbe
          by_cases hkn : k < n2'
          · obtain ⟨b3, off3, y, d0, rfl, hy, ⟨hd, _⟩, f0⟩ := hs2'.at1 hkn
            simp only [List.cons.injEq, and_true] at hd
            obtain rfl := hd
            obtain ⟨y0, y1⟩ := HRNG.out b k x' y hx' hy
            obtain ⟨h, rfl⟩ := Int.eq_ofNat_of_zero_le y0
            have hhn : h < n := by omega
            obtain ⟨bh, hbh⟩ : ∃ bh, bls[h]? = some bh := ⟨_, List.getElem?_eq_getElem (by omega)⟩
            have r0 := hT.outer hbh
            have r1 := hT.inner hbh (j := b) hlt
            have r2 := hT.free hbh b
            have HTN := Lib.hid ((hT.set hbh b true).congr (T' := tpF (higC cats) b (k + 1)) (fun a j _ _ => tpF_step (higC cats) b k h (by rw [HIN.out b x' hx']; exact hy) a j))
            have HBN := Lib.hid (hbe.setCell (p := ⟨bh, b, none⟩) (hT.row h bh hbh).1 (.bool true))
            clear hT hbe hy hbh hxl' hs2' hx'
            go_wp2_with fail
            go_roundg (n2' - (k + 1))
            case measure => omega
            case rel => exact ⟨k + 1, by omega, by omega, by go_num, HTN.out, HBN.out⟩
          · obtain rfl : k = n2' := by omega
            have HTN := Lib.hid (hT.congr (T' := tpF (higC cats) (b + 1) 0) (fun a j _ _ => by
              have := tpF_next (higC cats) b a j
              rw [HIN.out b x' hx', hs2'.len] at this
              exact this))
            clear hT hbe hxl' hs2' hx'
            go_wp2_with fail
            go_roundg (n - (b + 1))
            case measure => omega
            case rel => exact ⟨b + 1, by omega, by omega, by go_num, HTN.out, HBE2.out⟩
      · obtain rfl : b = n := by omega
        have HTF := Lib.hid (HT.out.congr (T' := tabF (higC cats) 0) (fun a j _ _ => by have := tpF_last (higC cats) a j; rw [HCN.out] at this; exact this))
        go_wp2_with fail
        go_meet
        exact ⟨HTF.out, HBE.out⟩
  obtain ⟨hT, hb⟩ := hcut
  have HT1 := Lib.hid hT
  have HB1 := Lib.hid hb
  clear hT hb HT0 HB0 HIN HRNG HCATS HGC
  go_upto_block 6 with (fail)
  go_cut [8, 9, 10] (fun _ _ _ wx => TabB wx BS n (.slice (some ⟨o, 0, none⟩) n cap2) bls (tabF (higC cats) n) ∧ Below BS W1 wx)
  case first => as_aux_lemma =>
    go_wp2_with fail
    go_loopg [8, 9, 10] n (fun gk i _ _ wr => ∃ m : Nat, m ≤ n ∧ n - m ≤ gk ∧ i = .int .i64 m ∧ TabB wr BS n (.slice (some ⟨o, 0, none⟩) n cap2) bls (tabF (higC cats) m) ∧ Below BS W1 wr)
    case atStart => exact ⟨0, Nat.zero_le _, by omega, rfl, HT1.out, HB1.out⟩
    case round =>
      obtain ⟨m, hm, hgm, rfl, hT, hbe⟩ := hrel
      have HT := Lib.hid (hT.congr (T' := twF (higC cats) m 0 0) (fun a j _ _ => (twF_zero _ _ _ _).symm))
      have HTM := Lib.hid hT
      have HBE := Lib.hid hbe
      clear hT hbe
      by_cases hmn : m < n
      · obtain ⟨bm, hbm⟩ : ∃ bm, bls[m]? = some bm := ⟨_, List.getElem?_eq_getElem (by omega)⟩
        go_wp2_with fail
        go_loopg [9, 10] n (fun gk i _ wr => ∃ a : Nat, a ≤ n ∧ n - a ≤ gk ∧ i = .int .i64 a ∧ TabB wr BS n (.slice (some ⟨o, 0, none⟩) n cap2) bls (twF (higC cats) m a 0) ∧ Below BS W1 wr)
        case atStart => exact ⟨0, Nat.zero_le _, by omega, rfl, HT.out, HBE.out⟩
        case round =>
          obtain ⟨a, ha, hga, rfl, hT, hbe⟩ := hrel
          have HT2 := Lib.hid hT
          have HBE2 := Lib.hid hbe
          clear hT hbe
          by_cases han : a < n
          · obtain ⟨ba, hba⟩ : ∃ ba, bls[a]? = some ba := ⟨_, List.getElem?_eq_getElem (by omega)⟩
            go_wp2_with fail
            go_loopg [10] n (fun gk i wr => ∃ b : Nat, b ≤ n ∧ n - b ≤ gk ∧ i = .int .i64 b ∧ TabB wr BS n (.slice (some ⟨o, 0, none⟩) n cap2) bls (twF (higC cats) m a b) ∧ Below BS W1 wr)
            case atStart => exact ⟨0, Nat.zero_le _, by omega, rfl, HT2.out, HBE2.out⟩
            case round =>
              obtain ⟨b, hb, hgb, rfl, hT, hbe⟩ := hrel
              by_cases hbn : b < n
              · have r0 := hT.outer hba
                have r1 := hT.outer hbm
                have s0 := hT.inner hba (j := b) hbn
                have s1 := hT.inner hba (j := m) hmn
                have s2 := hT.inner hbm (j := b) hbn
                have f0 := hT.free hba b
                rw [twF_self] at s0
                rw [twF_col] at s1
                rw [twF_row] at s2
                have HTN := Lib.hid ((hT.set hba b (tabF (higC cats) m a b || (tabF (higC cats) m a m && tabF (higC cats) m m b))).congr (T' := twF (higC cats) m a (b + 1)) (fun a' j _ _ => twF_step (higC cats) m a b a' j))
                have HBN := Lib.hid (fun u => hbe.setCell (p := ⟨ba, b, none⟩) (hT.row a ba hba).1 u)
                obtain ⟨t1, h1⟩ : ∃ t, t = tabF (higC cats) m a b := ⟨_, rfl⟩
                obtain ⟨t2, h2⟩ : ∃ t, t = tabF (higC cats) m a m := ⟨_, rfl⟩
                obtain ⟨t3, h3⟩ : ∃ t, t = tabF (higC cats) m m b := ⟨_, rfl⟩
                rw [← h1] at s0 HTN
                rw [← h2] at s1 HTN
                rw [← h3] at s2 HTN
                have HBM := Lib.hid hbm
                have HBA := Lib.hid hba
                clear h1 h2 h3 hT hbe hbm hba
                cases t1
                · cases t2
                  · go_wp2_with fail
                    go_region
                    all_goals
                      go_wp2_with fail
                      go_roundg (n - (b + 1))
                      case measure => omega
                      case rel => exact ⟨b + 1, by omega, by omega, by go_num, (show TabB (wr.setCell ⟨ba, b, none⟩ (.bool false)) BS n (.slice (some ⟨o, 0, none⟩) n cap2) bls (twF (higC cats) m a (b + 1)) from HTN.out).bel (Below.refl _ _).drew, (HBN.out _).drew⟩
                  · go_wp2_with fail
                    go_region
                    all_goals
                      go_wp2_with fail
                      go_roundg (n - (b + 1))
                      case measure => omega
                      case rel => exact ⟨b + 1, by omega, by omega, by go_num, (show TabB (wr.setCell ⟨ba, b, none⟩ (.bool t3)) BS n (.slice (some ⟨o, 0, none⟩) n cap2) bls (twF (higC cats) m a (b + 1)) from HTN.out).bel (Below.refl _ _).drew, (HBN.out _).drew⟩
                · go_wp2_with fail
                  go_region
                  all_goals
                    go_wp2_with fail
                    go_roundg (n - (b + 1))
                    case measure => omega
                    case rel => exact ⟨b + 1, by omega, by omega, by go_num, (show TabB (wr.setCell ⟨ba, b, none⟩ (.bool true)) BS n (.slice (some ⟨o, 0, none⟩) n cap2) bls (twF (higC cats) m a (b + 1)) from HTN.out).bel (Below.refl _ _).drew, (HBN.out _).drew⟩
              · obtain rfl : b = n := by omega
                have HTN := Lib.hid (hT.congr (T' := twF (higC cats) m (a + 1) 0) (fun a' j _ hj => twF_next (higC cats) m a b a' j hj))
                have HBN := Lib.hid hbe
                clear hT hbe
                go_wp2_with fail
                go_roundg (b - (a + 1))
                case measure => omega
                case rel => exact ⟨a + 1, by omega, by omega, by go_num, HTN.out, HBN.out⟩
          · obtain rfl : a = n := by omega
            have HTN := Lib.hid (HT2.out.congr (T' := tabF (higC cats) (m + 1)) (fun a' j ha' _ => twF_last (higC cats) m a a' j (by omega)))
            go_wp2_with fail
            go_roundg (a - (m + 1))
            case measure => omega
            case rel => exact ⟨m + 1, by omega, by omega, by go_num, HTN.out, HBE2.out⟩
      · obtain rfl : m = n := by omega
        go_wp2_with fail
        go_meet
        exact ⟨HTM.out, HBE.out⟩
  obtain ⟨hT, hb⟩ := hcut
  have HT2 := Lib.hid hT
  have HB2 := Lib.hid (HB.out.trans (hb.mono HWB.out))
  clear hT hb
  go_wp2_with fail
  go_ret
  exact ⟨BS, o, cap2, bls, rfl, HBL.out, HT2.out, HB2.out⟩
end Go.Proofs.YtlablioefblmkaaGreat
/-
  Ships: the references DoesServe, OrderOf.
-/
namespace Go.Proofs.YtlablioefblmkaaGreat
open Go.RowKit Go.Shelf

set_option maxRecDepth 100000 in
set_option maxHeartbeats 4000000 in
theorem DoesServe_any (legs souls : Int) (A : Option Addr) (n cap : Nat) (cats : List Cat) (vc : Value) (a b : Nat) (w : World) (h : Sl catC 2 w All A n cap cats) (ho : OkCats cats) (ha : a < n) (hb : b < n) :
    Calls Tryz.prog 151 #[.agg #[.int .i64 legs, .int .i64 souls, .slice A n cap, vc], .int .i64 (a : Int), .int .i64 (b : Int)] w fun e w' => e = .returned (.bool (srvB (higC cats) a b)) ∧ Below w.heap.size w w' := by
  have hst := fun W hW => ServeTable_any legs souls A n cap cats vc W hW ho (by omega)
  have HST := Lib.hid hst
  clear hst
  have HCN := Lib.hid (show (higC cats).length = n by rw [higC_len]; exact h.len)
  have HSL := Lib.hid h
  obtain ⟨r, hr⟩ : ∃ r, r = srvB (higC cats) a b := ⟨_, rfl⟩
  rw [← hr]
  have HR := Lib.hid hr
  clear hr
  clear h
  go_enter Tryz.func151, Tryz.ntmps151
  go_upto_region 0 with (fail)
  go_cut [3, 6] (fun p _ wx => ∃ g, p = .pointer (some ⟨g, 0, none⟩) ∧ Blk wx g #[.int .i64 legs, .int .i64 souls, .slice A n cap, vc] 25 ∧ Below w.heap.size w wx)
  case first => as_aux_lemma =>
    go_wp2_with fail
    go_meet
    exact ⟨_, rfl, blk1 _ _, bel1 _ _⟩
  obtain ⟨g, rfl, hB, hb1⟩ := hcut
  have c0 : wc.cell? ⟨g, 0, none⟩ = some (.int .i64 legs) := hB.cell rfl
  have c1 : wc.cell? ⟨g, 1, none⟩ = some (.int .i64 souls) := hB.cell rfl
  have c2 : wc.cell? ⟨g, 2, none⟩ = some (.slice A n cap) := hB.cell rfl
  have c3 : wc.cell? ⟨g, 3, none⟩ = some vc := hB.cell rfl
  by_cases he : a = b
  · subst he
    have hr : r = true := by rw [HR.out]; unfold srvB; rw [decide_eq_true rfl]; rfl
    subst hr
    go_wp2_with fail
    go_ret
    exact ⟨rfl, hb1⟩
  · have hne : ((a : Int) == (b : Int)) = false := by rw [beq_eq_false_iff_ne]; omega
    have HR2 := Lib.hid (show r = decide (Srv (higC cats) a b) by rw [HR.out]; unfold srvB; rw [decide_eq_false he]; rfl)
    have hcall := HST.out wc (HSL.out.bel hb1)
    have HCALL := Lib.hid hcall
    clear hcall
    clear he
    go_wp2_with fail
    refine HCALL.out.mono ?_
    rintro e w2 ⟨BS, o, cap3, bls, rfl, hbl, hT, hb2⟩
    obtain ⟨ba, hba⟩ : ∃ ba, bls[a]? = some ba := ⟨_, List.getElem?_eq_getElem (by omega)⟩
    have r0 := hT.outer hba
    have r1 := hT.inner hba (j := b) hb
    have hts := tab_srv (C := higC cats) a b
    rw [HCN.out] at hts
    obtain ⟨s, hs⟩ : ∃ s, s = tabF (higC cats) n a b := ⟨_, rfl⟩
    rw [← hs] at r1 hts
    have HS := Lib.hid (show r = s by
      rw [HR2.out]
      cases s
      · exact decide_eq_false (fun h => absurd (hts.2 h) (by simp))
      · exact decide_eq_true (hts.1 rfl))
    have HB4 := Lib.hid (hb1.trans (hb2.mono hb1.size))
    clear hs hts hba hT hb2
    go_wp2_with fail
    go_ret
    exact ⟨retB HS.out.symm, HB4.out⟩

theorem cell_mvN {W X : World} {p j : Nat} {v : Value} (hX : Below W.heap.size W X) (hc : W.cell? ⟨p, j, none⟩ = some v) : X.cell? ⟨p, j, none⟩ = some v := (World.cell?_of_block (a := ⟨p, j, none⟩) (hX.block _ (cell_lt hc))).trans hc
/-- May i come next, as the document says it: of those that serve it the first a are looked at. -/
def okT (T : Nat → Nat → Bool) (D : Nat → Bool) (i a : Nat) : Bool := !D i && (List.range a).all (fun c => !T c i || D c)
theorem okT_zero (T : Nat → Nat → Bool) (D : Nat → Bool) (i : Nat) : okT T D i 0 = !D i := by unfold okT; simp
theorem okT_succ (T : Nat → Nat → Bool) (D : Nat → Bool) (i a : Nat) : okT T D i (a + 1) = (okT T D i a && (!T a i || D a)) := by
  unfold okT
  rw [List.range_succ, List.all_append, Bool.and_assoc]
  simp
theorem okT_ok {C : List (List Int)} {out : List Int} (h : Laid C out) (ho : OkC C) (i : Nat) : okT (tabF C C.length) (fun j => decide ((j : Int) ∈ out)) i C.length = okO C out i := by
  rw [Bool.eq_iff_iff, okO_tab h ho]
  unfold okT
  simp only [Bool.and_eq_true, Bool.not_eq_true', decide_eq_false_iff_not, List.all_eq_true, List.mem_range, Bool.or_eq_true, decide_eq_true_iff]
  refine and_congr_right fun _ => ⟨fun h1 a ha ht => ?_, fun h1 a ha => ?_⟩
  · rcases h1 a ha with h2 | h2
    · rw [ht] at h2; exact absurd h2 (by simp)
    · exact h2
  · cases ht : tabF C C.length a i
    · exact .inl rfl
    · exact .inr (h1 a ha ht)
/-- The least from j on that may come next; -1: none. -/
def leastOk (C : List (List Int)) (out : List Int) (n j : Nat) (x : Int) : Prop :=
  (x = -1 ∧ ∀ i, j ≤ i → i < n → okO C out i = false) ∨ ∃ m : Nat, x = m ∧ j ≤ m ∧ m < n ∧ okO C out m = true ∧ ∀ i, j ≤ i → i < m → okO C out i = false
theorem least_no {C : List (List Int)} {out : List Int} {n j : Nat} {x : Int} (h : leastOk C out n (j + 1) x) (hn : okO C out j = false) : leastOk C out n j x := by
  rcases h with ⟨rfl, h⟩ | ⟨m, rfl, h1, h2, h3, h4⟩
  · exact .inl ⟨rfl, fun i hi hin => by by_cases he : i = j; (· subst he; exact hn); exact h i (by omega) hin⟩
  · exact .inr ⟨m, rfl, by omega, h2, h3, fun i hi him => by by_cases he : i = j; (· subst he; exact hn); exact h4 i (by omega) him⟩

end Go.Proofs.YtlablioefblmkaaGreat
/-
  Folios: what the small functions of package folio compute, and their contracts.
-/
namespace Go.Proofs.YtlablioefblmkaaGreat
open Go.RowKit Go.Shelf

structure Entry where
  day : Int
  kind : Int
  amount : Int
  deriving DecidableEq, Inhabited

def entryC : Cod Entry := fun _ _ x cs => cs = [.int .i64 x.day, .int .i64 x.kind, .int .i64 x.amount] ∧ InI x.day ∧ InI x.kind ∧ InI x.amount
theorem entryC_flat : Flat entryC := fun _ _ _ _ _ _ h => h
theorem entryC_good : Good entryC := .of_flat entryC_flat fun h u hu => by obtain ⟨rfl, _⟩ := h; simp at hu; rcases hu with rfl | rfl | rfl <;> rfl
theorem entry_elem : ElemOf Tryz.prog 40 77 3 24 := .mk' Tryz.underlying40 (z := .agg #[.int .i64 0, .int .i64 0, .int .i64 0]) (by kernel_rfl) rfl (by omega)

def amountB (n : Int) : Bool := decide (-100000000 ≤ n) && decide (n ≤ 100000000)
def entryE (x : Entry) : Int :=
  if x.kind < 1 ∨ 4 < x.kind then 7 else
  if x.day < 0 ∨ 9999 < x.day ∨ x.amount < -100000000 ∨ 100000000 < x.amount then 3 else
  if x.amount < 0 ∧ (x.kind = 1 ∨ x.kind = 3) ∨ 0 < x.amount ∧ x.kind = 2 then 4 else 0

theorem amount_any (n : Int) (w : World) : Calls Tryz.prog 172 #[.int .i64 n] w fun e w' => e = .returned (.bool (amountB n)) ∧ w = w' := by
  go_enter Tryz.func172, Tryz.ntmps172
  go_wp2
  all_goals go_ret
  all_goals exact ⟨retB (by simp only [amountB]; simp; omega), rfl⟩

set_option maxHeartbeats 1000000 in
theorem entry_any (d k m : Int) (w : World) :
    Calls Tryz.prog 170 #[.agg #[.int .i64 d, .int .i64 k, .int .i64 m]] w fun e w' => e = .returned (.int .i64 (entryE ⟨d, k, m⟩)) ∧ Below w.heap.size w w' := by
  go_enter Tryz.func170, Tryz.ntmps170
  go_wp2
  all_goals go_ret
  all_goals refine ⟨retI ?_, (Below.refl _ _).alloc (Nat.le_refl _) _⟩
  all_goals (try simp at *)
  all_goals unfold entryE
  all_goals dsimp only
  all_goals (repeat' split)
  all_goals omega

def sumBy (p : Int → Bool) (l : List Entry) : Int := ((l.filter fun x => p x.kind).map (·.amount)).sum
/-- Amounts that do not go beyond 10^10 each, of no more than 1000 entries. -/
def Small (l : List Entry) : Prop := l.length ≤ 1000 ∧ ∀ x ∈ l, -10000000000 ≤ x.amount ∧ x.amount ≤ 10000000000

theorem sumBy_bd (p : Int → Bool) (l : List Entry) (h : ∀ x ∈ l, -10000000000 ≤ x.amount ∧ x.amount ≤ 10000000000) : -10000000000 * (l.length : Int) ≤ sumBy p l ∧ sumBy p l ≤ 10000000000 * (l.length : Int) := by
  induction l with
  | nil => simp [sumBy]
  | cons x l ih =>
    have h1 := h x (by simp)
    have h2 := ih fun y hy => h y (by simp [hy])
    simp only [sumBy, List.filter_cons] at h2 ⊢
    by_cases hp : p x.kind <;> simp [hp] <;> omega
theorem sumBy_snoc (p : Int → Bool) (l : List Entry) (x : Entry) : sumBy p (l ++ [x]) = sumBy p l + if p x.kind then x.amount else 0 := by
  simp only [sumBy, List.filter_append, List.map_append, List.sum_append, List.filter_cons, List.filter_nil]
  by_cases hp : p x.kind <;> simp [hp]
theorem sumBy_append (p : Int → Bool) (l m : List Entry) : sumBy p (l ++ m) = sumBy p l + sumBy p m := by
  simp [sumBy, List.filter_append]
theorem Small.take {l : List Entry} (h : Small l) (k : Nat) (p : Int → Bool) : -10000000000000 ≤ sumBy p (l.take k) ∧ sumBy p (l.take k) ≤ 10000000000000 := by
  have := sumBy_bd p (l.take k) fun x hx => h.2 x (List.mem_of_mem_take hx)
  have h1 : (l.take k).length ≤ 1000 := Nat.le_trans (List.length_take_le' _ _) h.1
  omega
theorem Small.sum {l : List Entry} (h : Small l) (p : Int → Bool) : -10000000000000 ≤ sumBy p l ∧ sumBy p l ≤ 10000000000000 := by
  have := h.take l.length p
  rwa [List.take_length] at this


set_option maxHeartbeats 1000000 in
theorem Sum_any (A : Option Addr) (n cap : Nat) (l : List Entry) (g : Nat) (lb : Array Value) (p : Int → Bool) (w : World) (h : Sl entryC 3 w All A n cap l) (hs : Small l)
    (eg : ∀ args w, (callFunc g args).run Tryz.prog w = .ok (.enter g args) w)
    (hp : ∀ (k : Int) (w : World), Calls Tryz.prog g (#[.int .i64 k] ++ lb) w fun e w' => e = .returned (.bool (p k)) ∧ w = w') :
    Calls Tryz.prog 161 #[.slice A n cap, .func (.func g) #[] lb] w fun e w' => e = .returned (.int .i64 (sumBy p l)) ∧ Below w.heap.size w w' := by
  have Hp := Lib.hid hp
  clear hp
  have hbd := h.bd
  go_enter Tryz.func161, Tryz.ntmps161
  go_wp2_with fail
  go_loopg [5, 10] n (fun gk s i wr => ∃ k : Nat, k ≤ n ∧ n - k ≤ gk ∧ i = .int .i64 k ∧ s = .int .i64 (sumBy p (l.take k)) ∧ Below w.heap.size w wr)
  case atStart => exact ⟨0, Nat.zero_le _, by omega, rfl, rfl, Below.refl _ _⟩
  case round =>
    obtain ⟨k, hk, hgk, rfl, rfl, hb⟩ := hrel
    by_cases hlt : k < n
    · obtain ⟨b, off, x, c0, c1, c2, rfl, hx, ⟨hc, b0, b1, b2⟩, g0, g1, g2⟩ := (h.below entryC_good (by omega) hb).at3 hlt
      simp only [List.cons.injEq, and_true] at hc
      obtain ⟨rfl, rfl, rfl⟩ := hc
      have s1 := hs.take k p
      have HS := Lib.hid (sumBy_snoc p (l.take k) x)
      have HT := Lib.hid (take_snoc hx)
      have s3 := hs.2 x (List.mem_of_getElem? hx)
      clear hx
      have hcall := Hp.out x.kind
      cases hq : p x.kind with
      | true =>
        rw [hq] at hcall
        go_wp2_with (go_at_fn g; refine (hcall _).mono ?_; rintro e w' ⟨rfl, rfl⟩)
        go_roundg (n - (k + 1))
        case measure => omega
        case rel => exact ⟨k + 1, by omega, by omega, by go_num, by rw [HT.out, HS.out, hq]; rfl, hb.alloc hb.size _⟩
      | false =>
        rw [hq] at hcall
        go_wp2_with (go_at_fn g; refine (hcall _).mono ?_; rintro e w' ⟨rfl, rfl⟩)
        go_roundg (n - (k + 1))
        case measure => omega
        case rel => exact ⟨k + 1, by omega, by omega, by go_num, by rw [HT.out, HS.out, hq]; simp, hb.alloc hb.size _⟩
    · have : k = n := by omega
      subst this
      have HT := Lib.hid (List.take_of_length_le (Nat.le_of_eq h.len))
      go_wp2_with fail
      go_ret
      exact ⟨retI (by rw [HT.out]), hb⟩
end Go.Proofs.YtlablioefblmkaaGreat
/-
  Folios: the contracts of Fares, Due, slices.Clone of a folio.
-/
namespace Go.Proofs.YtlablioefblmkaaGreat
open Go.RowKit Go.Shelf

def isFare (k : Int) : Bool := k == 1 || k == 4
def faresOf (l : List Entry) : Int := sumBy isFare l
def dueOf (l : List Entry) : Int := sumBy (fun _ => true) l

theorem all_any (k : Int) (w : World) : Calls Tryz.prog 162 #[.int .i64 k] w fun e w' => e = .returned (.bool true) ∧ w = w' := by
  go_enter Tryz.func162, Tryz.ntmps162
  go_wp2
  go_ret
  exact ⟨rfl, rfl⟩
theorem isFare_any (k : Int) (w : World) : Calls Tryz.prog 197 #[.int .i64 k] w fun e w' => e = .returned (.bool (isFare k)) ∧ w = w' := by
  go_enter Tryz.func197, Tryz.ntmps197
  go_wp2
  all_goals go_ret
  all_goals exact ⟨retB (by simp_all [isFare]), rfl⟩

theorem Fares_any (A : Option Addr) (n cap : Nat) (l : List Entry) (w : World) (h : Sl entryC 3 w All A n cap l) (hs : Small l) :
    Calls Tryz.prog 164 #[.slice A n cap] w fun e w' => e = .returned (.int .i64 (faresOf l)) ∧ Below w.heap.size w w' := by
  go_enter Tryz.func164, Tryz.ntmps164
  go_wp2_with (go_at_call 161; refine (Sum_any A n cap l 197 #[] isFare _ h hs (enters_of Tryz.func197 (by kernel_rfl) rfl) (fun k w => by simpa using isFare_any k w)).mono ?_; rintro e w' ⟨rfl, hb⟩)
  go_ret
  exact ⟨rfl, hb⟩
theorem Due_any (A : Option Addr) (n cap : Nat) (l : List Entry) (w : World) (h : Sl entryC 3 w All A n cap l) (hs : Small l) :
    Calls Tryz.prog 96 #[.slice A n cap] w fun e w' => e = .returned (.int .i64 (dueOf l)) ∧ Below w.heap.size w w' := by
  go_enter Tryz.func96, Tryz.ntmps96
  go_wp2_with (go_at_call 161; refine (Sum_any A n cap l 162 #[] (fun _ => true) _ h hs (enters_of Tryz.func162 (by kernel_rfl) rfl) (fun k w => by simpa using all_any k w)).mono ?_; rintro e w' ⟨rfl, hb⟩)
  go_ret
  exact ⟨rfl, hb⟩

set_option maxHeartbeats 1000000 in
theorem Clone_entry (A : Option Addr) (n cap : Nat) (l : List Entry) (w : World) (h : Sl entryC 3 w All A n cap l) (hn : n ≤ 1000000000) :
    Calls Tryz.prog 168 #[.slice A n cap] w fun e w' => ∃ v xs, e = .returned v ∧ Own entryC 3 77 w' w.heap.size v l xs ∧ Below w.heap.size w w' := by
  have hnil := fun (W : World) (a : Option Addr) => Lib.run_eql_slice_nil (P := Tryz.prog) W 40 77 a n cap 0 0 Tryz.underlying40
  rcases A with _ | a
  · have hl : l = [] := by
      rcases l with _ | ⟨x, l⟩
      · rfl
      · obtain ⟨b, off, cs, hA, _⟩ := h.rd 0 x rfl
        cases hA
    subst hl
    go_enter Tryz.func168, Tryz.ntmps168
    go_wp2
    go_ret
    exact ⟨_, _, rfl, Own.nil _ _ _ _ _, Below.refl _ _⟩
  · go_enter Tryz.func168, Tryz.ntmps168
    go_wp2_with (at_builtin; refine list_app (t := 40) (e := 77) (bytes := 24) rfl (.tmp 5) (.tmp 6) rfl entry_elem entryC_good rfl (Own.made w entryC 3 77 w.heap.size #[] 0 (Nat.le_refl _) (by simp [maxLen]) rfl) rfl (h.below entryC_good (by omega) ((Below.refl _ _).alloc (Nat.le_refl _) _)) (fun _ _ hc => hc) (by simp; omega) (by omega) (by simp) ?_; intro v' w' xs' hown hg _)
    go_ret
    exact ⟨_, _, rfl, hown, below_app (Below.alloc (Below.refl _ _) (Nat.le_refl _) _) (Own.made w entryC 3 77 w.heap.size #[] 0 (Nat.le_refl _) (by simp [maxLen]) rfl) hg (by simp)⟩
end Go.Proofs.YtlablioefblmkaaGreat
/-
  Folios: the iterator over the sums ('sums'), and the contract of Check.
-/
namespace Go.Proofs.YtlablioefblmkaaGreat
open Go.RowKit Go.Shelf

attribute [local go_sem] Oper.semAt_some

/-- The sums up to each of the first k entries. -/
def pref (l : List Entry) (k : Nat) : List Int := (List.range k).map fun j => dueOf (l.take (j + 1))
theorem pref_succ (l : List Entry) (k : Nat) : pref l (k + 1) = pref l k ++ [dueOf (l.take (k + 1))] := by simp [pref, List.range_succ]
theorem pref_length (l : List Entry) (k : Nat) : (pref l k).length = k := by simp [pref]

theorem dueOf_snoc (l : List Entry) (x : Entry) : dueOf (l ++ [x]) = dueOf l + x.amount := by simp [dueOf, sumBy_snoc]

theorem sums_any (A : Option Addr) (n cap : Nat) (w : World) :
    Calls Tryz.prog 171 #[.slice A n cap] w fun e w' => e = .returned (.func (.func 200) #[] #[.pointer (some ⟨w.heap.size, 0, none⟩)]) ∧ w.alloc (.cells #[.slice A n cap] 40) = w' := by
  go_enter Tryz.func171, Tryz.ntmps171
  go_wp2
  go_ret
  exact ⟨rfl, rfl⟩

set_option maxRecDepth 100000 in
set_option maxHeartbeats 2000000 in
theorem sums1_in (F : Fence) (m : Nat) (hF : F.fn 200) (hro : F.round = none) (hm : 1 ≤ m) (l Bs n₀ : Nat) (A : Option Addr) (n cap : Nat) (es : List Entry) (hs : Small es) (J Jx : List Int → World → Prop)
    (W : World) (hn₀ : n₀ ≤ W.heap.size) (hJ : AbidesFrom W.heap.size J)
    (hY : ∀ pre x W1, J pre W1 → pre.length < n → YieldAt F (m - 1) Tryz.prog l #[.int .i64 x] W1 fun e W' =>
      (e = .returned (.bool true) ∧ J (pre ++ [x]) W' ∧ Below n₀ W1 W') ∨ (e = .returned (.bool false) ∧ Jx (pre ++ [x]) W'))
    (hBs : W.cell? ⟨Bs, 0, none⟩ = some (.slice A n cap)) (hc : Sl entryC 3 W (fun b => b < n₀) A n cap es) (h0 : J [] W) :
    CallsIn F m Tryz.prog 200 #[.func (.yield l) #[] #[], .pointer (some ⟨Bs, 0, none⟩)] W fun e W' => (∃ v, e = .returned v) ∧
      ((∃ ys, ys = pref es n ∧ J ys W') ∨ (∃ pre, (∃ k, k < n ∧ pre = pref es (k + 1)) ∧ Jx pre W')) := by
  have hbd := hc.bd
  refine callsIn_of_wp Tryz.func200 rfl hF ?_ hro
  simp only [Tryz.ntmps200, List.size_toArray, List.length_cons, List.length_nil, Nat.reduceAdd, Nat.reduceSub, Array.replicate_succ, Array.replicate_zero, List.push_toArray, List.append_toArray, List.nil_append, List.cons_append]
  gi_wp2
  gi_loopw [3, 8] (fun s i wr => ∃ k : Nat, k ≤ n ∧ i = .int .i64 k ∧ s = .int .i64 (dueOf (es.take k)) ∧ J (pref es k) wr ∧ Below n₀ W wr)
    (fun _ i _ => n - (intOf i).toNat)
  case atStart => exact ⟨0, Nat.zero_le _, rfl, rfl, h0, Below.refl _ _⟩
  case round =>
    obtain ⟨k, hk, rfl, rfl, hJs, hnx⟩ := hrel
    by_cases hlt : k < n
    · obtain ⟨b, off, x, c0, c1, c2, rfl, hx, ⟨hc0, b0, b1, b2⟩, g0, g1, g2⟩ := (hc.keep (w' := wr) (S' := All) entryC_good (by omega) (fun b hS hl => ⟨hnx.block b hS, trivial⟩)).at3 hlt
      simp only [List.cons.injEq, and_true] at hc0
      obtain ⟨rfl, rfl, rfl⟩ := hc0
      have hJ2 : J (pref es k) (wr.alloc (.cells #[.int .i64 x.day, .int .i64 x.kind, .int .i64 x.amount] 77)) := hJ _ wr _ none hJs (World.grownBy_alloc _ _ _) (by simp)
      have HD := Lib.hid ((congrArg dueOf (take_snoc hx)).trans (dueOf_snoc (es.take k) x))
      have s1 := hs.take k (fun _ => true)
      have s1' : -10000000000000 ≤ dueOf (es.take k) ∧ dueOf (es.take k) ≤ 10000000000000 := s1
      have s3 := hs.2 x (List.mem_of_getElem? hx)
      have HP := Lib.hid (pref_succ es k)
      obtain ⟨fn, tmps, assign, body, hy, hR⟩ := hY _ (dueOf (es.take k) + x.amount) _ hJ2 (by rw [pref_length]; exact hlt)
      clear hx s1
      gi_wp2
      refine hR.mono ?_
      rintro e W3 (⟨rfl, hJ3, hk3⟩ | ⟨rfl, hJx3⟩)
      · gi_wp2
        go_roundw
        case rel => exact ⟨k + 1, by omega, by simp, by rw [HD.out], by rw [HP.out, HD.out]; exact hJ3, (hnx.alloc (Nat.le_trans hn₀ hnx.size) _).trans hk3⟩
        case measure => simp [intOf]; omega
      · gi_wp2
        refine bodyPost_ret (results_none rfl _ _ _) rfl ?_
        exact ⟨⟨_, rfl⟩, .inr ⟨_, ⟨k, hlt, rfl⟩, by rw [HP.out, HD.out]; exact hJx3⟩⟩
    · obtain rfl : k = n := by omega
      gi_wp2
      go_end0
      exact ⟨⟨_, rfl⟩, .inl ⟨_, rfl, hJs⟩⟩

theorem sums_stops (F : Fence) (m : Nat) (hF : F.fn 200) (hro : F.round = none) (hm : 1 ≤ m) (Bs n₀ : Nat) (A : Option Addr) (n cap : Nat) (es : List Entry) (hs : Small es) (w : World) (hn₀ : n₀ ≤ w.heap.size)
    (hBs : w.cell? ⟨Bs, 0, none⟩ = some (.slice A n cap)) (hc : Sl entryC 3 w (fun b => b < n₀) A n cap es) :
    SeqStopsK F m Tryz.prog 200 #[.pointer (some ⟨Bs, 0, none⟩)] (fun x : Int => #[Value.int .i64 x]) (Below n₀) (fun ys => ys = pref es n) (fun pre => ∃ k, k < n ∧ pre = pref es (k + 1)) n w := fun l J Jx W hW hJ _ hY h0 => by
  have hlt : Bs < w.heap.size := cell_lt hBs
  exact sums1_in F m hF hro hm l Bs n₀ A n cap es hs J Jx W (Nat.le_trans hn₀ hW.size) hJ hY ((hW.cell (p := ⟨Bs, 0, none⟩) hlt).trans hBs)
    (hc.keep entryC_good (by omega) (fun b hS hl => ⟨hW.block b hl, hS⟩)) h0
end Go.Proofs.YtlablioefblmkaaGreat
/-
  Folios: the contract of Check.
-/
namespace Go.Proofs.YtlablioefblmkaaGreat
open Go.RowKit Go.Shelf

attribute [local go_sem] Oper.semAt_some

def errAt (l : List Entry) (i : Nat) : Int :=
  if entryE (l[i]?.getD default) ≠ 0 then entryE (l[i]?.getD default) else
  if 0 < i ∧ (l[i]?.getD default).day < (l[i - 1]?.getD default).day then 4 else 0
def sumErr (l : List Entry) (i : Nat) : Int := if amountB (dueOf (l.take (i + 1))) then 0 else 3
/-- What Check answers. -/
def checkFolio (l : List Entry) : Int :=
  if 12 < l.length then 2 else
  if firstErr (errAt l) l.length ≠ 0 then firstErr (errAt l) l.length else firstErr (sumErr l) l.length

theorem leavesM_ret {F : Fence} {n : Nat} {P : Program} {fn : Func} {R : Ending → World → Prop} {a : Act} {w : World} {v : Value} (hd : a.defers = []) (hr : (results fn a.tmps).run P w = .ok v w) (h : R (.returned v) w) :
    bodyPostM F n P fn R .ret a w := by
  show LeavesInM F n P fn a.tmps R a.defers .returning w
  rw [hd]
  exact ⟨v, hr, h⟩

theorem cell_new_l (w : World) (v : Value) (t : TypeId) : (w.alloc (.cells #[v] t)).cell? ⟨w.heap.size, 0, none⟩ = some v ∧ (w.alloc (.cells #[v] t)).frozen? ⟨w.heap.size, 0, none⟩ = false := by
  constructor <;> simp

theorem amountB_of_entry {x : Entry} (h : entryE x = 0) : -100000000 ≤ x.amount ∧ x.amount ≤ 100000000 := by
  unfold entryE at h
  by_cases h1 : x.kind < 1 ∨ 4 < x.kind
  · rw [if_pos h1] at h; omega
  · rw [if_neg h1] at h
    by_cases h2 : x.day < 0 ∨ 9999 < x.day ∨ x.amount < -100000000 ∨ 100000000 < x.amount
    · rw [if_pos h2] at h; omega
    · omega

theorem small_of_check {l : List Entry} (hl : l.length ≤ 12) (h : firstErr (errAt l) l.length = 0) : Small l := by
  refine ⟨by omega, fun x hx => ?_⟩
  obtain ⟨i, hi, rfl⟩ := List.getElem_of_mem hx
  have hall : ∀ n, firstErr (errAt l) n = 0 → ∀ i, i < n → errAt l i = 0 := by
    intro n
    induction n with
    | zero => intro _ i hi; omega
    | succ n ih =>
      intro h i hi
      simp only [firstErr] at h
      by_cases e : firstErr (errAt l) n = 0
      · rw [if_pos e] at h
        by_cases e2 : i = n
        · rw [e2]; exact h
        · exact ih e i (by omega)
      · rw [if_neg e] at h; exact absurd h e
  have h0 := hall _ h i hi
  have : entryE (l[i]?.getD default) = 0 := by
    unfold errAt at h0
    by_cases e : entryE (l[i]?.getD default) = 0
    · exact e
    · rw [if_pos e] at h0; exact h0
  rw [List.getElem?_eq_getElem hi, Option.getD_some] at this
  have := amountB_of_entry this
  omega

theorem Sl.lastBlock {w : World} {A : Option Addr} {n cap : Nat} {l : List Entry} (h : Sl entryC 3 w All A n cap l) : Sl entryC 3 w (fun b => b < w.heap.size) A n cap l :=
  h.keep entryC_good (by omega) fun _ _ hlt => ⟨rfl, hlt⟩

theorem sums_ok (l : List Entry) : ∀ k, (∀ s ∈ pref l k, amountB s = true) → firstErr (sumErr l) k = 0 := by
  intro k
  induction k with
  | zero => intro _; rfl
  | succ k ih =>
    intro h
    rw [pref_succ] at h
    rw [firstErr_succ (ih fun s hs => h s (by simp [hs]))]
    unfold sumErr
    rw [h _ (by simp)]
    rfl
theorem checkFolio_sums {l : List Entry} (h : ¬ 12 < l.length) (h1 : firstErr (errAt l) l.length = 0) : checkFolio l = firstErr (sumErr l) l.length := by
  unfold checkFolio
  rw [if_neg h, if_neg (by rw [h1]; simp)]

set_option maxRecDepth 100000 in
set_option maxHeartbeats 4000000 in
theorem Check_any (A : Option Addr) (n cap : Nat) (l : List Entry) (w : World) (h : Sl entryC 3 w All A n cap l) :
    Calls Tryz.prog 107 #[.slice A n cap] w fun e w' => e = .returned (.int .i64 (checkFolio l)) ∧ Below w.heap.size w w' := by
  have hbd := h.bd
  have hlen := Lib.hid h.len
  refine callsIn_wide.1 (callsIn_of_wp_marks (n := 9) Tryz.func107 rfl trivial ?_ rfl)
  simp only [Tryz.ntmps107, List.size_toArray, List.length_cons, List.length_nil, Nat.reduceAdd, Nat.reduceSub, Array.replicate_succ, Array.replicate_zero, List.push_toArray, List.append_toArray, List.nil_append, List.cons_append]
  refine wpIn_wide.2 ?_
  by_cases hn : 12 < n
  · have hn' : (12 : Int) < (n : Int) := by omega
    go_wp2_with fail
    refine leavesM_ret rfl (v := .int .i64 2) (by simp [results, Tryz.f107, go_sem]) ⟨retI ?_, ?_⟩
    · unfold checkFolio; rw [hlen.out, if_pos hn]
    · exact ((Below.refl _ _).alloc (Nat.le_refl _) _)
  · have hn' : ¬ (12 : Int) < (n : Int) := by omega
    go_wp2_with fail
    go_loopg [12] n (fun gk i wr => ∃ k : Nat, k ≤ n ∧ n - k ≤ gk ∧ i = .int .i64 k ∧ Aside (firstErr (errAt l) k = 0) ∧ Below w.heap.size w wr ∧ w.heap.size < wr.heap.size ∧ wr.cell? ⟨w.heap.size, 0, none⟩ = some (.int .i64 0) ∧ wr.frozen? ⟨w.heap.size, 0, none⟩ = false)
    case atStart => exact ⟨0, Nat.zero_le _, by omega, rfl, rfl, (Below.refl _ _).alloc (Nat.le_refl _) _, by simp, by simp, by simp⟩
    case round =>
      obtain ⟨k, hk, hgk, rfl, HE, hb, hlt0, hc0, hf0⟩ := hrel
      by_cases hlt : k < n
      · obtain ⟨b, off, x, c0, c1, c2, rfl, hx, ⟨hc, b0, b1, b2⟩, g0, g1, g2⟩ := (h.below entryC_good (by omega) hb).at3 hlt
        simp only [List.cons.injEq, and_true] at hc
        obtain ⟨rfl, rfl, rfl⟩ := hc
        have HX := Lib.hid hx
        clear hx
        go_wp2_with fail
        refine (entry_any _ _ _ _).mono ?_
        rintro e w1 ⟨rfl, hbe⟩
        have hc1 : w1.cell? ⟨w.heap.size, 0, none⟩ = some (.int .i64 0) := (hbe.cell (p := ⟨w.heap.size, 0, none⟩) (by simp; omega)).trans (by rw [World.cell?_alloc_lt (a := ⟨w.heap.size, 0, none⟩) wr _ hlt0]; exact hc0)
        have hf1 : w1.frozen? ⟨w.heap.size, 0, none⟩ = false := (hbe.frozen (p := ⟨w.heap.size, 0, none⟩) (by simp; omega)).trans (by rw [World.frozen?_alloc_old (a := ⟨w.heap.size, 0, none⟩) wr _ (by simp; omega)]; exact hf0)
        have hx1 : w1.cell? ⟨wr.heap.size, 0, none⟩ = some (.int .i64 x.day) := (hbe.cell (p := ⟨wr.heap.size, 0, none⟩) (by simp)).trans (by simp)
        have hb1 : Below w.heap.size w w1 := (hb.alloc hb.size _).trans (hbe.mono (by simp; omega))
        have hlt1 : w.heap.size < w1.heap.size := by have := hbe.size; simp at this; omega
        clear hbe hc0 hf0 g0 g1 g2
        obtain ⟨r, hr⟩ : ∃ r, r = entryE x := ⟨_, rfl⟩
        have HR := Lib.hid hr
        have hr' : entryE { day := x.day, kind := x.kind, amount := x.amount } = r := hr.symm
        rw [hr']
        clear hr hr'
        have fin : ∀ r : Int, errAt l k = r → r ≠ 0 → r = checkFolio l := fun r h1 h2 => by
          unfold checkFolio
          rw [hlen.out, if_neg hn]
          have := firstErr_at (n := n) HE.out (by rw [h1]; exact h2) hlt
          rw [this, h1, if_pos h2]
        have Fin := Lib.hid fin
        clear fin
        by_cases hr0 : r = 0
        · subst hr0
          have herr : (∀ y, l[k - 1]? = some y → 0 < k → errAt l k = if x.day < y.day then 4 else 0) := fun y hy h0 => by
            unfold errAt
            rw [HX.out, Option.getD_some, ← HR.out, if_neg (by simp), hy, Option.getD_some]
            by_cases e : x.day < y.day
            · rw [if_pos ⟨h0, e⟩, if_pos e]
            · rw [if_neg (fun h => e h.2), if_neg e]
          have herr0 : k = 0 → errAt l k = 0 := fun h0 => by
            unfold errAt
            rw [HX.out, Option.getD_some, ← HR.out, if_neg (by simp), if_neg (by omega)]
          have Herr := Lib.hid herr
          have Herr0 := Lib.hid herr0
          clear herr herr0
          rcases k with _ | k
          · go_wp2_with fail
            go_quiet (fail)
            go_wp2_with fail
            go_roundg (n - 1)
            case measure => omega
            case rel => exact ⟨1, by omega, by omega, rfl, (show Aside _ from (firstErr_succ HE.out).trans (Herr0.out (by trivial))), below_drewN hb1 _, hlt1, hc1, hf1⟩
          · obtain ⟨b2, off2, y, d0, d1, d2, hA2, hy, ⟨hc2, y0, y1, y2⟩, e0, e1, e2⟩ := (h.below entryC_good (by omega) hb1).at3 (show k < n by omega)
            injection hA2 with hA2
            injection hA2 with hb2 ho2 _
            subst hb2 ho2
            simp only [List.cons.injEq, and_true] at hc2
            obtain ⟨rfl, rfl, rfl⟩ := hc2
            have Hy := Lib.hid hy
            clear hy e1 e2
            have hw : IntKind.i64.wrap (k : Int) = k := IntWalk.i64_in _ (by omega)
            have hgt : decide ((0 : Int) < (k : Int) + 1) = true := decide_eq_true (by omega)
            by_cases hd : x.day < y.day
            · go_wp2_with fail
              go_quiet (fail)
              go_wp2_with fail
              refine leavesM_ret rfl (v := .int .i64 4) (by simp [results, Tryz.f107, go_sem, World.cell?_setCell_same (w := w1.drewN _) (h := hc1)]) ⟨retI (Fin.out _ ?_ (by omega)), ?_⟩
              · rw [Herr.out y (by simpa using Hy.out) (by omega), if_pos hd]
              · exact (below_drewN hb1 _).setCell (p := ⟨w.heap.size, 0, none⟩) (Nat.le_refl _) _
            · go_wp2_with fail
              go_quiet (fail)
              go_wp2_with fail
              go_roundg (n - (k + 1 + 1))
              case measure => omega
              case rel => exact ⟨k + 1 + 1, by omega, by omega, by go_num, (show Aside _ from (firstErr_succ HE.out).trans (by rw [Herr.out y (by simpa using Hy.out) (by omega), if_neg (by omega)])), below_drewN hb1 _, hlt1, hc1, hf1⟩
        · have hr1 : (r != 0) = true := by simpa using hr0
          have hr2 : ¬ r = 0 := hr0
          clear hr0
          go_wp2_with fail
          refine leavesM_ret rfl (v := .int .i64 r) (by simp [results, Tryz.f107, go_sem, World.cell?_setCell_same (h := hc1)]) ⟨retI (Fin.out _ ?_ hr2), ?_⟩
          · unfold errAt
            rw [HX.out, Option.getD_some, ← HR.out, if_pos hr2]
          · exact hb1.setCell (p := ⟨w.heap.size, 0, none⟩) (Nat.le_refl _) _
      · obtain rfl : k = n := by omega
        have hsm := small_of_check (l := l) (by rw [hlen.out]; omega) (by rw [hlen.out]; exact HE.out)
        have h1 := h.lastBlock
        go_wp2_with (go_at_call 171; refine (sums_any _ _ _ _).mono ?_; rintro e w' ⟨rfl, rfl⟩)
        have hB0 : Below w.heap.size w (wr.alloc (.cells #[.slice A k cap] 40)) := hb.alloc hb.size _
        have c2 := cell_new_l wr (.slice A k cap) 40
        have hsl := (h.below entryC_good (by omega) hb).lastBlock.keep (w' := wr.alloc (.cells #[.slice A k cap] 40)) (S' := fun b => b < wr.heap.size) entryC_good (by omega) (fun b hS _ => ⟨Below.heap_alloc _ _ _ hS, hS⟩)
        refine (wpIn_wide (n := 9)).1 ?_
        refine wpIn_rangeFunc_ownF rfl (by omega) (gf := 200) (lb := #[.pointer (some ⟨wr.heap.size, 0, none⟩)]) rfl trivial (enters_of Tryz.func200 (by kernel_rfl) rfl)
          (sums_stops Fence.wide 8 trivial rfl (by omega) wr.heap.size wr.heap.size A k cap l hsm _ (by simp) c2.1 hsl) belowK_t (belowK_b (by simp)) (Below.refl _ _) (fun _ => rfl)
          (fun pre W => ((∀ s ∈ pre, amountB s = true) ∧ W.cell? ⟨w.heap.size, 0, none⟩ = some (.int .i64 0) ∧ W.frozen? ⟨w.heap.size, 0, none⟩ = false) ∧ Below w.heap.size w W)
          (fun c pre W => (c = .ret ∧ (∃ p s, pre = p ++ [s] ∧ (∀ q ∈ p, amountB q = true) ∧ amountB s = false) ∧ W.cell? ⟨w.heap.size, 0, none⟩ = some (.int .i64 3)) ∧ Below w.heap.size w W)
          (OwnFrom.and (Go.Own.from (fun s A B row hs hg hr => ⟨hs.1, cell_kept hs.2.1 hg hr, (frozen_kept hs.2.1 hg hr).trans hs.2.2⟩) _) (ownFrom_below (Nat.le_refl _) (by simp; omega)))
          (fun c => OwnFrom.and (Go.Own.from (fun s A B row hs hg hr => ⟨hs.1, hs.2.1, cell_kept hs.2.2 hg hr⟩) _) (ownFrom_below (Nat.le_refl _) (by simp; omega)))
          ⟨⟨by simp, by rw [World.cell?_alloc_lt (a := ⟨w.heap.size, 0, none⟩) wr _ hlt0]; exact hc0, by rw [World.frozen?_alloc_old (a := ⟨w.heap.size, 0, none⟩) wr _ (by simp; omega)]; exact hf0⟩, hB0⟩
          ?a1 ?assign ?body ?done ?stop
        case assign =>
          intro l x W K hK
          gi_wp2
          exact hK
        case body =>
          rintro l pre x W ⟨⟨hp, hcr, hfr⟩, hB⟩ _
          cases hq : amountB x with
          | true =>
            have hq' := Lib.hid hq
            clear hq
            gi_wp2_with (refine ⟨trivial, ?_⟩; gi_at_call 172; refine (CallsIn.inRound l (callsIn_wide.2 (amount_any _ _))).mono ?_; rintro e w' ⟨rfl, rfl⟩; rw [hq'.out])
            exact ⟨KeepsOthers.refl _, Below.refl _ _, ⟨fun y hy => (List.mem_append.1 hy).elim (hp y) (fun e => by simp at e; subst e; exact hq'.out), hcr, hfr⟩, hB⟩
          | false =>
            have hq' := Lib.hid hq
            clear hq
            gi_wp2_with (refine ⟨trivial, ?_⟩; gi_at_call 172; refine (CallsIn.inRound l (callsIn_wide.2 (amount_any _ _))).mono ?_; rintro e w' ⟨rfl, rfl⟩; rw [hq'.out])
            exact ⟨KeepsOthers.setCell _ _ _, ⟨rfl, ⟨pre, x, rfl, hp, hq'.out⟩, World.cell?_setCell_same _ _ _ hcr⟩, hB.setCell (p := ⟨w.heap.size, 0, none⟩) (Nat.le_refl _) _⟩
        case done =>
          rintro D ys W hD rfl ⟨⟨hne, hcr, hfr⟩, hB⟩ hK
          have HN := Lib.hid hne
          clear hne
          go_wp2_with fail
          have hK' := (KeepsOthers.setCell W ⟨w.heap.size, 0, none⟩ (.int .i64 0)).same D _ hK rfl
          refine ⟨by simp, .inl ⟨_, _, rfl, run_takeDeferred hK', ?_⟩⟩
          have hc5 := cell_kept (World.cell?_setCell_same (v := .int .i64 0) (h := hcr)) (grownBy_putObj' _ D (.deferred none)) (fun r e => by cases e; exact ⟨_, hK', rfl⟩)
          refine ⟨.int .i64 0, ?_, retI ?_, (hB.setCell (p := ⟨w.heap.size, 0, none⟩) (Nat.le_refl _) _).trans (belowK_b (w := w) (Nat.le_refl _) _ D _ _ (by simp at hD; omega) hK' rfl rfl)⟩
          · simp [results, Tryz.f107, go_sem, hc5]
          · rw [checkFolio_sums (by rw [hlen.out]; exact hn) (by rw [hlen.out]; exact HE.out), hlen.out, sums_ok _ _ HN.out]
        case stop =>
          rintro D c pre W hD hpre ⟨⟨rfl, hin, hcr⟩, hB⟩ hK
          have HP := Lib.hid hpre
          have HI := Lib.hid hin
          clear hpre hin
          gi_wp2
          refine ⟨by simp, .inl ⟨_, _, rfl, run_takeDeferred hK, ?_⟩⟩
          have hc5 := cell_kept hcr (grownBy_putObj' _ D (.deferred none)) (fun r e => by cases e; exact ⟨_, hK, rfl⟩)
          refine ⟨.int .i64 3, ?_, retI ?_, hB.trans (belowK_b (w := w) (Nat.le_refl _) W D _ _ (by simp at hD; omega) hK rfl rfl)⟩
          · simp [results, Tryz.f107, go_sem, hc5]
          · rw [checkFolio_sums (by rw [hlen.out]; exact hn) (by rw [hlen.out]; exact HE.out), hlen.out]
            obtain ⟨j, hj, rfl⟩ := HP.out
            obtain ⟨p, s, he, hp, hs⟩ := HI.out
            rw [pref_succ] at he
            obtain ⟨he1, he2⟩ := List.append_inj' he rfl
            injection he2 with he2
            subst he1 he2
            have hj0 : sumErr l j = 3 := by unfold sumErr; rw [hs]; rfl
            rw [firstErr_at (sums_ok _ _ hp) (by rw [hj0]; omega) hj, hj0]
end Go.Proofs.YtlablioefblmkaaGreat
