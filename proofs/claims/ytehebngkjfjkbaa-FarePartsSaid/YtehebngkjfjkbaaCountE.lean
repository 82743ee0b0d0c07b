/-
  Counts: the references MoreOf, PeakOf, SameInts, and the laws' helper intsAre.
-/
import Derived.Test.YtehebngkjfjkbaaCountD
namespace Go.Proofs.Ytehebngkjfjkbaa
open Go.RowKit Go.Shelf

theorem sl_int (w : World) (S : Nat → Prop) (x : Int) (t : TypeId) (hx : InI x) (hS : S w.heap.size) : Sl intC 1 (w.alloc (.cells #[.int .i64 x] t)) S (some ⟨w.heap.size, 0, none⟩) 1 1 [x] :=
  Sl.lit1 w S t x [.int .i64 x] ⟨rfl, hx⟩ hS

set_option maxHeartbeats 1000000 in
theorem SameInts_any (A B : Option Addr) (n cap m cap2 : Nat) (l l2 : List Int) (w : World) (h : Sl intC 1 w All A n cap l) (h2 : Sl intC 1 w All B m cap2 l2) :
    Calls Try.prog 34 #[.slice A n cap, .slice B m cap2] w fun e w' => e = .returned (.bool (decide (l = l2))) ∧ ∃ q, w' = w.drewN q := by
  have hbd := h.bd
  have hlen := Lib.hid h.len
  have hlen2 := Lib.hid h2.len
  by_cases hnm : n = m
  · subst hnm
    go_enter Try.func34, Try.ntmps34
    go_wp2_with fail
    go_loopg [5] n (fun gk i wr => ∃ k q : Nat, k ≤ n ∧ n - k ≤ gk ∧ i = .int .i64 k ∧ Aside (∀ j, j < k → l[j]? = l2[j]?) ∧ wr = w.drewN q)
    case atStart => exact ⟨0, 0, Nat.zero_le _, by omega, rfl, fun j hj => absurd hj (by omega), rfl⟩
    case round =>
      obtain ⟨k, q, hk, hgk, rfl, HE, rfl⟩ := hrel
      by_cases hlt : k < n
      · obtain ⟨b, off, x, c0, rfl, hx, hc, g0⟩ := h.at1 hlt
        obtain ⟨hc, hw⟩ := hc
        simp only [List.cons.injEq, and_true] at hc
        obtain rfl := hc
        obtain ⟨b', off', y, d0, rfl, hy, hd, g0'⟩ := h2.at1 hlt
        obtain ⟨hd, hw'⟩ := hd
        simp only [List.cons.injEq, and_true] at hd
        obtain rfl := hd
        have HX := Lib.hid hx
        have HY := Lib.hid hy
        clear hx hy
        skip
        by_cases hxy : x = y
        · have he : (x != y) = false := by subst hxy; simp
          have HXY := Lib.hid hxy
          clear hxy
          go_wp2_with fail
          go_quiet (fail)
          go_wp2_with fail
          go_roundg (n - (k + 1))
          case measure => omega
          case rel =>
            refine ⟨k + 1, _, by omega, by omega, by go_num, (show Aside _ from fun j hj => ?_), rfl⟩
            by_cases e : j = k
            · subst e; rw [HX.out, HY.out, HXY.out]
            · exact HE.out j (by omega)
        · have he : (x != y) = true := by simpa using hxy
          have HXY := Lib.hid hxy
          clear hxy
          go_wp2_with fail
          go_quiet (fail)
          go_wp2_with fail
          go_ret
          refine ⟨retB ?_, _, World.drewN_drewN _ _ _⟩
          symm
          rw [decide_eq_false_iff_not]
          intro hll
          subst hll
          rw [HX.out] at HY
          exact HXY.out (by have := HY.out; injection this)
      · obtain rfl : k = n := by omega
        have hll : l = l2 := by
          apply List.ext_getElem?
          intro j
          by_cases hj : j < k
          · exact HE.out j hj
          · rw [List.getElem?_eq_none (by rw [hlen.out]; omega), List.getElem?_eq_none (by rw [hlen2.out]; omega)]
        have HLL := Lib.hid hll
        clear hll
        go_wp2_with fail
        go_ret
        exact ⟨retB (by rw [decide_eq_true HLL.out]), _, rfl⟩
  · have hnm' : ((n : Int) != (m : Int)) = true := by simp; omega
    have hll : ¬ l = l2 := fun e => hnm (by rw [← hlen.out, ← hlen2.out, e])
    have HLL := Lib.hid hll
    clear hll hnm
    go_enter Try.func34, Try.ntmps34
    go_wp2_with fail
    go_ret
    exact ⟨retB (by rw [decide_eq_false HLL.out]), 0, rfl⟩

/-- What intsAre answers. -/
def listIs {α : Type} [DecidableEq α] (l : List α) (e v : Int) (l2 : List α) : Bool := e == v && decide (l = okL v l2)

theorem intsAre_any (A B : Option Addr) (n cap m cap2 : Nat) (l l2 : List Int) (e0 v0 : Int) (w : World) (h : Sl intC 1 w All A n cap l) (h2 : Sl intC 1 w All B m cap2 l2) :
    Calls Try.prog 33 #[.slice A n cap, .int .i64 e0, .int .i64 v0, .slice B m cap2] w fun e w' => e = .returned (.bool (listIs l e0 v0 l2)) ∧ Below w.heap.size w w' := by
  by_cases he : e0 = v0
  · subst he
    have hee : (e0 == e0) = true := by simp
    by_cases hv : e0 = 0
    · subst hv
      have HF := Lib.hid (show listIs l 0 0 l2 = decide (l = l2) by simp [listIs, okL])
      go_enter Try.func33, Try.ntmps33
      go_wp2_with (go_at_call 34; refine (SameInts_any _ _ _ _ _ _ l l2 _ h h2).mono ?_; rintro e w' ⟨rfl, q, rfl⟩)
      go_ret
      exact ⟨retB (by rw [HF.out]), below_drewN (Below.refl _ _) _⟩
    · have hv' : (e0 != 0) = true := by simpa using hv
      have HF := Lib.hid (show listIs l e0 e0 l2 = decide (l = []) by simp [listIs, okL, hv])
      clear hv
      go_enter Try.func33, Try.ntmps33
      go_wp2_with (go_at_call 34; refine (SameInts_any _ _ _ _ _ _ l [] _ h (Sl.nil _ _ _ _)).mono ?_; rintro e w' ⟨rfl, q, rfl⟩)
      go_ret
      exact ⟨retB (by rw [HF.out]), below_drewN (Below.refl _ _) _⟩
  · have hee : (e0 == v0) = false := by simpa using he
    have HF := Lib.hid (show listIs l e0 v0 l2 = false by simp [listIs, he])
    clear he
    by_cases hv : v0 = 0
    · subst hv
      go_enter Try.func33, Try.ntmps33
      go_wp2_with fail
      go_ret
      exact ⟨retB (by rw [HF.out]), Below.refl _ _⟩
    · have hv' : (v0 != 0) = true := by simpa using hv
      clear hv
      go_enter Try.func33, Try.ntmps33
      go_wp2_with fail
      go_ret
      exact ⟨retB (by rw [HF.out]), Below.refl _ _⟩

theorem idxF_new {α : Type} {p : α → Bool} {l : List α} {k : Nat} {x : α} (hx : l[k]? = some x) (h : (l.take k).any p = false) (hp : p x = true) : idxF p (l.take (k + 1)) = (k : Int) := by
  refine idxF_at (x := x) ?_ ?_ hp
  · rw [List.take_take, Nat.min_eq_left (by omega)]; exact h
  · rw [List.getElem?_take, if_pos (by omega)]; exact hx
theorem idxF_old {α : Type} {p : α → Bool} {l : List α} {k : Nat} {x : α} (hx : l[k]? = some x) (h : (l.take k).any p = true) : idxF p (l.take (k + 1)) = idxF p (l.take k) := by
  unfold idxF
  rw [any_take_succ hx, h, take_snoc hx]
  simp only [Bool.true_or, if_true]
  rw [List.findIdx_append, if_pos (List.findIdx_lt_length.2 (by simpa using h))]

/-- Where the greatest of the first j lies. -/
def atTo (m : List Int) (f : Int) (j : Nat) : Int := if j = 0 then 0 else f + idxF (fun x => mx (m.take j) == x) (m.take j)
theorem atTo_new {m : List Int} {f x : Int} {j : Nat} (hx : m[j]? = some x) (h : mx (m.take j) < x) : mx (m.take (j + 1)) = x ∧ atTo m f (j + 1) = f + j := by
  have hm : mx (m.take (j + 1)) = x := by rw [mx_succ hx]; omega
  refine ⟨hm, ?_⟩
  unfold atTo
  rw [if_neg (by omega), hm, idxF_new hx _ (by simp)]
  rw [List.any_eq_false]
  intro y hy
  have := mx_ge hy
  simp
  omega
theorem atTo_old {m : List Int} {f x : Int} {j : Nat} (hx : m[j]? = some x) (h0 : ∀ y ∈ m, 0 ≤ y) (h : ¬ mx (m.take j) < x) : mx (m.take (j + 1)) = mx (m.take j) ∧ atTo m f (j + 1) = atTo m f j := by
  have hm : mx (m.take (j + 1)) = mx (m.take j) := by rw [mx_succ hx]; omega
  refine ⟨hm, ?_⟩
  have hj : j ≠ 0 := by
    rintro rfl
    have := h0 x (List.mem_of_getElem? hx)
    simp [mx] at h; omega
  unfold atTo
  rw [if_neg (by omega), if_neg hj, hm, idxF_old hx]
  rw [List.any_eq_true]
  refine ⟨_, mx_mem (fun y hy => h0 y (List.mem_of_mem_take hy)) ?_, by simp⟩
  intro e
  have : (m.take j).length = j := by rw [List.length_take]; have := (List.getElem?_eq_some_iff.1 hx).1; omega
  rw [e] at this; simp at this; omega

theorem seg_length {l : List Int} {f t : Nat} (ht : t ≤ l.length) : (seg l f t).length = t - f := by
  unfold seg; rw [List.length_take, List.length_drop]; simp; omega
theorem seg_at {l : List Int} {f t k : Nat} {x : Int} (hx : l[k]? = some x) (hf : f ≤ k) (ht : k < t) : (seg l f t)[k - f]? = some x := by
  unfold seg
  simp only [Int.toNat_natCast]
  rw [List.getElem?_take, if_pos (by omega), List.getElem?_drop, show f + (k - f) = k by omega]; exact hx

set_option maxHeartbeats 2000000 in
theorem PeakOf_any (A : Option Addr) (n cap : Nat) (l : List Int) (f t : Nat) (w : World) (h : Sl intC 1 w All A n cap l) (hft : f < t) (ht : t ≤ n) (hn : n ≤ 7) (h0 : l.all soulsB = true) :
    Calls Try.prog 29 #[.slice A n cap, .agg #[.int .i64 f, .int .i64 t]] w fun e w' => e = .returned (.tuple #[.int .i64 (peakV l ⟨f, t⟩), .int .i64 (peakI l ⟨f, t⟩)]) ∧ Below w.heap.size w w' := by
  have hlen := h.len
  have H0 := Lib.hid h0
  have HM := Lib.hid (fun y (hy : y ∈ seg l f t) => (soulsB_iff.1 (List.all_eq_true.1 h0 y (seg_mem hy))))
  have HL := Lib.hid (seg_length (f := f) (l := l) (t := t) (by omega))
  clear h0 hlen
  obtain ⟨m, hm⟩ : ∃ m, m = seg l f t := ⟨_, rfl⟩
  rw [← hm] at HM HL
  have HMM := Lib.hid hm
  clear hm
  have hb0 : Below w.heap.size w (w.alloc (.cells #[.int .i64 f, .int .i64 t] 40)) := (Below.refl _ _).alloc (Nat.le_refl _) _
  go_enter Try.func29, Try.ntmps29
  go_wp2_with fail
  go_loopg [6, 7, 8] t (fun gk best at_ i wr => ∃ k : Nat, f ≤ k ∧ k ≤ t ∧ t - k ≤ gk ∧ i = .int .i64 k ∧ best = .int .i64 (mx (m.take (k - f))) ∧ at_ = .int .i64 (atTo m f (k - f)) ∧ wr = w.alloc (.cells #[.int .i64 f, .int .i64 t] 40))
  case atStart => exact ⟨f, Nat.le_refl _, by omega, by omega, rfl, by simp [mx], by simp [atTo], rfl⟩
  case round =>
    obtain ⟨k, hfk, hk, hgk, rfl, rfl, rfl, rfl⟩ := hrel
    by_cases hlt : k < t
    · obtain ⟨b, off, x, c0, rfl, hx, ⟨hc, b0⟩, g0⟩ := (h.below intC_good (by omega) hb0).at1 (k := k) (by omega)
      simp only [List.cons.injEq, and_true] at hc
      subst hc
      have hs := seg_at hx hfk hlt
      rw [← HMM.out] at hs
      have HS := Lib.hid hs
      have hlo := mx_lo (m.take (k - f))
      clear hx hs
      by_cases hgt : mx (m.take (k - f)) < x
      · have HN := Lib.hid (atTo_new (f := f) HS.out hgt)
        go_wp2_with fail
        go_roundg (t - (k + 1))
        case measure => omega
        case rel => exact ⟨k + 1, by omega, by omega, by omega, by go_num, by rw [show k + 1 - f = k - f + 1 by omega, HN.out.1], by rw [show k + 1 - f = k - f + 1 by omega, HN.out.2]; go_num, rfl⟩
      · have HN := Lib.hid (atTo_old (f := f) HS.out (fun y hy => (HM.out y hy).1) hgt)
        go_wp2_with fail
        go_roundg (t - (k + 1))
        case measure => omega
        case rel => exact ⟨k + 1, by omega, by omega, by omega, by go_num, by rw [show k + 1 - f = k - f + 1 by omega, HN.out.1], by rw [show k + 1 - f = k - f + 1 by omega, HN.out.2], rfl⟩
    · have : k = t := by omega
      subst this
      have HT := Lib.hid (List.take_of_length_le (Nat.le_of_eq HL.out))
      go_wp2_with fail
      go_ret2
      refine ⟨?_, hb0⟩
      unfold atTo
      rw [if_neg (by omega), HT.out]
      unfold peakI peakV
      simp only
      rw [← HMM.out]
      rfl

set_option maxHeartbeats 2000000 in
theorem MoreOf_any (A : Option Addr) (n cap : Nat) (l : List Int) (f t : Nat) (d : Int) (w : World) (h : Sl intC 1 w All A n cap l) (ht : t ≤ 7) (hn : n ≤ 7) (h0 : l.all soulsB = true) (hd : -60 ≤ d ∧ d ≤ 60) :
    Calls Try.prog 28 #[.slice A n cap, .agg #[.int .i64 f, .int .i64 t], .int .i64 d] w fun e w' => ∃ v xs, e = .returned (.tuple #[v, .bool ((addAt l f t d).all soulsB)]) ∧ Own intC 1 3 w' w.heap.size v (addAt l f t d) xs ∧ Below w.heap.size w w' := by
  have hlen := h.len
  have HL := Lib.hid (show (addAt l f t d).length = n by rw [addAt_length]; exact hlen)
  have H0 := Lib.hid h0
  obtain ⟨L, hL⟩ : ∃ L, L = addAt l f t d := ⟨_, rfl⟩
  rw [← hL] at HL ⊢
  have HLL := Lib.hid hL
  clear hL h0 hlen
  have hb0 : Below w.heap.size w (w.alloc (.cells #[.int .i64 f, .int .i64 t] 40)) := (Below.refl _ _).alloc (Nat.le_refl _) _
  go_enter Try.func28, Try.ntmps28
  go_wp2_with fail
  go_loopg [8, 9, 10] n (fun gk out ok i wr => ∃ k : Nat, k ≤ n ∧ n - k ≤ gk ∧ i = .int .i64 k ∧ (∃ q, ok = .bool q ∧ Aside (q = (L.take k).all soulsB)) ∧ (∃ xs, Own intC 1 3 wr (w.alloc (.cells #[.int .i64 f, .int .i64 t] 40)).heap.size out (L.take k) xs) ∧ Below (w.alloc (.cells #[.int .i64 f, .int .i64 t] 40)).heap.size (w.alloc (.cells #[.int .i64 f, .int .i64 t] 40)) wr)
  case atStart => exact ⟨0, Nat.zero_le _, by omega, rfl, ⟨_, rfl, rfl⟩, ⟨_, Own.nil _ _ _ _ _⟩, Below.refl _ _⟩
  case round =>
    obtain ⟨k, hk, hgk, rfl, ⟨q, rfl, HQ⟩, ⟨xs, hown⟩, hb⟩ := hrel
    have hx0 : wr.cell? ⟨w.heap.size, 0, none⟩ = some (.int .i64 f) := cell_of_blk ((hb.block _ (by simp)).trans (blk1 _ _)) rfl
    have hx1 : wr.cell? ⟨w.heap.size, 1, none⟩ = some (.int .i64 t) := cell_of_blk ((hb.block _ (by simp)).trans (blk1 _ _)) rfl
    have hbb := hb0.trans (hb.mono hb0.size)
    by_cases hlt : k < n
    · obtain ⟨b, off, x, c0, rfl, hx, ⟨hc, b0⟩, g0⟩ := (h.below intC_good (by omega) hbb).at1 (k := k) (by omega)
      simp only [List.cons.injEq, and_true] at hc
      subst hc
      obtain ⟨A1, n1, cap1, rfl, hsl1⟩ := hown.sl intC_good
      have hxb := soulsB_iff.1 (all_at H0.out hx)
      have hbt := fun W => between_any (k : Int) f (t - 1) W
      have hLk : L[k]? = some (if (f : Int) ≤ (k : Int) ∧ (k : Int) < (t : Int) then x + d else x) := by rw [HLL.out, addAt_at, hx]; rfl
      have hlk : (L.take k).length = k := by rw [List.length_take, HL.out]; omega
      have HX := Lib.hid hx
      clear hx hsl1
      have step : ∀ y : Int, L[k]? = some y → Hid (L.take (k + 1) = L.take k ++ [y] ∧ (L.take (k + 1)).all soulsB = ((L.take k).all soulsB && soulsB y)) := fun y hy => Lib.hid ⟨take_snoc hy, by rw [take_snoc hy]; simp⟩
      have hbs := hb.size
      simp at hbs
      by_cases hin : (f : Int) ≤ (k : Int) ∧ (k : Int) < (t : Int)
      · rw [if_pos hin] at hLk
        have HS := step _ hLk
        rw [betB_true hin.1 (by omega)] at hbt
        have hb2 := fun W => between_any (x + d) 0 60 W
        have hyi : InI (x + d) := .of (by omega) (by omega)
        rw [show betB (x + d) 0 60 = soulsB (x + d) from rfl] at hb2
        clear hLk step hin
        cases q
        · go_wp2_with fail
          refine (hbt _).mono ?_
          rintro e w' ⟨rfl, rfl⟩
          go_wp2_with (at_builtin; refine list_app (t := 38) (e := 3) (bytes := 8) rfl (.tmp 37) (.tmp 39) rfl int_elem intC_good rfl (hown.below intC_good ((Below.refl _ _).alloc (Nat.le_refl _) _)) rfl (sl_int _ All _ _ hyi trivial) (fun _ _ hc => hc) (by rw [hlk]; omega) (by omega) (by simp; omega) ?_; intro v' w' xs' hown' hg' _)
          have hbn := below_app (hb.alloc hb.size (.cells #[.int .i64 (x + d)] 3)) (hown.below intC_good ((Below.refl _ _).alloc (Nat.le_refl _) _)) hg' (by simp; omega)
          go_roundg (n - (k + 1))
          case measure => omega
          case rel => exact ⟨k + 1, by omega, by omega, by go_num, ⟨_, rfl, by have h1 : false = (L.take k).all soulsB := HQ; show _ = _; rw [HS.out.2, ← h1]; rfl⟩, ⟨_, by rw [HS.out.1]; exact hown'⟩, hbn⟩
        · go_wp2_with fail
          refine (hbt _).mono ?_
          rintro e w' ⟨rfl, rfl⟩
          go_wp2_with fail
          refine (hb2 _).mono ?_
          rintro e w' ⟨rfl, rfl⟩
          go_wp2_with (at_builtin; refine list_app (t := 38) (e := 3) (bytes := 8) rfl (.tmp 37) (.tmp 39) rfl int_elem intC_good rfl (hown.below intC_good ((Below.refl _ _).alloc (Nat.le_refl _) _)) rfl (sl_int _ All _ _ hyi trivial) (fun _ _ hc => hc) (by rw [hlk]; omega) (by omega) (by simp; omega) ?_; intro v' w' xs' hown' hg' _)
          have hbn := below_app (hb.alloc hb.size (.cells #[.int .i64 (x + d)] 3)) (hown.below intC_good ((Below.refl _ _).alloc (Nat.le_refl _) _)) hg' (by simp; omega)
          go_roundg (n - (k + 1))
          case measure => omega
          case rel => exact ⟨k + 1, by omega, by omega, by go_num, ⟨_, rfl, by have h1 : true = (L.take k).all soulsB := HQ; show _ = _; rw [HS.out.2, ← h1]; rfl⟩, ⟨_, by rw [HS.out.1]; exact hown'⟩, hbn⟩
      · rw [if_neg hin] at hLk
        have HS := step _ hLk
        rw [betB_false (by omega)] at hbt
        have hb2 := fun W => between_any x 0 60 W
        have hyi : InI x := .of (by omega) (by omega)
        rw [show betB x 0 60 = soulsB x from rfl] at hb2
        clear hLk step hin
        cases q
        · go_wp2_with fail
          refine (hbt _).mono ?_
          rintro e w' ⟨rfl, rfl⟩
          go_wp2_with (at_builtin; refine list_app (t := 38) (e := 3) (bytes := 8) rfl (.tmp 37) (.tmp 39) rfl int_elem intC_good rfl (hown.below intC_good ((Below.refl _ _).alloc (Nat.le_refl _) _)) rfl (sl_int _ All _ _ hyi trivial) (fun _ _ hc => hc) (by rw [hlk]; omega) (by omega) (by simp; omega) ?_; intro v' w' xs' hown' hg' _)
          have hbn := below_app (hb.alloc hb.size (.cells #[.int .i64 (x)] 3)) (hown.below intC_good ((Below.refl _ _).alloc (Nat.le_refl _) _)) hg' (by simp; omega)
          go_roundg (n - (k + 1))
          case measure => omega
          case rel => exact ⟨k + 1, by omega, by omega, by go_num, ⟨_, rfl, by have h1 : false = (L.take k).all soulsB := HQ; show _ = _; rw [HS.out.2, ← h1]; rfl⟩, ⟨_, by rw [HS.out.1]; exact hown'⟩, hbn⟩
        · go_wp2_with fail
          refine (hbt _).mono ?_
          rintro e w' ⟨rfl, rfl⟩
          go_wp2_with fail
          refine (hb2 _).mono ?_
          rintro e w' ⟨rfl, rfl⟩
          go_wp2_with (at_builtin; refine list_app (t := 38) (e := 3) (bytes := 8) rfl (.tmp 37) (.tmp 39) rfl int_elem intC_good rfl (hown.below intC_good ((Below.refl _ _).alloc (Nat.le_refl _) _)) rfl (sl_int _ All _ _ hyi trivial) (fun _ _ hc => hc) (by rw [hlk]; omega) (by omega) (by simp; omega) ?_; intro v' w' xs' hown' hg' _)
          have hbn := below_app (hb.alloc hb.size (.cells #[.int .i64 (x)] 3)) (hown.below intC_good ((Below.refl _ _).alloc (Nat.le_refl _) _)) hg' (by simp; omega)
          go_roundg (n - (k + 1))
          case measure => omega
          case rel => exact ⟨k + 1, by omega, by omega, by go_num, ⟨_, rfl, by have h1 : true = (L.take k).all soulsB := HQ; show _ = _; rw [HS.out.2, ← h1]; rfl⟩, ⟨_, by rw [HS.out.1]; exact hown'⟩, hbn⟩
    · obtain rfl : k = n := by omega
      have HT := Lib.hid (List.take_of_length_le (Nat.le_of_eq HL.out))
      obtain ⟨A1, n1, cap1, rfl, hsl1⟩ := hown.sl intC_good
      clear hsl1
      go_wp2_with fail
      go_ret2
      exact ⟨.slice A1 n1 cap1, xs, by rw [← HT.out, ← (show q = (L.take k).all soulsB from HQ)]; rfl, by rw [← HT.out]; exact hown.mono intC_good hb0.size, hbb⟩
end Go.Proofs.Ytehebngkjfjkbaa
