/-
  Matchings: the reference's IsMatching and DoLack at what is right.
-/
import Derived.Test.YtpodgidamoiakaaMatchK
import Derived.BigQuiet
namespace Go.Proofs.Ytpodgidamoiakaa
open Go.RowKit Go.Shelf

theorem below_dn {B : Nat} {w wr : World} (h : Below B w wr) (nq : Nat) : Below B w (wr.drewN nq) := ⟨h.os, h.tape, h.output, h.size, h.block⟩
theorem Sl.e_at {w wr : World} {b off n cap k : Nat} {l : List Edg} {x : Edg} (h : Sl edgC 2 w All (some ⟨b, off, none⟩) n cap l) (hb : Below w.heap.size w wr) (hx : l[k]? = some x) :
    wr.cell? ⟨b, off + k * 2, none⟩ = some (.int .i64 x.lft) ∧ wr.cell? ⟨b, off + k * 2 + 1, none⟩ = some (.int .i64 x.rgt) := by
  have hk : k < n := by rw [← h.len]; exact (List.getElem?_eq_some_iff.1 hx).1
  obtain ⟨b2, off2, z, z0, z1, hA2, hz, hcz, q0, q1⟩ := (h.bel hb).at2 hk
  obtain ⟨hcz, _, _⟩ := hcz
  simp only [List.cons.injEq, and_true] at hcz
  obtain ⟨rfl, rfl⟩ := hcz
  injection hA2 with hA2
  injection hA2 with hA1 hA2 _
  subst hA1 hA2
  rw [hx] at hz
  injection hz with hz
  subst hz
  exact ⟨q0, q1⟩

set_option maxRecDepth 100000 in
set_option maxHeartbeats 4000000 in
theorem IsMatching_true (A : Option Addr) (n cap : Nat) (l : List Edg) (B : Option Addr) (m cap2 : Nat) (ml : List Edg) (w : World) (h : Sl edgC 2 w All A n cap l) (h2 : Sl edgC 2 w All B m cap2 ml)
    (hin : ∀ x ∈ ml, x ∈ l) (hp : ml.Pairwise (fun x y => x.lft < y.lft)) (hr : ml.Pairwise (fun x y => x.rgt ≠ y.rgt)) :
    Calls Try.prog 42 #[.slice A n cap, .slice B m cap2] w fun e w' => e = .returned (.bool true) ∧ Below w.heap.size w w' := by
  have hbd := h.bd
  have hbd2 := h2.bd
  have HSL := Lib.hid h
  have HS2 := Lib.hid h2
  have HIN := Lib.hid hin
  have HLN := Lib.hid h.len
  have HLP := Lib.hid (List.pairwise_iff_getElem.1 hp)
  have HRP := Lib.hid (List.pairwise_iff_getElem.1 hr)
  clear h h2 hin hp hr
  go_enter Try.func42, Try.ntmps42
  go_wp2_with fail
  go_loopg [5] m (fun gk i wr => ∃ k : Nat, k ≤ m ∧ m - k ≤ gk ∧ i = .int .i64 k ∧ Below w.heap.size w wr)
  case atStart => exact ⟨0, Nat.zero_le _, by omega, rfl, Below.refl _ _⟩
  case round =>
    obtain ⟨k, hk, hgk, rfl, hb⟩ := hrel
    by_cases hlt : k < m
    · obtain ⟨b, off, x, c0, c1, rfl, hx, hcs, e0, e1⟩ := (HS2.out.bel hb).at2 hlt
      obtain ⟨hcs, ix, iy⟩ := hcs
      simp only [List.cons.injEq, and_true] at hcs
      obtain ⟨rfl, rfl⟩ := hcs
      have HX := Lib.hid hx
      have HB := Lib.hid hb
      have HXL := Lib.hid (List.contains_iff_mem.2 (HIN.out x (List.mem_of_getElem? hx)))
      clear hx hb e0 e1
      obtain ⟨W3, hW3⟩ : ∃ W3, W3 = wr := ⟨_, rfl⟩
      subst hW3
      have k0 : (0 : Int) ≤ (k : Int) := Int.natCast_nonneg _
      have k1 : (k : Int) < (m : Int) := by omega
      go_wp2_with fail
      go_loopg [7, 6] n (fun gj j t wr => ∃ i : Nat, i ≤ n ∧ n - i ≤ gj ∧ j = .int .i64 i ∧ t = .bool ((l.take i).contains x) ∧ Below w.heap.size w wr)
      case atStart => exact ⟨0, Nat.zero_le _, by omega, rfl, by simp, HB.out⟩
      case round =>
        obtain ⟨i, hi, hgi, rfl, rfl, hbi⟩ := hrel
        have HBI := Lib.hid hbi
        by_cases hin : i < n
        · obtain ⟨b', off', y, d0, d1, rfl, hy, hcs, g0, g1⟩ := (HSL.out.bel hbi).at2 hin
          obtain ⟨hcs, _, _⟩ := hcs
          simp only [List.cons.injEq, and_true] at hcs
          obtain ⟨rfl, rfl⟩ := hcs
          obtain ⟨e0, e1⟩ := HS2.out.e_at hbi HX.out
          have hq := fun W => edg_eq y x W
          have HY := Lib.hid (take_snoc hy)
          have i0 : (0 : Int) ≤ (i : Int) := Int.natCast_nonneg _
          have i1 : (i : Int) < (n : Int) := by omega
          clear hy hbi
          cases hct : (l.take i).contains x
          · have HC := Lib.hid hct
            cases hyx : edgQ y x
            · rw [hyx] at hq
              have HN := Lib.hid (show (l.take (i + 1)).contains x = false by
                have h1 := of_decide_eq_false hyx
                have h2 := HC.out
                rw [HY.out]
                simp only [List.contains_eq_mem, List.mem_append, List.mem_singleton, decide_eq_false_iff_not, not_or] at h2 ⊢
                exact ⟨h2, fun e => h1 e.symm⟩)
              clear hyx hct
              go_wp2_with fail
              go_quiet (fail)
              go_wp2_with fail
              go_roundg (n - (i + 1))
              case measure => omega
              case rel => exact ⟨i + 1, by omega, by omega, by go_num, by rw [HN.out], below_dn HBI.out _⟩
            · rw [hyx] at hq
              have HN := Lib.hid (show (l.take (i + 1)).contains x = true by
                rw [HY.out, List.contains_iff_mem, of_decide_eq_true hyx]; simp)
              clear hyx hct
              go_wp2_with fail
              go_quiet (fail)
              go_wp2_with fail
              go_roundg (n - (i + 1))
              case measure => omega
              case rel => exact ⟨i + 1, by omega, by omega, by go_num, by rw [HN.out], below_dn HBI.out _⟩
          · have HN := Lib.hid (show (l.take (i + 1)).contains x = true by
              rw [HY.out, List.contains_iff_mem]
              exact List.mem_append_left _ (List.contains_iff_mem.1 hct))
            clear hct hq
            go_wp2_with fail
            go_quiet (fail)
            go_wp2_with fail
            go_roundg (n - (i + 1))
            case measure => omega
            case rel => exact ⟨i + 1, by omega, by omega, by go_num, by rw [HN.out], below_dn HBI.out _⟩
        · obtain rfl : i = n := by omega
          have hct : (l.take i).contains x = true := by rw [List.take_of_length_le (by rw [HLN.out]; omega)]; exact HXL.out
          rw [hct]
          clear hct
          obtain ⟨e0, e1⟩ := HS2.out.e_at hbi HX.out
          rcases k with _ | k
          · go_wp2_with fail
            go_quiet (fail)
            go_wp2_with fail
            go_loopg [8] 0 (fun gj j wr => j = .int .i64 0 ∧ Below w.heap.size w wr)
            case atStart => exact ⟨rfl, below_dn hbi _⟩
            case round =>
              obtain ⟨rfl, hbj⟩ := hrel
              have HBJ := Lib.hid hbj
              clear hbj
              go_wp2_with fail
              go_roundg (m - 1)
              case measure => omega
              case rel => exact ⟨1, by omega, by omega, rfl, HBJ.out⟩
          · obtain ⟨z, hz⟩ : ∃ z, ml[k]? = some z := ⟨_, List.getElem?_eq_getElem (by rw [HS2.out.len]; omega)⟩
            obtain ⟨z0, z1⟩ := HS2.out.e_at hbi hz
            have hzx : z.lft < x.lft := by
              have h1 := HX.out
              obtain ⟨g1, g2⟩ := List.getElem?_eq_some_iff.1 hz
              obtain ⟨g3, g4⟩ := List.getElem?_eq_some_iff.1 h1
              have := HLP.out k (k + 1) g1 g3 (by omega)
              rwa [g2, g4] at this
            have hw : IntKind.i64.wrap (k : Int) = k := IntWalk.i64_in _ (by omega)
            have hgt : decide ((0 : Int) < (k : Int) + 1) = true := decide_eq_true (by omega)
            have hd' : decide (x.lft ≤ z.lft) = false := decide_eq_false (by omega)
            have HBI := Lib.hid hbi
            clear hbi hzx hz
            go_wp2_with fail
            go_quiet (fail)
            go_wp2_with fail
            go_loopg [8] (k + 1) (fun gj j wr => ∃ i : Nat, i ≤ k + 1 ∧ k + 1 - i ≤ gj ∧ j = .int .i64 i ∧ Below w.heap.size w wr)
            case atStart => exact ⟨0, Nat.zero_le _, by omega, rfl, below_dn HBI.out _⟩
            case round =>
              obtain ⟨q, hq, hgq, rfl, hbj⟩ := hrel
              have HBJ := Lib.hid hbj
              by_cases hqk : q < k + 1
              · obtain ⟨y, hy⟩ : ∃ y, ml[q]? = some y := ⟨_, List.getElem?_eq_getElem (by rw [HS2.out.len]; omega)⟩
                obtain ⟨y0, y1⟩ := HS2.out.e_at hbj hy
                obtain ⟨x0, x1⟩ := HS2.out.e_at hbj HX.out
                have hne : y.rgt ≠ x.rgt := by
                  have h1 := HX.out
                  obtain ⟨g1, g2⟩ := List.getElem?_eq_some_iff.1 hy
                  obtain ⟨g3, g4⟩ := List.getElem?_eq_some_iff.1 h1
                  have := HRP.out q (k + 1) g1 g3 hqk
                  rwa [g2, g4] at this
                have hne' : (y.rgt == x.rgt) = false := by simpa using hne
                have q0 : (0 : Int) ≤ (q : Int) := Int.natCast_nonneg _
                have q1 : (q : Int) < (m : Int) := by omega
                have q2 : (q : Int) < (k : Int) + 1 := by omega
                have k2 : (0 : Int) ≤ (k : Int) + 1 := by omega
                have k3 : (k : Int) + 1 < (m : Int) := by omega
                clear hy hbj hne
                go_wp2_with fail
                go_quiet (fail)
                go_wp2_with fail
                go_roundg (k + 1 - (q + 1))
                case measure => omega
                case rel => exact ⟨q + 1, by omega, by omega, by go_num, below_dn HBJ.out _⟩
              · obtain rfl : q = k + 1 := by omega
                clear hbj
                go_wp2_with fail
                go_roundg (m - (k + 1 + 1))
                case measure => omega
                case rel => exact ⟨k + 1 + 1, by omega, by omega, by go_num, HBJ.out⟩
    · obtain rfl : k = m := by omega
      have HB := Lib.hid hb
      clear hb
      go_wp2_with fail
      go_ret
      exact ⟨rfl, HB.out⟩

/-- Which right ones of sixteen are in Q. -/
def bitV (Q : List Nat) : Array Value := ((List.range 16).map (fun r => Value.bool (decide (r ∈ Q)))).toArray
theorem bitV_at {Q : List Nat} {r : Nat} (h : r < 16) : (bitV Q)[r]? = some (.bool (decide (r ∈ Q))) := by
  unfold bitV
  rw [List.getElem?_toArray, List.getElem?_map, List.getElem?_range h]; rfl
theorem bitV_set {Q : List Nat} {r : Nat} : (bitV Q).set! r (.bool true) = bitV (Q ++ [r]) := by
  unfold bitV
  apply Array.ext'
  simp only [Array.set!_eq_setIfInBounds, List.setIfInBounds_toArray]
  apply List.ext_getElem?
  intro i
  rw [List.getElem?_set]
  simp only [List.length_map, List.length_range, List.getElem?_map]
  by_cases h : r = i
  · subst h
    by_cases hj : r < 16
    · rw [if_pos rfl, if_pos hj, List.getElem?_range hj]; simp
    · rw [if_pos rfl, if_neg hj, List.getElem?_eq_none (by simpa using hj)]; rfl
  · rw [if_neg h]
    cases hr : (List.range 16)[i]? with
    | none => rfl
    | some b =>
      have hb : b = i := by
        have h1 := (List.getElem?_eq_some_iff.1 hr).2
        simpa using h1.symm
      subst hb
      have : ¬ b = r := fun e => h e.symm
      simp [this]

set_option maxRecDepth 100000 in
set_option maxHeartbeats 4000000 in
theorem DoLack_true (left : Nat) (A : Option Addr) (n cap : Nat) (l : List Edg) (B : Option Addr) (m cap2 : Nat) (sm : List Int) (P : List Nat) (w : World) (h : Sl edgC 2 w All A n cap l) (h2 : Sl intC 1 w All B m cap2 sm)
    (hg : ∀ x ∈ l, 0 ≤ x.rgt ∧ x.rgt < 16) (hr : ∀ x ∈ sm, 0 ≤ x ∧ x < left) (hp : sm.Pairwise (fun x y => x < y)) (hP : ∀ y ∈ l, y.lft ∈ sm → y.rgt.toNat ∈ P) (hlt : P.length < sm.length) :
    Calls Try.prog 38 #[.int .i64 (left : Int), .slice A n cap, .slice B m cap2] w fun e w' => e = .returned (.bool true) ∧ Below w.heap.size w w' := by
  have hbd := h.bd
  have hbd2 := h2.bd
  have HSL := Lib.hid h
  have HS2 := Lib.hid h2
  have HG := Lib.hid hg
  have HR := Lib.hid hr
  have HLP := Lib.hid (List.pairwise_iff_getElem.1 hp)
  have HP := Lib.hid hP
  have hlm : P.length < m := by rw [← h2.len]; exact hlt
  have HQP := Lib.hid (show ∀ Q : List Nat, Q.Nodup → (∀ q ∈ Q, q ∈ P) → Q.length ≤ P.length from fun Q h1 h2 => len_sub Q P h1 h2)
  clear h h2 hg hr hp hP hlt
  go_enter Try.func38, Try.ntmps38
  go_upto_region 1 with (fail)
  go_cut [7] (fun p wx => ∃ q, p = .pointer (some ⟨q, 0, none⟩) ∧ w.heap.size ≤ q ∧ Blk wx q (bitV []) 105 ∧ Below w.heap.size w wx)
  case first =>
    go_wp2_with fail
    go_meet
    exact ⟨_, rfl, Nat.le_refl _, blk1 _ _, bel1 _ _⟩
  obtain ⟨g, rfl, hgw, hblk, hb⟩ := hcut
  have HBK := Lib.hid hblk
  have HB := Lib.hid hb
  clear hblk hb
  go_wp2_with fail
  go_loopg [9, 8] m (fun gk i c wr => ∃ (k : Nat) (Q : List Nat), k ≤ m ∧ m - k ≤ gk ∧ i = .int .i64 k ∧ c = .int .i64 Q.length ∧ Q.Nodup ∧ (∀ q ∈ Q, q ∈ P) ∧ Blk wr g (bitV Q) 105 ∧ Below w.heap.size w wr)
  case atStart => exact ⟨0, [], Nat.zero_le _, by omega, rfl, rfl, by simp, by simp, HBK.out, HB.out⟩
  case round =>
    obtain ⟨k, Q, hk, hgk, rfl, rfl, hQn, hQP, hblk, hb⟩ := hrel
    have hql := HQP.out Q hQn hQP
    by_cases hlt : k < m
    · obtain ⟨b, off, x, c0, rfl, hx, hcs, e0⟩ := (HS2.out.bel hb).at1 hlt
      obtain ⟨hcs, ix⟩ := hcs
      simp only [List.cons.injEq, and_true] at hcs
      obtain rfl := hcs
      obtain ⟨x0, x1⟩ := HR.out x (List.mem_of_getElem? hx)
      have d0 : decide (x < 0) = false := decide_eq_false (by omega)
      have d1 : decide ((left : Int) ≤ x) = false := decide_eq_false (by omega)
      have HX := Lib.hid hx
      have HXM := Lib.hid (List.mem_of_getElem? hx)
      have HQN := Lib.hid hQn
      have HQM := Lib.hid hQP
      have HBK := Lib.hid hblk
      have HB := Lib.hid hb
      have HAT := Lib.hid (show ∀ wr : World, Below w.heap.size w wr → wr.cell? ⟨b, off + k, none⟩ = some (.int .i64 x) from fun wr hb => by
        obtain ⟨b2, off2, z, z0, hA2, hz, hcz, q0⟩ := (HS2.out.bel hb).at1 hlt
        obtain ⟨hcz, _⟩ := hcz
        simp only [List.cons.injEq, and_true] at hcz
        obtain rfl := hcz
        injection hA2 with hA2
        injection hA2 with hA1 hA2 _
        subst hA1 hA2
        rw [HX.out] at hz
        injection hz with hz
        subst hz
        exact q0)
      have k0 : (0 : Int) ≤ (k : Int) := Int.natCast_nonneg _
      have k1 : (k : Int) < (m : Int) := by omega
      obtain ⟨W3, hW3⟩ : ∃ W3, W3 = wr := ⟨_, rfl⟩
      subst hW3
      clear hx x0 x1 hQn hQP hblk hb
      go_upto_region 6 with (fail)
      go_cut [45] (fun t wx => t = .bool false ∧ Blk wx g (bitV Q) 105 ∧ Below w.heap.size w wx)
      case first =>
        rcases k with _ | k
        · have hgt : decide ((0 : Int) < ((0 : Nat) : Int)) = false := rfl
          have e0' : W3.cell? ⟨b, off, none⟩ = some (.int .i64 x) := e0
          go_quiet (fail)
          go_wp2_with fail
          go_meet
          exact ⟨rfl, HBK.out, below_dn HB.out _⟩
        · obtain ⟨b2, off2, z, z0, hA2, hz, hcz, q0⟩ := (HS2.out.bel HB.out).at1 (show k < m by omega)
          obtain ⟨hcz, _⟩ := hcz
          simp only [List.cons.injEq, and_true] at hcz
          obtain rfl := hcz
          injection hA2 with hA2
          injection hA2 with hA1 hA2 _
          subst hA1 hA2
          have hzx : z < x := by
            have h1 := HX.out
            obtain ⟨g1, g2⟩ := List.getElem?_eq_some_iff.1 hz
            obtain ⟨g3, g4⟩ := List.getElem?_eq_some_iff.1 h1
            have := HLP.out k (k + 1) g1 g3 (by omega)
            rwa [g2, g4] at this
          have hw : IntKind.i64.wrap (k : Int) = k := IntWalk.i64_in _ (by omega)
          have hgt : decide ((0 : Int) < (k : Int) + 1) = true := decide_eq_true (by omega)
          have hd' : decide (x ≤ z) = false := decide_eq_false (by omega)
          clear hzx hz
          go_quiet (fail)
          go_wp2_with fail
          go_meet
          exact ⟨rfl, HBK.out, below_dn HB.out _⟩
      obtain ⟨rfl, hbl2, hb2⟩ := hcut
      have HBK2 := Lib.hid hbl2
      have HB2 := Lib.hid hb2
      clear hbl2 hb2 e0
      go_wp2_with fail
      go_loopg [10, 8] n (fun gj j c wr => ∃ (i : Nat) (Q : List Nat), i ≤ n ∧ n - i ≤ gj ∧ j = .int .i64 i ∧ c = .int .i64 Q.length ∧ Q.Nodup ∧ (∀ q ∈ Q, q ∈ P) ∧ Blk wr g (bitV Q) 105 ∧ Below w.heap.size w wr)
      case atStart => exact ⟨0, Q, Nat.zero_le _, by omega, rfl, rfl, HQN.out, HQM.out, HBK2.out, HB2.out⟩
      case round =>
        obtain ⟨i, Q2, hi, hgi, rfl, rfl, hQn, hQP, hblk, hb⟩ := hrel
        have hql2 := HQP.out Q2 hQn hQP
        have HQN2 := Lib.hid hQn
        have HQM2 := Lib.hid hQP
        have HBK3 := Lib.hid hblk
        have HB3 := Lib.hid hb
        by_cases hin : i < n
        · obtain ⟨b', off', y, y0, y1, rfl, hy, hcs, g0, g1⟩ := (HSL.out.bel hb).at2 hin
          obtain ⟨hcs, _, _⟩ := hcs
          simp only [List.cons.injEq, and_true] at hcs
          obtain ⟨rfl, rfl⟩ := hcs
          have e0 := HAT.out _ hb
          have hym := List.mem_of_getElem? hy
          obtain ⟨r0, r1⟩ := HG.out y hym
          obtain ⟨r, hr⟩ := Int.eq_ofNat_of_zero_le r0
          rw [hr] at g1
          have hr16 : r < 16 := by omega
          have gm : wr.cell? ⟨g, r, none⟩ = some (.bool (decide (r ∈ Q2))) := hblk.cell (bitV_at hr16)
          have gf := hblk.free r
          have HBS := Lib.hid (show ∀ nq, Blk ((wr.drewN nq).setCell ⟨g, r, none⟩ (.bool true)) g (bitV (Q2 ++ [r])) 105 from fun nq => by rw [← bitV_set]; exact Blk.set (w := wr.drewN nq) (j := r) hblk (.bool true))
          have HYP := Lib.hid (show y.lft = x → r ∈ P from fun e => by
            have := HP.out y hym (by rw [e]; exact HXM.out)
            rwa [hr] at this)
          have i0 : (0 : Int) ≤ (i : Int) := Int.natCast_nonneg _
          have i1 : (i : Int) < (n : Int) := by omega
          have r2 : (0 : Int) ≤ (r : Int) := Int.natCast_nonneg _
          have r3 : (r : Int) < 16 := by omega
          clear hy hblk hb hr r0 r1 hQn hQP hym
          by_cases hyx : y.lft = x
          · have hyx' : (y.lft == x) = true := by simpa using hyx
            have HRP := Lib.hid (HYP.out hyx)
            clear hyx
            cases hm : decide (r ∈ Q2)
            · rw [hm] at gm
              have HNQ := Lib.hid (of_decide_eq_false hm)
              clear hm
              go_wp2_with fail
              go_quiet (fail)
              have HSZ := Lib.hid (show (Q2 ++ [r]).length ≤ P.length from HQP.out _ (by
                rw [List.nodup_append]
                exact ⟨HQN2.out, by simp, fun a ha c hc => by simp only [List.mem_singleton] at hc; rintro rfl; subst hc; exact HNQ.out ha⟩) (fun q hq => by
                rcases List.mem_append.1 hq with hq | hq
                · exact HQM2.out q hq
                · simp only [List.mem_singleton] at hq; subst hq; exact HRP.out))
              go_wp2_with fail
              go_roundg (n - (i + 1))
              case measure => omega
              case rel => exact ⟨i + 1, Q2 ++ [r], by omega, by omega, by go_num, by
                  have := HSZ.out
                  rw [List.length_append, List.length_singleton] at this ⊢
                  go_num, by
                rw [List.nodup_append]
                exact ⟨HQN2.out, by simp, fun a ha c hc => by simp only [List.mem_singleton] at hc; rintro rfl; subst hc; exact HNQ.out ha⟩, fun q hq => by
                rcases List.mem_append.1 hq with hq | hq
                · exact HQM2.out q hq
                · simp only [List.mem_singleton] at hq; subst hq; exact HRP.out, HBS.out _, (below_dn HB3.out _).setCell (p := ⟨g, r, none⟩) hgw _⟩
            · rw [hm] at gm
              clear hm
              go_wp2_with fail
              go_quiet (fail)
              go_wp2_with fail
              go_roundg (n - (i + 1))
              case measure => omega
              case rel => exact ⟨i + 1, Q2, by omega, by omega, by go_num, rfl, HQN2.out, HQM2.out, HBK3.out, below_dn HB3.out _⟩
          · have hyx' : (y.lft == x) = false := by simpa using hyx
            clear hyx
            go_wp2_with fail
            go_quiet (fail)
            go_wp2_with fail
            go_roundg (n - (i + 1))
            case measure => omega
            case rel => exact ⟨i + 1, Q2, by omega, by omega, by go_num, rfl, HQN2.out, HQM2.out, HBK3.out, below_dn HB3.out _⟩
        · obtain rfl : i = n := by omega
          clear hblk hb hQn hQP
          go_wp2_with fail
          go_roundg (m - (k + 1))
          case measure => omega
          case rel => exact ⟨k + 1, Q2, by omega, by omega, by go_num, rfl, HQN2.out, HQM2.out, HBK3.out, HB3.out⟩
    · obtain rfl : k = m := by omega
      have HB := Lib.hid hb
      clear hb hblk hQn hQP
      have hlt3 : (Q.length : Int) < (k : Int) := by omega
      go_wp2_with fail
      go_ret
      exact ⟨rfl, HB.out⟩
end Go.Proofs.Ytpodgidamoiakaa
