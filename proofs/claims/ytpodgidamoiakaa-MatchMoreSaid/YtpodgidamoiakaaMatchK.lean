/-
  Matchings: a graph is checked, by the reference and by the program.
-/
import Derived.Test.YtpodgidamoiakaaMatchI
import Derived.Test.YtpodgidamoiakaaMatchJ
import Derived.Deep.RegionWith
import Derived.BigQuiet
namespace Go.Proofs.Ytpodgidamoiakaa
open Go.RowKit Go.Shelf

def inE (left right : Int) (x : Edg) : Bool := betB x.lft 0 (left - 1) && betB x.rgt 0 (right - 1)
def edgE (left right : Int) (l : List Edg) (i : Nat) : Int := if inE left right (l.getD i default) = false then 3 else if (l.take i).contains (l.getD i default) then 6 else 0
def sidesB (left right : Int) : Bool := betB left 0 16 && betB right 0 16
def grE (left right : Int) (l : List Edg) : Int := if sidesB left right = false then 3 else firstE (edgE left right l) l.length
theorem edgE_at {left right : Int} {l : List Edg} {i : Nat} {x : Edg} (h : l[i]? = some x) : edgE left right l i = if inE left right x = false then 3 else if (l.take i).contains x then 6 else 0 := by
  unfold edgE
  rw [List.getD_eq_getElem?_getD, h]; rfl
theorem inE_false {left right : Int} {x : Edg} (h : x.lft < 0 ∨ left ≤ x.lft ∨ x.rgt < 0 ∨ right ≤ x.rgt) : inE left right x = false := by
  unfold inE
  cases hb : betB x.lft 0 (left - 1)
  · rfl
  · have := betB_iff.1 hb
    rw [betB_false (by omega)]; rfl
theorem inE_true {left right : Int} {x : Edg} (h : ¬ x.lft < 0) (h1 : ¬ left ≤ x.lft) (h2 : ¬ x.rgt < 0) (h3 : ¬ right ≤ x.rgt) : inE left right x = true := by
  unfold inE
  rw [betB_true (by omega) (by omega), betB_true (by omega) (by omega)]; rfl
theorem grE_ok {left right : Int} {l : List Edg} (h : grE left right l = 0) : ∃ a b : Nat, left = a ∧ right = b ∧ a ≤ 16 ∧ b ≤ 16 ∧ OkGr a b l ∧ l.Nodup := by
  unfold grE at h
  cases hs : sidesB left right
  · rw [if_pos hs] at h; exact absurd h (by decide)
  · rw [if_neg (by rw [hs]; simp)] at h
    unfold sidesB at hs
    rw [Bool.and_eq_true, betB_iff, betB_iff] at hs
    obtain ⟨a, rfl⟩ := Int.eq_ofNat_of_zero_le hs.1.1
    obtain ⟨b, rfl⟩ := Int.eq_ofNat_of_zero_le hs.2.1
    have key : ∀ (i : Nat) (x : Edg), l[i]? = some x → inE a b x = true ∧ (l.take i).contains x = false := fun i x hx => by
      have h1 := firstE_zero h i (List.getElem?_eq_some_iff.1 hx).1
      rw [edgE_at hx] at h1
      cases h2 : inE a b x
      · rw [if_pos h2] at h1; exact absurd h1 (by decide)
      · rw [if_neg (by rw [h2]; simp)] at h1
        cases h3 : (l.take i).contains x
        · exact ⟨rfl, rfl⟩
        · rw [h3] at h1; exact absurd h1 (by decide)
    refine ⟨a, b, rfl, rfl, by omega, by omega, fun x hx => ?_, ?_⟩
    · obtain ⟨i, hi⟩ := List.getElem?_of_mem hx
      have h1 := (key i x hi).1
      unfold inE at h1
      rw [Bool.and_eq_true, betB_iff, betB_iff] at h1
      omega
    · rw [List.nodup_iff_pairwise_ne, List.pairwise_iff_getElem]
      intro i j hi hj hij he
      have h1 := (key j l[j] (List.getElem?_eq_getElem hj)).2
      have h2 : l[i] ∈ l.take j := by
        rw [List.mem_take_iff_getElem]
        exact ⟨i, by omega, rfl⟩
      rw [he] at h2
      rw [List.contains_iff_mem.2 h2] at h1
      exact absurd h1 (by simp)
/-- There are no more edges than pairs. -/
theorem graph_small {a b : Nat} {l : List Edg} (h : OkGr a b l) (hn : l.Nodup) (ha : a ≤ 16) (hb : b ≤ 16) : l.length ≤ 256 := by
  have h1 := len_sub (l.map (fun x => x.lft.toNat * 16 + x.rgt.toNat)) (List.range 256) (nodup_map_of hn fun x hx y hy he => by
    have := h x hx
    have := h y hy
    have e1 : x.lft = y.lft := by omega
    have e2 : x.rgt = y.rgt := by omega
    cases x; cases y; simp_all) (fun v hv => by
    obtain ⟨x, hx, rfl⟩ := List.mem_map.1 hv
    have := h x hx
    rw [List.mem_range]; omega)
  rwa [List.length_map, List.length_range] at h1

def edgQ (x y : Edg) : Bool := decide (x = y)
set_option maxRecDepth 100000 in
theorem edg_eq (x y : Edg) (W : World) : (binOp .eql 70 (.agg #[.int .i64 x.lft, .int .i64 x.rgt]) (.agg #[.int .i64 y.lft, .int .i64 y.rgt])).run Try.prog W = .ok (.bool (edgQ x y)) W := by
  unfold edgQ
  obtain ⟨a, b⟩ := x
  obtain ⟨c, d⟩ := y
  simp only [Edg.mk.injEq]
  go_simp
  repeat' split
  all_goals simp_all

set_option maxRecDepth 100000 in
set_option maxHeartbeats 4000000 in
theorem CheckGraph_any (left right : Int) (A : Option Addr) (n cap : Nat) (l : List Edg) (w : World) (h : Sl edgC 2 w All A n cap l) :
    Calls Try.prog 39 #[.int .i64 left, .int .i64 right, .slice A n cap] w fun e w' => e = .returned (.int .i64 (grE left right l)) ∧ Below w.heap.size w w' := by
  have hbd := h.bd
  obtain ⟨r, hr⟩ : ∃ r, r = grE left right l := ⟨_, rfl⟩
  rw [← hr]
  have HSL := Lib.hid h
  unfold grE at hr
  rw [h.len] at hr
  have HR := Lib.hid hr
  clear hr h
  have hb1 := fun W => between_any left 0 16 W
  have hb2 := fun W => between_any right 0 16 W
  go_enter Try.func39, Try.ntmps39
  cases b1 : betB left 0 16
  · rw [b1] at hb1
    have hr : r = 3 := by rw [HR.out, if_pos (by unfold sidesB; rw [b1]; rfl)]
    subst hr
    clear b1
    go_wp2_with fail
    refine (hb1 _).mono ?_
    rintro e w9 ⟨rfl, rfl⟩
    go_wp2_with fail
    go_ret
    exact ⟨rfl, Below.refl _ _⟩
  rw [b1] at hb1
  go_wp2_with fail
  refine (hb1 _).mono ?_
  rintro e w9 ⟨rfl, rfl⟩
  cases b2 : betB right 0 16
  · rw [b2] at hb2
    have hr : r = 3 := by rw [HR.out, if_pos (by unfold sidesB; rw [b1, b2]; rfl)]
    subst hr
    clear b1 b2
    go_wp2_with fail
    refine (hb2 _).mono ?_
    rintro e w9 ⟨rfl, rfl⟩
    go_wp2_with fail
    go_ret
    exact ⟨rfl, Below.refl _ _⟩
  rw [b2] at hb2
  have HR2 := Lib.hid (show r = firstE (edgE left right l) n by rw [HR.out, if_neg (by unfold sidesB; rw [b1, b2]; simp)])
  clear b1 b2 HR
  go_wp2_with fail
  refine (hb2 _).mono ?_
  rintro e w8 ⟨rfl, rfl⟩
  go_wp2_with fail
  go_loopg [7] n (fun gk i wr => ∃ k : Nat, k ≤ n ∧ n - k ≤ gk ∧ i = .int .i64 k ∧ Aside (firstE (edgE left right l) k = 0) ∧ Below w.heap.size w wr)
  case atStart => exact ⟨0, Nat.zero_le _, by omega, rfl, rfl, Below.refl _ _⟩
  case round =>
    obtain ⟨k, hk, hgk, rfl, HA, hb⟩ := hrel
    by_cases hlt : k < n
    · obtain ⟨b, off, x, c0, c1, rfl, hx, hcs, e0, e1⟩ := (HSL.out.bel hb).at2 hlt
      obtain ⟨hcs, ix, iy⟩ := hcs
      simp only [List.cons.injEq, and_true] at hcs
      obtain ⟨rfl, rfl⟩ := hcs
      have HV := Lib.hid (edgE_at (left := left) (right := right) hx)
      have HX := Lib.hid hx
      have HB := Lib.hid hb
      clear hx hb
      by_cases hbad : x.lft < 0 ∨ left ≤ x.lft ∨ x.rgt < 0 ∨ right ≤ x.rgt
      · have hr : r = 3 := by rw [HR2.out, firstE_at HA (by rw [HV.out, if_pos (inE_false hbad)]; decide) hlt, HV.out, if_pos (inE_false hbad)]
        subst hr
        by_cases f1 : x.lft < 0
        · clear hbad
          go_wp2_with fail
          go_ret
          exact ⟨rfl, HB.out⟩
        · by_cases f2 : left ≤ x.lft
          · clear hbad
            go_wp2_with fail
            go_ret
            exact ⟨rfl, HB.out⟩
          · by_cases f3 : x.rgt < 0
            · clear hbad
              go_wp2_with fail
              go_ret
              exact ⟨rfl, HB.out⟩
            · have f4 : right ≤ x.rgt := by omega
              clear hbad
              go_wp2_with fail
              go_ret
              exact ⟨rfl, HB.out⟩
      · have f1 : ¬ x.lft < 0 := by omega
        have f2 : ¬ left ≤ x.lft := by omega
        have f3 : ¬ x.rgt < 0 := by omega
        have f4 : ¬ right ≤ x.rgt := by omega
        clear hbad
        have HV2 := Lib.hid (show edgE left right l k = if (l.take k).contains x then 6 else 0 by rw [HV.out, if_neg (by rw [inE_true f1 f2 f3 f4]; simp)])
        clear HV
        obtain ⟨W3, hW3⟩ : ∃ W3, W3 = wr := ⟨_, rfl⟩
        subst hW3
        go_wp2_with fail
        go_loopg [8] k (fun gj j wr => ∃ i : Nat, i ≤ k ∧ k - i ≤ gj ∧ j = .int .i64 i ∧ Aside ((l.take i).contains x = false) ∧ Below w.heap.size w wr)
        case atStart => exact ⟨0, Nat.zero_le _, by omega, rfl, rfl, HB.out⟩
        case round =>
          obtain ⟨i, hi, hgi, rfl, HC, hbi⟩ := hrel
          have HBI := Lib.hid hbi
          by_cases hik : i < k
          · obtain ⟨b', off', y, d0, d1, hA', hy, hcs, g0, g1⟩ := (HSL.out.bel hbi).at2 (show i < n by omega)
            obtain ⟨hcs, _, _⟩ := hcs
            simp only [List.cons.injEq, and_true] at hcs
            obtain ⟨rfl, rfl⟩ := hcs
            injection hA' with hA'
            injection hA' with hA1 hA2 _
            subst hA1 hA2
            have e0' : wr.cell? ⟨b, off + k * 2, none⟩ = some (.int .i64 x.lft) ∧ wr.cell? ⟨b, off + k * 2 + 1, none⟩ = some (.int .i64 x.rgt) := by
              obtain ⟨b2, off2, z, z0, z1, hA2, hz, hcz, q0, q1⟩ := (HSL.out.bel hbi).at2 hlt
              obtain ⟨hcz, _, _⟩ := hcz
              simp only [List.cons.injEq, and_true] at hcz
              obtain ⟨rfl, rfl⟩ := hcz
              injection hA2 with hA2
              injection hA2 with hA1 hA2 _
              subst hA1 hA2
              rw [HX.out] at hz
              injection hz with hz
              subst hz
              exact ⟨q0, q1⟩
            obtain ⟨e0', e1'⟩ := e0'
            have hq := fun W => edg_eq y x W
            have HY := Lib.hid (take_snoc hy)
            have i0 : (0 : Int) ≤ (i : Int) := Int.natCast_nonneg _
            have i1 : (i : Int) < (n : Int) := by omega
            have i2 : (0 : Int) ≤ (k : Int) := Int.natCast_nonneg _
            have i3 : (k : Int) < (n : Int) := by omega
            clear hy hbi e0 e1
            by_cases hyx : y = x
            · have HE := Lib.hid (show (l.take k).contains x = true by
                rw [List.contains_iff_mem]
                have : l.take (i + 1) <+: l.take k := List.take_prefix_take_left (by omega)
                exact this.subset (by rw [HY.out, hyx]; simp))
              have hr : r = 6 := by
                have h6 : edgE left right l k = 6 := by rw [HV2.out, HE.out]; rfl
                rw [HR2.out, firstE_at HA (by rw [h6]; decide) hlt, h6]
              subst hr
              have hqq : edgQ y x = true := decide_eq_true hyx
              rw [hqq] at hq
              clear hyx hqq
              go_wp2_with fail
              go_quiet (fail)
              go_wp2_with fail
              go_ret
              exact ⟨rfl, ⟨HBI.out.os, HBI.out.tape, HBI.out.output, HBI.out.size, HBI.out.block⟩⟩
            · have hqq : edgQ y x = false := decide_eq_false hyx
              rw [hqq] at hq
              have HN := Lib.hid (show (l.take (i + 1)).contains x = false by
                rw [HY.out]
                have h1 : (l.take i).contains x = false := HC
                simp only [List.contains_eq_mem, List.mem_append, List.mem_singleton, decide_eq_false_iff_not, not_or] at h1 ⊢
                exact ⟨h1, fun e => hyx e.symm⟩)
              clear hyx hqq
              go_wp2_with fail
              go_quiet (fail)
              go_wp2_with fail
              go_roundg (k - (i + 1))
              case measure => omega
              case rel => exact ⟨i + 1, by omega, by omega, by go_num, HN.out, ⟨HBI.out.os, HBI.out.tape, HBI.out.output, HBI.out.size, HBI.out.block⟩⟩
          · obtain rfl : i = k := by omega
            have HN := Lib.hid (show edgE left right l i = 0 by
              rw [HV2.out]
              have h1 : (l.take i).contains x = false := HC
              rw [h1]; rfl)
            clear hbi
            go_wp2_with fail
            go_roundg (n - (i + 1))
            case measure => omega
            case rel => exact ⟨i + 1, by omega, by omega, by go_num, (show Aside _ from firstE_succ HA HN.out), HBI.out⟩
    · obtain rfl : k = n := by omega
      have hr : r = 0 := by rw [HR2.out]; exact HA
      subst hr
      have HB := Lib.hid hb
      clear hb
      go_wp2_with fail
      go_ret
      exact ⟨rfl, HB.out⟩
end Go.Proofs.Ytpodgidamoiakaa
