/-
  Ships: data; names; slices.Contains at numbers.
-/
import Derived.Test.YtpodgidamoiakaaShipH
namespace Go.Proofs.Ytpodgidamoiakaa
open Go.RowKit Go.Shelf

structure Cat where
  name : List UInt8
  high : List Int
  deriving DecidableEq, Inhabited
structure Cab where
  name : List UInt8
  cat : Int
  ber : Int
  lev : Bool
  deriving DecidableEq, Inhabited
structure Shp where
  legs : Int
  souls : Int
  cats : List Cat
  cabs : List Cab

abbrev strV (s : List UInt8) : Value := .string ⟨s.toArray⟩
def strC : Cod (List UInt8) := fun _ _ s cs => cs = [strV s] ∧ s.length ≤ maxLen
theorem strC_flat : Flat strC := fun _ _ _ _ _ _ h => h
theorem strC_good : Good strC := .of_flat strC_flat fun h u hu => by obtain ⟨rfl, _⟩ := h; simp at hu; subst hu; rfl
instance strK : CodK strC 1 := ⟨strC_good, by omega⟩
def catC : Cod Cat := fun w S x cs => ∃ A n cap, cs = [strV x.name, .slice A n cap] ∧ Sl intC 1 w S A n cap x.high ∧ x.name.length ≤ maxLen
theorem catC_good : Good catC := ⟨fun h hk => by
    obtain ⟨A, n, cap, rfl, h, hl⟩ := h
    exact ⟨A, n, cap, rfl, h.keep intC_good (by omega) hk, hl⟩,
  fun h u hu => by
    obtain ⟨A, n, cap, rfl, h, hl⟩ := h
    simp at hu; rcases hu with rfl | rfl <;> rfl⟩
instance catK : CodK catC 2 := ⟨catC_good, by omega⟩
def cabC : Cod Cab := fun _ _ x cs => cs = [strV x.name, .int .i64 x.cat, .int .i64 x.ber, .bool x.lev] ∧ x.name.length ≤ maxLen ∧ InI x.cat ∧ InI x.ber
theorem cabC_flat : Flat cabC := fun _ _ _ _ _ _ h => h
theorem cabC_good : Good cabC := .of_flat cabC_flat fun h u hu => by obtain ⟨rfl, _⟩ := h; simp at hu; rcases hu with rfl | rfl | rfl | rfl <;> rfl
instance cabK : CodK cabC 4 := ⟨cabC_good, by omega⟩
def shpC : Cod Shp := fun w S x cs => ∃ A n cap B m cap2, cs = [.int .i64 x.legs, .int .i64 x.souls, .slice A n cap, .slice B m cap2] ∧
  Sl catC 2 w S A n cap x.cats ∧ Sl cabC 4 w S B m cap2 x.cabs ∧ InI x.legs ∧ InI x.souls

/-- Is it a letter, or a figure? -/
def chB (c : UInt8) : Bool := betB c.toNat 65 90 || betB c.toNat 48 57
def nameB (s : List UInt8) : Bool := !s.any (fun c => !chB c) && (decide (1 ≤ s.length) && decide (s.length ≤ 8))

theorem idx_s {L : List UInt8} {k : Nat} {d : UInt8} (h : L[k]? = some d) (W : World) : (Instr.index 9 (strV L) (.int .i64 (k : Int))).run Try.prog W = .ok (.int .u8 (d.toNat : Int)) W := by
  have hlt : k < L.length := (List.getElem?_eq_some_iff.1 h).1
  have hs : (⟨L.toArray⟩ : ByteArray).size = L.length := by show L.toArray.size = _; simp
  unfold strV
  rw [run_index_string _ _ _ _ _ Try.underlying9, dif_pos ⟨by omega, by rw [hs]; omega⟩]
  have hd : L[k] = d := (List.getElem?_eq_some_iff.1 h).2
  have : (⟨L.toArray⟩ : ByteArray)[k]'(by rw [hs]; exact hlt) = d := by rw [← hd]; rfl
  simp only [Int.toNat_natCast, this]
theorem name_len (L : List UInt8) : (decide (1 ≤ L.length) && decide (L.length ≤ 8)) = (!L.isEmpty && decide ((L.length : Int) ≤ 8)) := by
  have e : ((L.length : Int) ≤ 8) = (L.length ≤ 8) := propext (by omega)
  simp only [e]
  cases L with
  | nil => rfl
  | cons x l => rw [decide_eq_true (by simp)]; rfl
theorem name_betB (L : List UInt8) : (decide (1 ≤ L.length) && decide (L.length ≤ 8)) = betB L.length 1 8 := by
  have e : ((L.length : Int) ≤ 8) = (L.length ≤ 8) := propext (by omega)
  have e2 : ((1 : Int) ≤ (L.length : Int)) = (1 ≤ L.length) := propext (by omega)
  unfold betB
  simp only [e, e2]

theorem swithin_any (n a b : Int) (w : World) : Calls Try.prog 44 #[.int .i64 n, .int .i64 a, .int .i64 b] w fun e w' => e = .returned (.bool (betB n a b)) ∧ w' = w := by
  go_enter Try.func44, Try.ntmps44
  go_wp2
  all_goals go_ret
  all_goals exact ⟨retB (by unfold betB; simp; try omega), rfl⟩

set_option maxRecDepth 100000 in
set_option maxHeartbeats 1000000 in
theorem name_any (L : List UInt8) (w : World) (hl : L.length ≤ maxLen) : Calls Try.prog 81 #[strV L] w fun e w' => e = .returned (.bool (nameB L)) ∧ w' = w := by
  unfold strV
  have hl2 : L.length ≤ 9223372036854775807 := by unfold maxLen at hl; omega
  clear hl
  obtain ⟨r, hr⟩ : ∃ r, r = nameB L := ⟨_, rfl⟩
  rw [← hr]
  have HR := Lib.hid hr
  clear hr
  go_enter Try.func81, Try.ntmps81
  go_wp2_with fail
  go_loopg [6] L.length (fun gk i wr => ∃ k : Nat, k ≤ L.length ∧ L.length - k ≤ gk ∧ i = .int .i64 k ∧ Aside ((L.take k).any (fun c => !chB c) = false) ∧ wr = w)
  case atStart => exact ⟨0, by omega, by omega, rfl, rfl, rfl⟩
  case round =>
    obtain ⟨k, hk, hgk, rfl, HA, rfl⟩ := hrel
    by_cases hlt : k < L.length
    · obtain ⟨d, hd⟩ : ∃ d, L[k]? = some d := ⟨_, List.getElem?_eq_getElem hlt⟩
      have hix := fun W => idx_s hd W
      unfold strV at hix
      have HD := Lib.hid hd
      clear hd
      have hd8 : d.toNat < 256 := d.toNat_lt
      obtain ⟨q, hq⟩ : ∃ q : Nat, q = d.toNat := ⟨_, rfl⟩
      rw [← hq] at hix hd8
      have HCH := Lib.hid (show chB d = (betB q 65 90 || betB q 48 57) by unfold chB; rw [hq])
      clear hq
      have hw1 := fun W => swithin_any q 65 90 W
      have hw2 := fun W => swithin_any q 48 57 W
      cases b1 : betB q 65 90
      · rw [b1] at hw1
        cases b2 : betB q 48 57
        · rw [b2] at hw2
          have hr : r = false := by rw [HR.out]; unfold nameB; rw [any_at HD.out (by rw [HCH.out, b1, b2]; rfl)]; rfl
          subst hr
          clear b1 b2
          go_wp2_with fail
          refine (hw1 _).mono ?_
          rintro e w9 ⟨rfl, rfl⟩
          go_wp2_with fail
          refine (hw2 _).mono ?_
          rintro e w9 ⟨rfl, rfl⟩
          go_wp2_with fail
          go_ret
          exact ⟨rfl, rfl⟩
        · rw [b2] at hw2
          have HN := Lib.hid (show chB d = true by rw [HCH.out, b1, b2]; rfl)
          clear b1 b2
          go_wp2_with fail
          refine (hw1 _).mono ?_
          rintro e w9 ⟨rfl, rfl⟩
          go_wp2_with fail
          refine (hw2 _).mono ?_
          rintro e w9 ⟨rfl, rfl⟩
          go_wp2_with fail
          go_roundg (L.length - (k + 1))
          case measure => omega
          case rel => exact ⟨k + 1, by omega, by omega, by go_num, (show Aside _ from by show _ = _; rw [any_take_succ HD.out, HA, HN.out]; rfl), rfl⟩
      · rw [b1] at hw1
        have HN := Lib.hid (show chB d = true by rw [HCH.out, b1]; rfl)
        clear b1
        go_wp2_with fail
        refine (hw1 _).mono ?_
        rintro e w9 ⟨rfl, rfl⟩
        go_wp2_with fail
        go_roundg (L.length - (k + 1))
        case measure => omega
        case rel => exact ⟨k + 1, by omega, by omega, by go_num, (show Aside _ from by show _ = _; rw [any_take_succ HD.out, HA, HN.out]; rfl), rfl⟩
    · obtain rfl : k = L.length := by omega
      rw [List.take_length] at HA
      have HN := Lib.hid (show r = (decide (1 ≤ L.length) && decide (L.length ≤ 8)) by rw [HR.out]; unfold nameB; rw [show L.any (fun c => !chB c) = false from HA]; rfl)
      clear hgk hk hlt HA
      rw [name_len] at HN
      by_cases h0 : L = []
      · subst h0
        obtain rfl : r = false := HN.out
        go_wp2_with fail
        go_ret
        exact ⟨rfl, rfl⟩
      go_wp2_with fail
      go_ret
      exact ⟨retB HN.out.symm, rfl⟩
set_option maxRecDepth 100000 in
set_option maxHeartbeats 1000000 in
theorem isName_any (L : List UInt8) (w : World) (hl : L.length ≤ maxLen) : Calls Try.prog 50 #[strV L] w fun e w' => e = .returned (.bool (nameB L)) ∧ w' = w := by
  unfold strV
  have hl2 : L.length ≤ 9223372036854775807 := by unfold maxLen at hl; omega
  clear hl
  obtain ⟨r, hr⟩ : ∃ r, r = nameB L := ⟨_, rfl⟩
  rw [← hr]
  have HR := Lib.hid hr
  clear hr
  go_enter Try.func50, Try.ntmps50
  go_wp2_with fail
  go_loopg [3] L.length (fun gk i wr => ∃ k : Nat, k ≤ L.length ∧ L.length - k ≤ gk ∧ i = .int .i64 k ∧ Aside ((L.take k).any (fun c => !chB c) = false) ∧ wr = w)
  case atStart => exact ⟨0, by omega, by omega, rfl, rfl, rfl⟩
  case round =>
    obtain ⟨k, hk, hgk, rfl, HA, rfl⟩ := hrel
    by_cases hlt : k < L.length
    · obtain ⟨d, hd⟩ : ∃ d, L[k]? = some d := ⟨_, List.getElem?_eq_getElem hlt⟩
      have hix := fun W => idx_s hd W
      unfold strV at hix
      have HD := Lib.hid hd
      clear hd
      have hd8 : d.toNat < 256 := d.toNat_lt
      obtain ⟨q, hq⟩ : ∃ q : Nat, q = d.toNat := ⟨_, rfl⟩
      rw [← hq] at hix hd8
      have HCH := Lib.hid (show chB d = (betB q 65 90 || betB q 48 57) by unfold chB; rw [hq])
      clear hq
      have hw1 := fun W => between_any q 65 90 W
      have hw2 := fun W => between_any q 48 57 W
      cases b1 : betB q 65 90
      · rw [b1] at hw1
        cases b2 : betB q 48 57
        · rw [b2] at hw2
          have hr : r = false := by rw [HR.out]; unfold nameB; rw [any_at HD.out (by rw [HCH.out, b1, b2]; rfl)]; rfl
          subst hr
          clear b1 b2
          go_wp2_with fail
          refine (hw1 _).mono ?_
          rintro e w9 ⟨rfl, rfl⟩
          go_wp2_with fail
          refine (hw2 _).mono ?_
          rintro e w9 ⟨rfl, rfl⟩
          go_wp2_with fail
          go_ret
          exact ⟨rfl, rfl⟩
        · rw [b2] at hw2
          have HN := Lib.hid (show chB d = true by rw [HCH.out, b1, b2]; rfl)
          clear b1 b2
          go_wp2_with fail
          refine (hw1 _).mono ?_
          rintro e w9 ⟨rfl, rfl⟩
          go_wp2_with fail
          refine (hw2 _).mono ?_
          rintro e w9 ⟨rfl, rfl⟩
          go_wp2_with fail
          go_roundg (L.length - (k + 1))
          case measure => omega
          case rel => exact ⟨k + 1, by omega, by omega, by go_num, (show Aside _ from by show _ = _; rw [any_take_succ HD.out, HA, HN.out]; rfl), rfl⟩
      · rw [b1] at hw1
        have HN := Lib.hid (show chB d = true by rw [HCH.out, b1]; rfl)
        clear b1
        go_wp2_with fail
        refine (hw1 _).mono ?_
        rintro e w9 ⟨rfl, rfl⟩
        go_wp2_with fail
        go_roundg (L.length - (k + 1))
        case measure => omega
        case rel => exact ⟨k + 1, by omega, by omega, by go_num, (show Aside _ from by show _ = _; rw [any_take_succ HD.out, HA, HN.out]; rfl), rfl⟩
    · obtain rfl : k = L.length := by omega
      rw [List.take_length] at HA
      have HN := Lib.hid (show r = betB L.length 1 8 by rw [HR.out]; unfold nameB; rw [show L.any (fun c => !chB c) = false from HA]; rw [← name_betB]; rfl)
      clear hgk hk hlt HA
      go_wp2_with fail
      refine (between_any L.length 1 8 _).mono ?_
      rintro e w9 ⟨rfl, rfl⟩
      go_wp2_with fail
      go_ret
      exact ⟨retB HN.out.symm, rfl⟩

theorem Sl.pre {α : Type} {c : Cod α} {size : Nat} {w : World} {S : Nat → Prop} {A : Option Addr} {n cap : Nat} {l : List α} (h : Sl c size w S A n cap l) {k : Nat} (hk : k ≤ n) : Sl c size w S A k cap (l.take k) := by
  refine ⟨by rw [List.length_take, h.len]; omega, by have := h.le; omega, h.max, fun i x hx => h.rd i x ?_⟩
  have hi : i < k := by
    rcases Nat.lt_or_ge i k with h1 | h1
    · exact h1
    · rw [List.getElem?_eq_none (by rw [List.length_take]; omega)] at hx; cases hx
  rwa [List.getElem?_take, if_pos hi] at hx
theorem Contains_int (A : Option Addr) (n cap : Nat) (l : List Int) (s : Int) (w : World) (h : Sl intC 1 w All A n cap l) :
    Calls Try.prog 48 #[.slice A n cap, .int .i64 s] w fun e w' => e = .returned (.bool (l.contains s)) ∧ w' = w := by
  have HC := Index_int A n cap l s w h
  have HI := Lib.hid (idxF_any (p := fun x => s == x) (l := l))
  have hbd := idxF_bd (p := fun x => s == x) (l := l) (by have := h.bd; have := h.len; omega)
  have HE := Lib.hid (show l.any (fun x => s == x) = l.contains s by rw [List.any_beq])
  obtain ⟨q, hq⟩ : ∃ q, q = idxF (fun x => s == x) l := ⟨_, rfl⟩
  rw [← hq] at HC HI hbd
  have HQ := Lib.hid hq
  clear hq
  go_enter Try.func48, Try.ntmps48
  go_wp2_with fail
  refine HC.mono ?_
  rintro e w1 ⟨rfl, rfl⟩
  go_wp2_with fail
  go_ret
  exact ⟨retB (HI.out.trans HE.out), rfl⟩

-- who stands above a category
def highE (n : Int) (l : List Int) (k : Nat) : Int := if betB (l.getD k 0) 0 (n - 1) = false then 3 else if (l.take k).contains (l.getD k 0) then 6 else 0
theorem getD_of {α : Type} {l : List α} {k : Nat} {x d : α} (h : l[k]? = some x) : l.getD k d = x := by rw [List.getD_eq_getElem?_getD, h]; rfl

set_option maxHeartbeats 1000000 in
theorem higher_any (A : Option Addr) (n cap : Nat) (l : List Int) (many : Int) (w : World) (h : Sl intC 1 w All A n cap l) (h0 : 0 ≤ many) (h1 : many ≤ 1000000000) :
    Calls Try.prog 55 #[.slice A n cap, .int .i64 many] w fun e w' => e = .returned (.int .i64 (firstE (highE many l) l.length)) ∧ w' = w := by
  have hbd := h.bd
  obtain ⟨r, hr⟩ : ∃ r, r = firstE (highE many l) l.length := ⟨_, rfl⟩
  rw [← hr]
  rw [h.len] at hr
  have HR := Lib.hid hr
  clear hr
  go_enter Try.func55, Try.ntmps55
  go_wp2_with fail
  go_loopg [9] n (fun gk i wr => ∃ k : Nat, k ≤ n ∧ n - k ≤ gk ∧ i = .int .i64 k ∧ Aside (firstE (highE many l) k = 0) ∧ wr = w)
  case atStart => exact ⟨0, Nat.zero_le _, by omega, rfl, rfl, rfl⟩
  case round =>
    obtain ⟨k, hk, hgk, rfl, HA, rfl⟩ := hrel
    by_cases hlt : k < n
    · obtain ⟨b, off, x, c0, rfl, hx, ⟨hc, _⟩, g0⟩ := h.at1 hlt
      simp only [List.cons.injEq, and_true] at hc
      obtain rfl := hc
      have HV := Lib.hid (show highE many l k = if betB x 0 (many - 1) = false then 3 else if (l.take k).contains x then 6 else 0 by unfold highE; rw [getD_of hx])
      have hcon := Contains_int _ _ _ _ x _ (h.pre (Nat.le_of_lt hlt))
      have HCON := Lib.hid hcon
      clear hcon
      have hkc : k ≤ cap := by have := h.le; omega
      clear hx
      have hw1 := fun W => swithin_any x 0 (many - 1) W
      cases b1 : betB x 0 (many - 1)
      · rw [b1] at hw1
        have hv : highE many l k = 3 := by rw [HV.out, if_pos b1]
        have hr : r = 3 := by rw [HR.out, firstE_at HA (by rw [hv]; decide) hlt, hv]
        subst hr
        clear b1 hv
        go_wp2_with fail
        refine (hw1 _).mono ?_
        rintro e w9 ⟨rfl, rfl⟩
        go_wp2_with fail
        go_ret
        exact ⟨rfl, rfl⟩
      · rw [b1] at hw1
        have HV2 := Lib.hid (show highE many l k = if (l.take k).contains x then 6 else 0 by rw [HV.out, if_neg (by rw [b1]; simp)])
        clear b1
        go_wp2_with fail
        refine (hw1 _).mono ?_
        rintro e w9 ⟨rfl, rfl⟩
        go_wp2_with fail
        refine HCON.out.mono ?_
        rintro e w2 ⟨rfl, rfl⟩
        cases b2 : (l.take k).contains x
        · have HK := Lib.hid (show highE many l k = 0 by rw [HV2.out, b2]; rfl)
          clear b2
          go_wp2_with fail
          go_roundg (n - (k + 1))
          case measure => omega
          case rel => exact ⟨k + 1, by omega, by omega, by go_num, (show Aside _ from firstE_succ HA HK.out), rfl⟩
        · have hv : highE many l k = 6 := by rw [HV2.out, b2]; rfl
          have hr : r = 6 := by rw [HR.out, firstE_at HA (by rw [hv]; decide) hlt, hv]
          subst hr
          clear b2 hv
          go_wp2_with fail
          go_ret
          exact ⟨rfl, rfl⟩
    · obtain rfl : k = n := by omega
      have hr : r = 0 := by rw [HR.out]; exact HA
      subst hr
      go_wp2_with fail
      go_ret
      exact ⟨rfl, rfl⟩
end Go.Proofs.Ytpodgidamoiakaa
