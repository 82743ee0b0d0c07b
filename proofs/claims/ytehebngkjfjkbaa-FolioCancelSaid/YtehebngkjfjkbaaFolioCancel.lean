/-
  The law FolioCancel returns true for every folio, every day and every penalty, and changes nothing that was there.
-/
import Derived.Test.YtehebngkjfjkbaaFolioJ
import Derived.Test.YtehebngkjfjkbaaFolioLift
namespace Go.Proofs.Ytehebngkjfjkbaa
open Go.ChangeShapes Go.WideShapes Go.ChangeAt Go.RowKit Go.Shelf

def isRest (k : Int) : Bool := k == 2 || k == 3

theorem kind_of_entry {x : Entry} (h : entryE x = 0) : 1 ≤ x.kind ∧ x.kind ≤ 4 := by
  unfold entryE at h
  by_cases h1 : x.kind < 1 ∨ 4 < x.kind
  · rw [if_pos h1] at h; omega
  · omega
theorem check_kinds {l : List Entry} (h : checkFolio l = 0) : ∀ x ∈ l, 1 ≤ x.kind ∧ x.kind ≤ 4 := by
  have hl := check_len h
  have h0 : firstErr (errAt l) l.length = 0 := by
    unfold checkFolio at h
    rw [if_neg (by omega)] at h
    by_cases e : firstErr (errAt l) l.length = 0
    · exact e
    · rw [if_pos e] at h; exact absurd h e
  have hall : ∀ n, firstErr (errAt l) n = 0 → ∀ i, i < n → errAt l i = 0 := by
    intro n
    induction n with
    | zero => intro _ i hi; omega
    | succ n ih =>
      intro h i hi
      simp only [firstErr] at h
      by_cases e : firstErr (errAt l) n = 0
      · rw [if_pos e] at h
        by_cases e2 : i = n
        · rw [e2]; exact h
        · exact ih e i (by omega)
      · rw [if_neg e] at h; exact absurd h e
  intro x hx
  obtain ⟨i, hi, rfl⟩ := List.getElem_of_mem hx
  have := hall _ h0 i hi
  unfold errAt at this
  have he : entryE (l[i]?.getD default) = 0 := by
    by_cases e : entryE (l[i]?.getD default) = 0
    · exact e
    · rw [if_pos e] at this; exact this
  rw [List.getElem?_eq_getElem hi, Option.getD_some] at he
  exact kind_of_entry he

theorem due_parts (l : List Entry) (h : ∀ x ∈ l, 1 ≤ x.kind ∧ x.kind ≤ 4) : dueOf l = faresOf l + sumBy isRest l := by
  induction l with
  | nil => rfl
  | cons x l ih =>
    have h1 := h x (by simp)
    have h2 := ih fun y hy => h y (by simp [hy])
    simp only [dueOf, faresOf, sumBy, List.filter_cons] at h2 ⊢
    have hc : (isFare x.kind = true ∧ isRest x.kind = false) ∨ (isFare x.kind = false ∧ isRest x.kind = true) := by
      unfold isFare isRest
      rcases (show x.kind = 1 ∨ x.kind = 2 ∨ x.kind = 3 ∨ x.kind = 4 by omega) with e | e | e | e <;> rw [e] <;> simp
    rcases hc with ⟨e1, e2⟩ | ⟨e1, e2⟩ <;> simp [e1, e2] <;> omega

theorem dueOf_putL (l : List Entry) (d k m : Int) : dueOf (putL l d k m) = dueOf l + m := by
  unfold putL
  by_cases h : m = 0
  · rw [if_pos h]; omega
  · rw [if_neg h, dueOf_snoc]
theorem putL_pre (l : List Entry) (d k m : Int) : ∃ t, putL l d k m = l ++ t := by
  unfold putL
  by_cases h : m = 0
  · rw [if_pos h]; exact ⟨[], by simp⟩
  · rw [if_neg h]; exact ⟨_, rfl⟩
theorem cancelL_pre (l : List Entry) (d p : Int) : ∃ t, cancelL l d p = l ++ t := by
  unfold cancelL
  obtain ⟨t1, h1⟩ := putL_pre l d 4 (-faresOf l)
  obtain ⟨t2, h2⟩ := putL_pre (putL l d 4 (-faresOf l)) d 3 p
  obtain ⟨t3, h3⟩ := putL_pre (putL (putL l d 4 (-faresOf l)) d 3 p) d 4 (max 0 (-dueOf (putL (putL l d 4 (-faresOf l)) d 3 p)))
  exact ⟨t1 ++ t2 ++ t3, by rw [h3, h2, h1]; simp⟩
theorem due_cancel {l : List Entry} (d p : Int) (h : checkFolio l = 0) : dueOf (cancelL l d p) = max 0 (p + sumBy isRest l) := by
  unfold cancelL
  rw [dueOf_putL, dueOf_putL, dueOf_putL]
  have := due_parts l (check_kinds h)
  omega
theorem cancelE_ok {l : List Entry} {d p : Int} (h : cancelE l d p = 0) : checkFolio l = 0 ∧ 0 ≤ p ∧ p ≤ 100000000 ∧ checkFolio (cancelL l d p) = 0 := by
  unfold cancelE at h
  by_cases e : checkFolio l = 0
  · rw [if_neg (by omega)] at h
    by_cases e2 : p < 0 ∨ 100000000 < p
    · rw [if_pos e2] at h; omega
    · rw [if_neg e2] at h; exact ⟨e, by omega, by omega, h⟩
  · rw [if_pos e] at h; exact absurd h e

set_option maxHeartbeats 4000000 in
theorem FolioCancel_walk (W : World) (A : Option Addr) (n cap : Nat) (l : List Entry) (h : Sl entryC 3 W All A n cap l) (d : Int) (hd : InI d) (p : Int) (hp : InI p) :
    Calls Try.prog 4 #[.slice A n cap, .int .i64 d, .int .i64 p] W fun e w' => e = .returned (.bool true) ∧ Below W.heap.size W w' := by
  have hca := Cancel_any A n cap l d p W h hd hp
  obtain ⟨r, hr⟩ : ∃ r, r = cancelE l d p := ⟨_, rfl⟩
  rw [← hr] at hca
  have HR := Lib.hid hr
  have HC := Lib.hid hca
  have hlen := Lib.hid h.len
  have hbd := h.bd
  clear hr hca
  by_cases hr0 : r = 0
  · subst hr0
    obtain ⟨hck, hp0, hp1, hck2⟩ := cancelE_ok HR.out.symm
    have hl12 := check_len hck
    have hn12 : n ≤ 12 := by have := hlen.out; omega
    have HCK := Lib.hid hck
    have HCK2 := Lib.hid hck2
    clear hl12 hck hck2
    go_enter Try.func4, Try.ntmps4
    go_wp2_with fail
    refine HC.out.mono ?_
    rintro e w1 ⟨v, xs, rfl, hown, hb1⟩
    rw [okL_zero] at hown
    obtain ⟨A4, n4, cap4, rfl, hs4⟩ := hown.sl entryC_good
    have hs4' := hs4.all entryC_good (by omega)
    clear hown hs4
    go_wp2_with fail
    refine (folioBegun_any _).mono ?_
    rintro e w2 ⟨rfl, hb2⟩
    replace hs4' := hs4'.below entryC_good (by omega) hb2
    replace hb1 := hb1.trans (hb2.mono hb1.size)
    clear hb2
    have how := Owed_any _ _ _ _ _ hs4'
    rw [HCK2.out, okI_zero, due_cancel d p HCK.out] at how
    have hsum := check_sum HCK.out isRest
    have HO := Lib.hid how
    clear how
    go_wp2_with fail
    refine HO.out.mono ?_
    rintro e w3 ⟨rfl, hb3⟩
    replace hs4' := hs4'.below entryC_good (by omega) hb3
    replace hb1 := hb1.trans (hb3.mono hb1.size)
    clear hb3
    obtain ⟨t, ht⟩ := cancelL_pre l d p
    have hn4 : n ≤ n4 := by have := hs4'.len; rw [ht, List.length_append, hlen.out] at this; omega
    have hnc : n ≤ cap4 := Nat.le_trans hn4 hs4'.le
    have hnlt : ¬ n4 < n := by omega
    have htk := hs4'.takeTo (i := n) hn4
    have htl : (cancelL l d p).take n = l := by rw [ht, ← hlen.out]; simp
    rw [htl] at htk
    have hsame := SameFolio_any _ _ _ _ _ _ l l w3 htk (h.below entryC_good (by omega) hb1)
    rw [decide_eq_true rfl] at hsame
    have HS := Lib.hid hsame
    clear htk htl hsame ht hs4'
    have hbq := hb1
    go_wp2_with (go_at_call 22; refine HS.out.mono ?_; rintro e w' ⟨rfl, q, rfl⟩)
    replace hb1 : Below W.heap.size W (w3.drewN q) := below_drewN hbq q
    have hall : ∀ k, -1200000000 ≤ sumBy isRest (l.take k) ∧ sumBy isRest (l.take k) ≤ 1200000000 := fun k => by
      have h1 := sumBy_bd8 isRest (l.take k) (fun x hx => check_amounts HCK.out x (List.mem_of_mem_take hx))
      have h2 : (l.take k).length ≤ 12 := Nat.le_trans (List.length_take_le' _ _) (check_len HCK.out)
      omega
    have HALL := Lib.hid hall
    clear hall hbq
    go_loopg [10, 11] n (fun gk s i wr => ∃ k : Nat, k ≤ n ∧ n - k ≤ gk ∧ i = .int .i64 k ∧ s = .int .i64 (p + sumBy isRest (l.take k)) ∧ Below W.heap.size W wr)
    case atStart => exact ⟨0, Nat.zero_le _, by omega, rfl, by simp [sumBy], hb1⟩
    case round =>
      obtain ⟨k, hk, hgk, rfl, rfl, hb⟩ := hrel
      by_cases hlt : k < n
      · obtain ⟨b, off, x, c0, c1, c2, rfl, hx, ⟨hc, b0, b1, b2⟩, g0, g1, g2⟩ := (h.below entryC_good (by omega) hb).at3 hlt
        simp only [List.cons.injEq, and_true] at hc
        obtain ⟨rfl, rfl, rfl⟩ := hc
        have s1 := HALL.out k
        have HSN := Lib.hid (sumBy_snoc isRest (l.take k) x)
        have HT := Lib.hid (take_snoc hx)
        have s3 := check_amounts HCK.out x (List.mem_of_getElem? hx)
        clear hx g0
        by_cases k2 : x.kind = 2
        · have k2' : (x.kind == 2) = true := by simpa using k2
          have HK := Lib.hid (show isRest x.kind = true by unfold isRest; rw [k2']; rfl)
          clear k2
          go_wp2_with fail
          go_roundg (n - (k + 1))
          case measure => omega
          case rel => exact ⟨k + 1, by omega, by omega, by go_num, by rw [HT.out, HSN.out, HK.out]; simp [Int.add_assoc], hb⟩
        · have k2' : (x.kind == 2) = false := by simpa using k2
          by_cases k3 : x.kind = 3
          · have k3' : (x.kind == 3) = true := by simpa using k3
            have HK := Lib.hid (show isRest x.kind = true by unfold isRest; rw [k3', k2']; rfl)
            clear k2 k3
            go_wp2_with fail
            go_roundg (n - (k + 1))
            case measure => omega
            case rel => exact ⟨k + 1, by omega, by omega, by go_num, by rw [HT.out, HSN.out, HK.out]; simp [Int.add_assoc], hb⟩
          · have k3' : (x.kind == 3) = false := by simpa using k3
            have HK := Lib.hid (show isRest x.kind = false by unfold isRest; rw [k3', k2']; rfl)
            clear k2 k3
            go_wp2_with fail
            go_roundg (n - (k + 1))
            case measure => omega
            case rel => exact ⟨k + 1, by omega, by omega, by go_num, by rw [HT.out, HSN.out, HK.out]; simp, hb⟩
      · obtain rfl : k = n := by omega
        have HT := Lib.hid (List.take_of_length_le (Nat.le_of_eq h.len))
        rw [HT.out]
        by_cases hneg : p + sumBy isRest l < 0
        · have hm : (max 0 (p + sumBy isRest l) == 0) = true := by simp; omega
          go_wp2_with fail
          go_ret
          exact ⟨rfl, hb⟩
        · have hm : (max 0 (p + sumBy isRest l) == p + sumBy isRest l) = true := by simp; omega
          go_wp2_with fail
          go_ret
          exact ⟨rfl, hb⟩
  · have hr1 : (r != 0) = true := by simpa using hr0
    have HRN := Lib.hid hr0
    clear hr0
    go_enter Try.func4, Try.ntmps4
    go_wp2_with fail
    refine HC.out.mono ?_
    rintro e w1 ⟨v, xs, rfl, hown, hb1⟩
    rw [okL_ne HRN.out] at hown
    obtain ⟨A4, n4, cap4, rfl, hs4⟩ := hown.sl entryC_good
    obtain rfl : n4 = 0 := by have := hs4.len; simpa using this.symm
    clear hown hs4
    go_wp2_with (go_at_call 19; refine (folioBegun_any _).mono ?_; rintro e w' ⟨rfl, hb2⟩)
    go_ret
    exact ⟨rfl, hb1.trans (hb2.mono hb1.size)⟩

set_option maxRecDepth 100000 in
theorem FolioCancel_lifted (os : Os) (started : os.Started) (H : Type) (enc : TypeId × Value → H) :
    ReturnsInHanded {} Try.checked os 4 .any (Rows.folioCancelSpec.pre6 enc Try.prog Try.f4 Rows.folioCancelRow.domain false) (Rows.folioCancelSpec.post enc Try.prog Try.f4 false true false false) := by
  refine returnsInHanded_of_change (C := Try.checked) own started (by kernel_rfl) Try.func4
    (ChangeSpec.witness6 (enc := enc) (C := Try.checked) false ⟨#[], #[.slice none 0 0, .int .i64 0, .int .i64 0], []⟩ 8 (by kernel_rfl) (by kernel_rfl) (by kernel_rfl) (by kernel_rfl)) ?_
  intro W base args ds gs before hval0 hW hcnd _
  have hval : ∀ (j : Nat) t v, Try.f4.params[j]? = some t → args[j]? = some v → Value.okWide Try.prog W .any base t v := hval0
  have hW' := hW
  obtain ⟨p, q, hA0, hV, rfl, hfz, hnd⟩ := hW
  have hA : DataW.TrodAll enc Try.prog W 0 (fun _ => true) true Try.f4.params.toList args.toList ds p := hA0
  rw [Try.params4] at hA hval
  obtain ⟨v0, vs0, d0, ds0, p0, q0, hargs, rfl, rfl, h0, r0⟩ := trodAll_cons hA
  obtain ⟨v1, vs1, d1, ds1, p1, q1, rfl, rfl, rfl, h1, r1⟩ := trodAll_cons r0
  obtain ⟨v2, vs2, d2, ds2, p2, q2, rfl, rfl, rfl, h2, r2⟩ := trodAll_cons r1
  obtain ⟨rfl, rfl, rfl⟩ := trodAll_nil r2
  obtain rfl : args = #[v0, v1, v2] := by cases args; simp_all
  obtain ⟨rfl, rfl⟩ := trodVars_none hV
  have lt0 := arg_lt h0
  have k0 := h0
  obtain ⟨A0, n0, c0, a0, rfl, w0⟩ := arg_sl (size := 3) Try.underlying22 (by kernel_rfl) (by omega) opens_entryC (hval 0 22 v0 rfl rfl) h0
  have lt1 := arg_lt h1
  have k1 := h1
  obtain ⟨a1, rfl, w1⟩ := arg_int Try.underlying3 (hval 1 3 v1 rfl rfl) h1
  have lt2 := arg_lt h2
  have k2 := h2
  obtain ⟨a2, rfl, w2⟩ := arg_int Try.underlying3 (hval 2 3 v2 rfl rfl) h2
  clear hA0 hval0
  refine (FolioCancel_walk W A0 n0 c0 a0 w0 a1 w1 a2 w2).mono fun e W' ⟨he, bel⟩ => ?_
  subst he
  exact ⟨_, rfl, _, _, _, [], _, [], hW', trodAll_mk1 (shut_bool Try.underlying4 _), (trodAll_cons_mk (Below.trod laidOut (by kernel_rfl) (of_decide_eq_true (by kernel_rfl)) k0 bel lt0) (trodAll_cons_mk (Below.trod laidOut (by kernel_rfl) (of_decide_eq_true (by kernel_rfl)) k1 bel lt1) (trodAll_cons_mk (Below.trod laidOut (by kernel_rfl) (of_decide_eq_true (by kernel_rfl)) k2 bel lt2) trodAll_mk0))), rfl, bel.frame _, fun h => by cases h⟩

/-- THE GIVEN STATEMENT FolioCancel. -/
theorem folioCancel_holds : Rows.FolioCancelSaid :=
  OpenClaim.holds_of_wide 4 Try.f4 rfl rfl rfl rfl rfl rfl rfl ⟨rfl, rfl, rfl, rfl, rfl⟩ rfl rfl rfl rfl rfl (by kernel_rfl) Try.func4 (by kernel_rfl)
    (of_decide_eq_true (by kernel_rfl)) (by unfold Func.isWrapper; rw [if_neg (of_decide_eq_false (by kernel_rfl))]; exact ⟨rfl, rfl⟩)
    (fun os started H enc _ => FolioCancel_lifted os started H enc)
#print axioms folioCancel_holds
end Go.Proofs.Ytehebngkjfjkbaa
