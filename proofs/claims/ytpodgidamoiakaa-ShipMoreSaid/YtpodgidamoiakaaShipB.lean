/-
  Ships: names, one by one (ship.names).
-/
import Derived.Test.YtpodgidamoiakaaShipA
import Derived.Test.YtpodgidamoiakaaTally
namespace Go.Proofs.Ytpodgidamoiakaa
open Go.RowKit Go.Shelf Go.Maps

/-- What is wrong with the k-th name; f: what is wrong with what bears it. -/
def nmE (l : List (List UInt8)) (f : Nat → Int) (k : Nat) : Int := if nameB (l.getD k []) = false then 1 else if (l.take k).contains (l.getD k []) then 6 else f k

theorem mapLaw : Keyed Try.prog 9 := string_keyed Try.underlying9
theorem zeroInt (w : World) : (zeroValue 3).run Try.prog w = .ok (.int .i64 0) w := by kernel_rfl
theorem key_s {s : List UInt8} (hs : s.length ≤ maxLen) : keyOf Try.prog 9 (.string ⟨s.toArray⟩) = some (.string s) := by
  have := WideMaps.keyOf_string_mk (P := Try.prog) Try.underlying9 (s := ⟨s.toArray⟩) (by show s.toArray.size ≤ _; simpa using hs)
  simpa using this

set_option maxRecDepth 100000 in
set_option maxHeartbeats 4000000 in
theorem names_any (A : Option Addr) (n cap : Nat) (l : List (List UInt8)) (g : Nat) (lb : Array Value) (f : Nat → Int) (w : World) (h : Sl strC 1 w All A n cap l)
    (eg : ∀ args w, (callFunc g args).run Try.prog w = .ok (.enter g args) w)
    (hp : ∀ (k : Nat) (w1 : World), k < n → Below w.heap.size w w1 → Calls Try.prog g (#[.int .i64 (k : Int)] ++ lb) w1 fun e w' => e = .returned (.int .i64 (f k)) ∧ Below w1.heap.size w1 w') :
    Calls Try.prog 53 #[.slice A n cap, .func (.func g) #[] lb] w fun e w' => e = .returned (.int .i64 (firstE (nmE l f) l.length)) ∧ Below w.heap.size w w' := by
  have hmm := @run_makeMap Try.prog
  have hbd := h.bd
  have hmx : n ≤ maxLen := by have := h.le; have := h.max; omega
  have HMX := Lib.hid hmx
  clear hmx
  have HP := Lib.hid hp
  clear hp
  obtain ⟨r, hr⟩ : ∃ r, r = firstE (nmE l f) l.length := ⟨_, rfl⟩
  rw [← hr]
  rw [h.len] at hr
  have HR := Lib.hid hr
  clear hr
  go_enter Try.func53, Try.ntmps53
  go_wp2_with fail
  go_loopg [12] n (fun gk i wr => ∃ k : Nat, k ≤ n ∧ n - k ≤ gk ∧ i = .int .i64 k ∧ Aside (firstE (nmE l f) k = 0) ∧ Tally Try.prog wr 9 3 w.heap.size k (cntS (l.take k)) ∧ Below w.heap.size w wr)
  case atStart => exact ⟨0, Nat.zero_le _, by omega, rfl, rfl, by rw [List.take_zero, cntS_nil]; exact Tally.made _ _ _ _, (Below.refl _ _).alloc (Nat.le_refl _) _⟩
  case round =>
    obtain ⟨k, hk, hgk, rfl, HA, hT, hb⟩ := hrel
    by_cases hlt : k < n
    · obtain ⟨b, off, x, c0, rfl, hx, ⟨hc, hxl⟩, g0⟩ := (h.bel hb).at1 hlt
      simp only [List.cons.injEq, and_true] at hc
      obtain rfl := hc
      have HV := Lib.hid (show nmE l f k = if nameB x = false then 1 else if (l.take k).contains x then 6 else f k by unfold nmE; rw [getD_of hx])
      have HX := Lib.hid hx
      obtain ⟨q, hq⟩ : ∃ q : Nat, q = (l.take k).count x := ⟨_, rfl⟩
      have hqk : q ≤ k := by rw [hq]; exact Nat.le_trans List.count_le_length (by rw [List.length_take]; omega)
      have HQ := Lib.hid (show cntS (l.take k) (.string x) = (q : Int) by rw [hq]; rfl)
      have HQ1 := Lib.hid (show cntS (l.take (k + 1)) (.string x) = (q : Int) + 1 by rw [take_snoc hx, cntS_snoc, hq])
      have HO := Lib.hid (show ∀ y, y ≠ .string x → cntS (l.take (k + 1)) y = cntS (l.take k) y from fun y hy => by rw [take_snoc hx, cntS_other _ _ _ hy])
      have HCN := Lib.hid (show (l.take k).contains x = decide (0 < q) by
        rw [hq]
        cases hcn : (l.take k).contains x
        · have h2 : x ∉ l.take k := by simpa using hcn
          rw [List.count_eq_zero_of_not_mem h2]; rfl
        · have h2 : x ∈ l.take k := by simpa using hcn
          rw [decide_eq_true (List.count_pos_iff.2 h2)])
      have HKY := Lib.hid (key_s hxl)
      have HNM := Lib.hid (fun W => name_any x W hxl)
      have HTT := Lib.hid hT
      clear hx hq hxl hT
      have hw : wrap64 ((q : Int) + 1) = (q : Int) + 1 := by unfold wrap64; omega
      go_wp2_with (first
        | (at_lookup; refine wpList_lookup_tally _ rfl _ _ 111 rfl 9 3 mapLaw Try.underlying111 Try.underlying3 (zeroInt _) w.heap.size k _ rfl HTT.out _ _ rfl HKY.out _ HQ.out ?_)
        | (at_mapUpdate; refine wpList_update_tally _ rfl _ _ _ 111 rfl 9 3 mapLaw Try.underlying111 Try.underlying3 w.heap.size k _ (cntS (l.take (k + 1))) rfl HTT.out (by have := HMX.out; omega) _ _ ((q : Int) + 1) rfl rfl HKY.out trivial (WalkArith.wf_i64 (by omega)) HQ1.out HO.out ?_; intro w1 hT1 hgr1))
      have hb1 := hb.grown hgr1 hb.size (fun j hj => by cases hj; exact Nat.le_refl _)
      clear hgr1
      have HT1 := Lib.hid hT1
      clear hT1
      cases b1 : nameB x
      · have hv : nmE l f k = 1 := by rw [HV.out, if_pos b1]
        have hr : r = 1 := by rw [HR.out, firstE_at HA (by rw [hv]; decide) hlt, hv]
        subst hr
        rw [b1] at HNM
        clear b1 hv
        refine (HNM.out _).mono ?_
        rintro e w2 ⟨rfl, rfl⟩
        go_wp2_with fail
        go_ret
        exact ⟨rfl, hb1⟩
      · have HV2 := Lib.hid (show nmE l f k = if 0 < q then 6 else f k by
          rw [HV.out, if_neg (by rw [b1]; simp), HCN.out]
          by_cases h0 : 0 < q
          · rw [decide_eq_true h0, if_pos rfl, if_pos h0]
          · rw [decide_eq_false h0, if_neg (by simp), if_neg h0])
        rw [b1] at HNM
        clear b1
        refine (HNM.out _).mono ?_
        rintro e w2 ⟨rfl, rfl⟩
        by_cases h0 : 0 < q
        · have hv : nmE l f k = 6 := by rw [HV2.out, if_pos h0]
          have hr : r = 6 := by rw [HR.out, firstE_at HA (by rw [hv]; decide) hlt, hv]
          subst hr
          clear hv
          go_wp2_with (at_lookup; refine wpList_lookup_tally _ rfl _ _ 111 rfl 9 3 mapLaw Try.underlying111 Try.underlying3 (zeroInt _) w.heap.size (k + 1) _ rfl HT1.out _ _ rfl HKY.out _ HQ1.out ?_)
          all_goals first | omega | skip
          go_ret
          exact ⟨rfl, hb1⟩
        · obtain rfl : q = 0 := by omega
          obtain ⟨v, hv⟩ : ∃ v, v = f k := ⟨_, rfl⟩
          have hcall := HP.out k _ hlt hb1
          rw [← hv] at hcall
          have HV3 := Lib.hid (show nmE l f k = v by rw [HV2.out, if_neg (by omega), hv])
          have HCALL := Lib.hid hcall
          clear hv hcall h0
          go_wp2_with (at_lookup; refine wpList_lookup_tally _ rfl _ _ 111 rfl 9 3 mapLaw Try.underlying111 Try.underlying3 (zeroInt _) w.heap.size (k + 1) _ rfl HT1.out _ _ rfl HKY.out _ HQ1.out ?_)
          refine HCALL.out.mono ?_
          rintro e w3 ⟨rfl, hb3⟩
          have hb4 := hb1.trans (hb3.mono hb1.size)
          have HT2 := Lib.hid (HT1.out.bel hb3)
          clear hb3
          by_cases hv : v = 0
          · subst hv
            have HK := Lib.hid (firstE_succ HA HV3.out)
            go_wp2_with fail
            go_roundg (n - (k + 1))
            case measure => omega
            case rel => exact ⟨k + 1, by omega, by omega, by go_num, HK.out, HT2.out, hb4⟩
          · have hr : r = v := by rw [HR.out, firstE_at HA (by rw [HV3.out]; exact hv) hlt, HV3.out]
            subst hr
            have hv' : (r != 0) = true := by simpa using hv
            clear hv
            go_wp2_with fail
            go_ret
            exact ⟨rfl, hb4⟩
    · obtain rfl : k = n := by omega
      have hr : r = 0 := by rw [HR.out]; exact HA
      subst hr
      go_wp2_with fail
      go_ret
      exact ⟨rfl, hb⟩
end Go.Proofs.Ytpodgidamoiakaa
