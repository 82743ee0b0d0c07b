/-
  Requests: code.Check.
-/
import Derived.Test.YtehebngkjfjkbaaCodeF
namespace Go.Proofs.Ytehebngkjfjkbaa
open Go.RowKit Go.Shelf

theorem all_take_succ {α : Type} {p : α → Bool} {l : List α} {k : Nat} {x : α} (hx : l[k]? = some x) : (l.take (k + 1)).all p = ((l.take k).all p && p x) := by rw [take_snoc hx]; simp
theorem all_at {α : Type} {p : α → Bool} {l : List α} {k : Nat} {x : α} (hx : l[k]? = some x) (hp : p x = false) : l.all p = false := by
  rw [List.all_eq_false]; exact ⟨x, List.mem_of_getElem? hx, by simp [hp]⟩

set_option maxRecDepth 100000 in
set_option maxHeartbeats 2000000 in
theorem codeCheck_any (x : Ask) (w : World) : Calls Try.prog 41 #[.agg (askA x)] w fun e w' => e = .returned (.int .i64 (codeE x)) ∧ Below w.heap.size w w' := by
  obtain ⟨r, hr⟩ : ∃ r, r = codeE x := ⟨_, rfl⟩
  rw [← hr]
  have HR := Lib.hid hr
  clear hr
  unfold askA
  go_enter Try.func41, Try.ntmps41
  go_upto_region 1 with (fail)
  go_cut [1, 3] (fun a b wx => ∃ b1 b2, a = .pointer (some ⟨b1, 0, none⟩) ∧ b = .pointer (some ⟨b2, 0, none⟩) ∧ AskAt wx b1 x ∧ Blk wx b2 #[.int .i64 0] 3 ∧ Below w.heap.size w wx ∧ w.heap.size ≤ b1 ∧ w.heap.size ≤ b2 ∧ b1 ≠ b2)
  case first => as_aux_lemma =>
    go_wp2_with fail
    go_meet
    exact ⟨_, _, rfl, rfl, blk2_0 _ _ _, blk2_1 _ _ _, bel2 _ _ _, by omega, by omega, by omega⟩
  obtain ⟨b1, b2, rfl, rfl, hB, hL, hb, ge1, ge2, n12⟩ := hcut
  go_wp2_with fail
  refine (parts_any b1 b2 x.kind _ (hB.cell rfl)).mono ?_
  rintro e w2 ⟨A, n, cap, rfl, hS, hb2⟩
  have hS := hS.all (partC_good _ _) (by omega)
  replace hB := hB.bel hb2
  replace hL := hL.bel hb2
  replace hb := hb.trans (hb2.mono hb.size)
  clear hb2
  obtain ⟨pl, hpl⟩ : ∃ pl, pl = partsL x.kind := ⟨_, rfl⟩
  rw [← hpl] at hS
  have HPL := Lib.hid hpl
  clear hpl
  have hbd := hS.bd
  obtain ⟨c0, c1, c2, c3, c4, c5, c6, c7, c8, c9, c10⟩ := hB.all
  cases q_HK : betB x.kind 1 8 <;> have HK := Lib.hid q_HK <;> clear q_HK
  · obtain rfl : r = 7 := by rw [HR.out]; unfold codeE; rw [if_pos HK.out]
    go_wp2_with fail
    go_ret
    exact ⟨rfl, hb⟩
  have HR1 := Lib.hid (show r = if betB x.number 1 65535 = false then 3 else if bareB x = false then 1 else if pl.all (partOk x) then 0 else 3 by
    rw [HR.out]; unfold codeE; rw [if_neg (by rw [HK.out]; simp), HPL.out])
  by_cases hn1 : x.number < 1
  · obtain rfl : r = 3 := by rw [HR1.out, if_pos (betB_false (.inl hn1))]
    go_wp2_with fail
    go_ret
    exact ⟨rfl, hb⟩
  by_cases hn2 : 65535 < x.number
  · obtain rfl : r = 3 := by rw [HR1.out, if_pos (betB_false (.inr hn2))]
    go_wp2_with fail
    go_ret
    exact ⟨rfl, hb⟩
  have HR2 := Lib.hid (show r = if bareB x = false then 1 else if pl.all (partOk x) then 0 else 3 by
    rw [HR1.out, if_neg (by rw [betB_true (by omega) (by omega)]; simp)])
  have hbare := fun W => bare_any x W
  dsimp only [askA] at hbare
  have HBA := Lib.hid hbare
  clear hbare
  go_wp2_with fail
  refine (HBA.out _).mono ?_
  rintro e w3 ⟨rfl, hb3⟩
  replace hb := hb.trans (hb3.mono hb.size)
  replace hB := hB.bel hb3
  replace hL := hL.bel hb3
  replace hS := hS.bel hb3
  clear hb3 c0 c1 c2 c3 c4 c5 c6 c7 c8 c9 c10 hn1 hn2
  cases q_HBB : bareB x <;> have HBB := Lib.hid q_HBB <;> clear q_HBB
  · obtain rfl : r = 1 := by rw [HR2.out, if_pos HBB.out]
    go_wp2_with fail
    go_ret
    exact ⟨rfl, hb⟩
  have HR3 := Lib.hid (show r = if pl.all (partOk x) then 0 else 3 by rw [HR2.out, if_neg (by rw [HBB.out]; simp)])
  go_wp2_with fail
  go_loopg [30] n (fun gk i wr => ∃ k : Nat, k ≤ n ∧ n - k ≤ gk ∧ i = .int .i64 k ∧ Aside ((pl.take k).all (partOk x) = true) ∧ Below w3.heap.size w3 wr)
  case atStart => exact ⟨0, Nat.zero_le _, by omega, rfl, rfl, Below.refl _ _⟩
  case round =>
    obtain ⟨k, hk, hgk, rfl, HA, hb3⟩ := hrel
    by_cases hlt : k < n
    · obtain ⟨b, off, p, d0, d1, d2, rfl, hx, ⟨hc, _⟩, g0, g1, g2⟩ := (hS.bel hb3).at3 hlt
      simp only [List.cons.injEq, and_true] at hc
      obtain ⟨rfl, rfl, rfl⟩ := hc
      have hpm : p ∈ partsL x.kind := by rw [← HPL.out]; exact List.mem_of_getElem? hx
      have hbA := hb3.alloc hb3.size (.cells #[.int .i64 p.bytes, .int .i64 p.most, .pointer (some (partAt b1 b2 p.ix))] 101)
      have hP := (mem_at (hB.bel hbA) (hL.bel hbA) hpm).1
      obtain ⟨v, hv⟩ : ∃ v, v = memF x 0 p.ix := ⟨_, rfl⟩
      rw [← hv] at hP
      have HX := Lib.hid hx
      have HV := Lib.hid (show partOk x p = betB v 0 p.most by rw [hv]; rfl)
      have HM := Lib.hid hpm
      clear hx hpm hv
      by_cases hv0 : v < 0
      · obtain rfl : r = 3 := by rw [HR3.out, if_neg (by rw [all_at HX.out (by rw [HV.out]; exact betB_false (.inl hv0))]; simp)]
        have hd : decide (v < 0) = true := decide_eq_true hv0
        go_wp2_with fail
        go_quiet (fail)
        go_wp2_with fail
        go_ret
        exact ⟨rfl, hb.trans ((below_drewN hbA _).mono hb.size)⟩
      have hd : decide (v < 0) = false := decide_eq_false hv0
      by_cases hv1 : p.most < v
      · obtain rfl : r = 3 := by rw [HR3.out, if_neg (by rw [all_at HX.out (by rw [HV.out]; exact betB_false (.inr hv1))]; simp)]
        have hd1 : decide (p.most < v) = true := decide_eq_true hv1
        go_wp2_with fail
        go_quiet (fail)
        go_wp2_with fail
        go_ret
        exact ⟨rfl, hb.trans ((below_drewN hbA _).mono hb.size)⟩
      have hd1 : decide (p.most < v) = false := decide_eq_false hv1
      have HH := Lib.hid (show partOk x p = true by rw [HV.out]; exact betB_true (by omega) (by omega))
      go_wp2_with fail
      go_quiet (fail)
      go_wp2_with fail
      go_roundg (n - (k + 1))
      case measure => omega
      case rel => exact ⟨k + 1, by omega, by omega, by go_num, (show Aside _ from by show _ = _; rw [all_take_succ HX.out, HA, HH.out]; rfl), below_drewN hbA _⟩
    · obtain rfl : k = n := by omega
      have HT := Lib.hid (show pl.take k = pl from List.take_of_length_le (Nat.le_of_eq hS.len))
      obtain rfl : r = 0 := by rw [HR3.out, if_pos (by rw [← HT.out]; exact HA)]
      go_wp2_with fail
      go_ret
      exact ⟨rfl, hb.trans (hb3.mono hb.size)⟩
end Go.Proofs.Ytehebngkjfjkbaa
