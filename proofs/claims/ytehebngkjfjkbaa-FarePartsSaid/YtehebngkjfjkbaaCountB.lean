/-
  Counts: Check and ready, and the reference's CheckSpan, CheckCount, CheckMore.
-/
import Derived.Test.YtehebngkjfjkbaaCountA
namespace Go.Proofs.Ytehebngkjfjkbaa
open Go.RowKit Go.Shelf

theorem check1_any (x : Int) (w : World) : Calls Try.prog 70 #[.int .i64 x] w fun e w' => e = .returned (.bool (!soulsB x)) ∧ Below w.heap.size w w' := by
  go_enter Try.func70, Try.ntmps70
  go_wp2_with (go_at_call 64; refine (souls_any _ _).mono ?_; rintro e w' ⟨rfl, rfl⟩)
  go_ret
  exact ⟨rfl, Below.refl _ _⟩

set_option maxHeartbeats 1000000 in
theorem countCheck_any (A : Option Addr) (n cap : Nat) (l : List Int) (legs : Int) (w : World) (h : Sl intC 1 w All A n cap l) :
    Calls Try.prog 31 #[.slice A n cap, .int .i64 legs] w fun e w' => e = .returned (.int .i64 (countE l legs)) ∧ Below w.heap.size w w' := by
  have HN := Lib.hid h.len
  obtain ⟨r, hr⟩ : ∃ r, r = countE l legs := ⟨_, rfl⟩
  rw [← hr]
  have HR := Lib.hid hr
  clear hr
  have hc := fun W => legs_any legs W
  have hf := ContainsFunc_int A n cap l 70 #[] (fun x => !soulsB x) w h (enters_of Try.func70 (by kernel_rfl) rfl) (fun x w1 _ _ => by simpa using check1_any x w1)
  have HF := Lib.hid hf
  clear hf
  cases hq : legsB legs
  · rw [hq] at hc
    have HQ := Lib.hid hq
    clear hq
    go_enter Try.func31, Try.ntmps31
    go_wp2_with (go_at_call 69; refine (hc _).mono ?_; rintro e w' ⟨rfl, rfl⟩)
    go_ret
    exact ⟨retI (by rw [HR.out]; unfold countE; rw [if_pos HQ.out]), Below.refl _ _⟩
  · rw [hq] at hc
    have HQ := Lib.hid hq
    clear hq
    by_cases hn : (n : Int) = legs
    · subst hn
      obtain ⟨b, hb⟩ : ∃ b, b = l.any (fun x => !soulsB x) := ⟨_, rfl⟩
      rw [← hb] at HF
      have HB := Lib.hid hb
      clear hb
      cases b
      all_goals
        go_enter Try.func31, Try.ntmps31
        go_wp2_with (first | (go_at_call 69; refine (hc _).mono ?_; rintro e w' ⟨rfl, rfl⟩) | (go_at_call 65; refine HF.out.mono ?_; rintro e w' ⟨rfl, hb⟩))
        go_ret
        exact ⟨retI (by rw [HR.out]; unfold countE; rw [if_neg (by rw [HQ.out]; simp), if_neg (by simp [HN.out]), ← HB.out]; rfl), hb⟩
    · have hn' : ((n : Int) != legs) = true := by simpa using hn
      have HN' := Lib.hid hn
      clear hn
      go_enter Try.func31, Try.ntmps31
      go_wp2_with (go_at_call 69; refine (hc _).mono ?_; rintro e w' ⟨rfl, rfl⟩)
      go_ret
      exact ⟨retI (by rw [HR.out]; unfold countE; rw [if_neg (by rw [HQ.out]; simp), if_pos (by rw [HN.out]; exact HN'.out)]), Below.refl _ _⟩

set_option maxHeartbeats 1000000 in
theorem ready_any (A : Option Addr) (n cap : Nat) (l : List Int) (legs a b m : Int) (w : World) (h : Sl intC 1 w All A n cap l) :
    Calls Try.prog 63 #[.slice A n cap, .int .i64 legs, .agg #[.int .i64 a, .int .i64 b], .int .i64 m] w fun e w' => e = .returned (.int .i64 (readyE l legs ⟨a, b⟩ m)) ∧ Below w.heap.size w w' := by
  have hb0 : Below w.heap.size w (w.alloc (.cells #[.int .i64 a, .int .i64 b] 40)) := (Below.refl _ _).alloc (Nat.le_refl _) _
  have hck := countCheck_any A n cap l legs _ (h.below intC_good (by omega) hb0)
  have hsp := fun W => spanCheck_any a b legs W
  have hso := fun W => souls_any m W
  obtain ⟨r, hr⟩ : ∃ r, r = readyE l legs ⟨a, b⟩ m := ⟨_, rfl⟩
  obtain ⟨r1, hr1⟩ : ∃ r1, r1 = countE l legs := ⟨_, rfl⟩
  obtain ⟨r2, hr2⟩ : ∃ r2, r2 = spanE ⟨a, b⟩ legs := ⟨_, rfl⟩
  rw [← hr]
  rw [← hr1] at hck
  rw [← hr2] at hsp
  have HR := Lib.hid hr
  have HR1 := Lib.hid hr1
  have HR2 := Lib.hid hr2
  have HK := Lib.hid hck
  have HS := Lib.hid hsp
  clear hr hr1 hr2 hck hsp
  by_cases h1 : r1 = 0
  · subst h1
    by_cases h2 : r2 = 0
    · subst h2
      cases hq : soulsB m
      all_goals
        rw [show soulsB m = soulsB m from rfl, hq] at hso
        have HO := Lib.hid hso
        have HQ := Lib.hid hq
        clear hso hq
        go_enter Try.func63, Try.ntmps63
        go_wp2_with fail
        refine HK.out.mono ?_
        rintro e w1 ⟨rfl, hb1⟩
        have hx0 : w1.cell? ⟨w.heap.size, 0, none⟩ = some (.int .i64 a) := (hb1.cell (p := ⟨w.heap.size, 0, none⟩) (by simp)).trans (by simp)
        have hx1 : w1.cell? ⟨w.heap.size, 1, none⟩ = some (.int .i64 b) := (hb1.cell (p := ⟨w.heap.size, 1, none⟩) (by simp)).trans (by simp)
        replace hb1 := hb0.trans (hb1.mono hb0.size)
        go_wp2_with (first | (go_at_call 80; refine (HS.out _).mono ?_; rintro e w2 ⟨rfl, hb2⟩; replace hb2 := hb1.trans (hb2.mono hb1.size)) | (go_at_call 64; refine (HO.out _).mono ?_; rintro e w' ⟨rfl, rfl⟩))
        go_ret
        exact ⟨retI (by rw [HR.out]; unfold readyE; rw [← HR1.out, ← HR2.out, HQ.out]; rfl), hb2⟩
    · have h2' : (r2 == 0) = false := by simpa using h2
      have H2 := Lib.hid h2
      clear h2
      go_enter Try.func63, Try.ntmps63
      go_wp2_with fail
      refine HK.out.mono ?_
      rintro e w1 ⟨rfl, hb1⟩
      have hx0 : w1.cell? ⟨w.heap.size, 0, none⟩ = some (.int .i64 a) := (hb1.cell (p := ⟨w.heap.size, 0, none⟩) (by simp)).trans (by simp)
      have hx1 : w1.cell? ⟨w.heap.size, 1, none⟩ = some (.int .i64 b) := (hb1.cell (p := ⟨w.heap.size, 1, none⟩) (by simp)).trans (by simp)
      replace hb1 := hb0.trans (hb1.mono hb0.size)
      go_wp2_with (go_at_call 80; refine (HS.out _).mono ?_; rintro e w2 ⟨rfl, hb2⟩; replace hb2 := hb1.trans (hb2.mono hb1.size))
      go_ret
      exact ⟨retI (by rw [HR.out]; unfold readyE; rw [← HR1.out, ← HR2.out, if_neg (by simp), if_pos H2.out]), hb2⟩
  · have h1' : (r1 == 0) = false := by simpa using h1
    have H1 := Lib.hid h1
    clear h1
    go_enter Try.func63, Try.ntmps63
    go_wp2_with fail
    refine HK.out.mono ?_
    rintro e w1 ⟨rfl, hb1⟩
    replace hb1 := hb0.trans (hb1.mono hb0.size)
    go_wp2_with fail
    go_ret
    exact ⟨retI (by rw [HR.out]; unfold readyE; rw [← HR1.out, if_pos H1.out]), hb1⟩

set_option maxHeartbeats 1000000 in
theorem CheckSpan_any (a b : Int) (legs : Int) (w : World) : Calls Try.prog 46 #[.agg #[.int .i64 a, .int .i64 b], .int .i64 legs] w fun e w' => e = .returned (.int .i64 (spanE ⟨a, b⟩ legs)) ∧ Below w.heap.size w w' := by
  go_enter Try.func46, Try.ntmps46
  have hl : ∃ q, q = legsB legs := ⟨_, rfl⟩
  obtain ⟨q, hq⟩ := hl
  have HQ := Lib.hid hq
  have hc := fun W => between_any legs 1 7 W
  rw [show betB legs 1 7 = legsB legs from rfl, ← hq] at hc
  clear hq
  cases q
  all_goals go_wp2_with (go_at_call 57; refine (hc _).mono ?_; rintro e w' ⟨rfl, rfl⟩)
  all_goals go_ret
  all_goals refine ⟨retI ?_, (Below.refl _ _).alloc (Nat.le_refl _) _⟩
  all_goals (try simp at *)
  all_goals unfold spanE
  all_goals rw [HQ.out]
  all_goals dsimp only
  all_goals simp
  all_goals (repeat' split)
  all_goals omega

set_option maxHeartbeats 1000000 in
theorem CheckCount_any (A : Option Addr) (n cap : Nat) (l : List Int) (legs : Int) (w : World) (h : Sl intC 1 w All A n cap l) :
    Calls Try.prog 32 #[.slice A n cap, .int .i64 legs] w fun e w' => e = .returned (.int .i64 (countE l legs)) ∧ Below w.heap.size w w' := by
  have hbd := h.bd
  have HN := Lib.hid h.len
  obtain ⟨r, hr⟩ : ∃ r, r = countE l legs := ⟨_, rfl⟩
  rw [← hr]
  have HR := Lib.hid hr
  clear hr
  have hc := fun W => between_any legs 1 7 W
  rw [show betB legs 1 7 = legsB legs from rfl] at hc
  cases hq : legsB legs
  · rw [hq] at hc
    have HQ := Lib.hid hq
    clear hq
    go_enter Try.func32, Try.ntmps32
    go_wp2_with (go_at_call 57; refine (hc _).mono ?_; rintro e w' ⟨rfl, rfl⟩)
    go_ret
    exact ⟨retI (by rw [HR.out]; unfold countE; rw [if_pos HQ.out]), Below.refl _ _⟩
  · rw [hq] at hc
    have HQ := Lib.hid hq
    clear hq
    by_cases hn : (n : Int) = legs
    · subst hn
      have HV := Lib.hid (show r = if l.any (fun x => !soulsB x) then 3 else 0 by rw [HR.out]; unfold countE; rw [if_neg (by rw [HQ.out]; simp), if_neg (by simp [HN.out])])
      go_enter Try.func32, Try.ntmps32
      go_wp2_with (go_at_call 57; refine (hc _).mono ?_; rintro e w' ⟨rfl, rfl⟩)
      go_loopg [5] n (fun gk i wr => ∃ k : Nat, k ≤ n ∧ n - k ≤ gk ∧ i = .int .i64 k ∧ Aside ((l.take k).any (fun x => !soulsB x) = false) ∧ wr = w)
      case atStart => exact ⟨0, Nat.zero_le _, by omega, rfl, rfl, rfl⟩
      case round =>
        obtain ⟨k, hk, hgk, rfl, HA, rfl⟩ := hrel
        by_cases hlt : k < n
        · obtain ⟨b, off, x, c0, rfl, hx, ⟨hcc, b0⟩, g0⟩ := h.at1 hlt
          simp only [List.cons.injEq, and_true] at hcc
          subst hcc
          have HX := Lib.hid hx
          clear hx
          have hs := fun W => between_any x 0 60 W
          rw [show betB x 0 60 = soulsB x from rfl] at hs
          cases hq2 : soulsB x
          · rw [hq2] at hs
            have HQ2 := Lib.hid hq2
            clear hq2
            go_wp2_with (go_at_call 57; refine (hs _).mono ?_; rintro e w' ⟨rfl, rfl⟩)
            go_ret
            exact ⟨retI (by rw [HV.out, any_at HX.out (by rw [HQ2.out]; rfl)]; rfl), Below.refl _ _⟩
          · rw [hq2] at hs
            have HQ2 := Lib.hid hq2
            clear hq2
            go_wp2_with (go_at_call 57; refine (hs _).mono ?_; rintro e w' ⟨rfl, rfl⟩)
            go_roundg (n - (k + 1))
            case measure => omega
            case rel => exact ⟨k + 1, by omega, by omega, by go_num, by show _ = _; rw [any_take_succ HX.out, HA, HQ2.out]; rfl, rfl⟩
        · have : k = n := by omega
          subst this
          have HT := Lib.hid (List.take_of_length_le (Nat.le_of_eq h.len))
          go_wp2_with fail
          go_ret
          exact ⟨retI (by rw [HV.out, ← HT.out, HA]; rfl), Below.refl _ _⟩
    · have hn' : ((n : Int) != legs) = true := by simpa using hn
      have HN' := Lib.hid hn
      clear hn
      go_enter Try.func32, Try.ntmps32
      go_wp2_with (go_at_call 57; refine (hc _).mono ?_; rintro e w' ⟨rfl, rfl⟩)
      go_ret
      exact ⟨retI (by rw [HR.out]; unfold countE; rw [if_neg (by rw [HQ.out]; simp), if_pos (by rw [HN.out]; exact HN'.out)]), Below.refl _ _⟩

set_option maxHeartbeats 1000000 in
theorem CheckMore_any (A : Option Addr) (n cap : Nat) (l : List Int) (legs a b m : Int) (w : World) (h : Sl intC 1 w All A n cap l) :
    Calls Try.prog 27 #[.slice A n cap, .int .i64 legs, .agg #[.int .i64 a, .int .i64 b], .int .i64 m] w fun e w' => e = .returned (.int .i64 (readyE l legs ⟨a, b⟩ m)) ∧ Below w.heap.size w w' := by
  have hb0 : Below w.heap.size w (w.alloc (.cells #[.int .i64 a, .int .i64 b] 40)) := (Below.refl _ _).alloc (Nat.le_refl _) _
  have hck := CheckCount_any A n cap l legs _ (h.below intC_good (by omega) hb0)
  have hsp := fun W => CheckSpan_any a b legs W
  have hso := fun W => between_any m 0 60 W
  obtain ⟨r, hr⟩ : ∃ r, r = readyE l legs ⟨a, b⟩ m := ⟨_, rfl⟩
  obtain ⟨r1, hr1⟩ : ∃ r1, r1 = countE l legs := ⟨_, rfl⟩
  obtain ⟨r2, hr2⟩ : ∃ r2, r2 = spanE ⟨a, b⟩ legs := ⟨_, rfl⟩
  rw [← hr]
  rw [← hr1] at hck
  rw [← hr2] at hsp
  have HR := Lib.hid hr
  have HR1 := Lib.hid hr1
  have HR2 := Lib.hid hr2
  have HK := Lib.hid hck
  have HS := Lib.hid hsp
  clear hr hr1 hr2 hck hsp
  by_cases h1 : r1 = 0
  · subst h1
    by_cases h2 : r2 = 0
    · subst h2
      cases hq : soulsB m
      all_goals
        rw [show betB m 0 60 = soulsB m from rfl, hq] at hso
        have HO := Lib.hid hso
        have HQ := Lib.hid hq
        clear hso hq
        go_enter Try.func27, Try.ntmps27
        go_wp2_with fail
        refine HK.out.mono ?_
        rintro e w1 ⟨rfl, hb1⟩
        have hx0 : w1.cell? ⟨w.heap.size, 0, none⟩ = some (.int .i64 a) := (hb1.cell (p := ⟨w.heap.size, 0, none⟩) (by simp)).trans (by simp)
        have hx1 : w1.cell? ⟨w.heap.size, 1, none⟩ = some (.int .i64 b) := (hb1.cell (p := ⟨w.heap.size, 1, none⟩) (by simp)).trans (by simp)
        replace hb1 := hb0.trans (hb1.mono hb0.size)
        go_wp2_with (first | (go_at_call 46; refine (HS.out _).mono ?_; rintro e w2 ⟨rfl, hb2⟩; replace hb2 := hb1.trans (hb2.mono hb1.size)) | (go_at_call 57; refine (HO.out _).mono ?_; rintro e w' ⟨rfl, rfl⟩))
        go_ret
        exact ⟨retI (by rw [HR.out]; unfold readyE; rw [← HR1.out, ← HR2.out, HQ.out]; rfl), hb2⟩
    · have h2' : (r2 == 0) = false := by simpa using h2
      have H2 := Lib.hid h2
      clear h2
      go_enter Try.func27, Try.ntmps27
      go_wp2_with fail
      refine HK.out.mono ?_
      rintro e w1 ⟨rfl, hb1⟩
      have hx0 : w1.cell? ⟨w.heap.size, 0, none⟩ = some (.int .i64 a) := (hb1.cell (p := ⟨w.heap.size, 0, none⟩) (by simp)).trans (by simp)
      have hx1 : w1.cell? ⟨w.heap.size, 1, none⟩ = some (.int .i64 b) := (hb1.cell (p := ⟨w.heap.size, 1, none⟩) (by simp)).trans (by simp)
      replace hb1 := hb0.trans (hb1.mono hb0.size)
      go_wp2_with (go_at_call 46; refine (HS.out _).mono ?_; rintro e w2 ⟨rfl, hb2⟩; replace hb2 := hb1.trans (hb2.mono hb1.size))
      go_ret
      exact ⟨retI (by rw [HR.out]; unfold readyE; rw [← HR1.out, ← HR2.out, if_neg (by simp), if_pos H2.out]), hb2⟩
  · have h1' : (r1 == 0) = false := by simpa using h1
    have H1 := Lib.hid h1
    clear h1
    go_enter Try.func27, Try.ntmps27
    go_wp2_with fail
    refine HK.out.mono ?_
    rintro e w1 ⟨rfl, hb1⟩
    replace hb1 := hb0.trans (hb1.mono hb0.size)
    go_wp2_with fail
    go_ret
    exact ⟨retI (by rw [HR.out]; unfold readyE; rw [← HR1.out, if_pos H1.out]), hb1⟩
end Go.Proofs.Ytehebngkjfjkbaa
