/-
  Fares: legs, bands, Check.
-/
import Derived.Test.YtehebngkjfjkbaaFareB
namespace Go.Proofs.Ytehebngkjfjkbaa
open Go.RowKit Go.Shelf

/-- What is wrong with fares of all legs of all categories. -/
def legsE (L : List (List Int)) (c many : Int) : Int :=
  if (L.length : Int) ≠ c ∨ L.any (fun x => ((x.length : Int) != many)) = true then 1 else if L.flatten.any (fun x => !betB x 0 100000) then 3 else 0
def bandErr (l : List Band) (i : Nat) : Int :=
  if betB (l[i]?.getD default).days 0 999 = false ∨ betB (l[i]?.getD default).part 0 100 = false then 3 else
  if 0 < i ∧ ((l[i]?.getD default).days ≤ (l[i - 1]?.getD default).days ∨ (l[i - 1]?.getD default).part < (l[i]?.getD default).part) then 4 else 0
def bandsE (l : List Band) : Int := if 4 < l.length then 2 else firstErr (bandErr l) l.length
/-- What is wrong with fares. -/
def fareE (x : Fares) (c many : Int) : Int :=
  if betB c 1 5 = false ∨ legsB many = false then 3 else
  if legsE x.leg c many ≠ 0 then legsE x.leg c many else
  if betB x.alone 0 200 = false ∨ betB x.third 0 100 = false ∨ betB x.down 0 100 = false then 3 else bandsE x.bands

theorem legs1_any (A : Option Addr) (n cap : Nat) (x : List Int) (many : Int) (B : Nat) (w : World) (h : Sl intC 1 w All A n cap x) (hB : w.cell? ⟨B, 0, none⟩ = some (.int .i64 many)) :
    Calls Try.prog 99 #[.slice A n cap, .pointer (some ⟨B, 0, none⟩)] w fun e w' => e = .returned (.bool ((x.length : Int) != many)) ∧ Below w.heap.size w w' := by
  have hl := h.len
  subst hl
  go_enter Try.func99, Try.ntmps99
  go_wp2_with fail
  go_ret
  exact ⟨rfl, Below.refl _ _⟩
theorem legs2_any (x : Int) (w : World) : Calls Try.prog 101 #[.int .i64 x] w fun e w' => e = .returned (.bool (!betB x 0 100000)) ∧ Below w.heap.size w w' := by
  go_enter Try.func101, Try.ntmps101
  go_wp2_with (go_at_call 79; refine (within_any _ _ _ _).mono ?_; rintro e w' ⟨rfl, rfl⟩)
  go_ret
  exact ⟨rfl, Below.refl _ _⟩

theorem flatten_len {L : List (List Int)} {m : Nat} (h : ∀ x ∈ L, x.length ≤ m) : L.flatten.length ≤ L.length * m := by
  induction L with
  | nil => simp
  | cons x L ih =>
    have h1 := h x (by simp)
    have h2 := ih fun y hy => h y (by simp [hy])
    rw [List.flatten_cons, List.length_append, List.length_cons, Nat.add_mul]; omega

set_option maxHeartbeats 2000000 in
theorem legs_any' (A : Option Addr) (n cap : Nat) (L : List (List Int)) (c many : Int) (w : World) (h : Sl (slC intC 1) 1 w All A n cap L) (hc : c ≤ 5) (hm : many ≤ 7) :
    Calls Try.prog 86 #[.slice A n cap, .int .i64 c, .int .i64 many] w fun e w' => e = .returned (.int .i64 (legsE L c many)) ∧ Below w.heap.size w w' := by
  have hg := slC_good intC_good (show 0 < 1 by omega)
  have HN := Lib.hid h.len
  have hb0 : Below w.heap.size w (w.alloc (.cells #[.int .i64 many] 3)) := (Below.refl _ _).alloc (Nat.le_refl _) _
  obtain ⟨r, hr⟩ : ∃ r, r = legsE L c many := ⟨_, rfl⟩
  rw [← hr]
  have HR := Lib.hid hr
  clear hr
  by_cases hn : (n : Int) = c
  · have hn' : ((n : Int) != c) = false := by simpa using hn
    obtain ⟨t, ht⟩ : ∃ t, t = L.any (fun x => ((x.length : Int) != many)) := ⟨_, rfl⟩
    have hcf := ContainsFunc_ints A n cap L 99 #[.pointer (some ⟨w.heap.size, 0, none⟩)] (fun x => ((x.length : Int) != many)) _ (h.below hg (by omega) hb0) (enters_of Try.func99 (by kernel_rfl) rfl)
      (fun x w1 B q c2 _ hb hsl => by simpa using legs1_any B q c2 x many w.heap.size w1 hsl (cell_of_one ((hb.block _ (by simp)).trans (blk1 _ _))))
    rw [← ht] at hcf
    have HC := Lib.hid hcf
    have HT := Lib.hid ht
    have HNN := Lib.hid hn
    clear ht hcf hn
    cases t
    · have hflat : L.flatten.length ≤ 1000 := by
        have h1 := flatten_len (L := L) (m := 7) fun x hx => by
          have := List.any_eq_false.1 HT.out.symm x hx
          simp at this
          omega
        have := HN.out
        have := HNN.out
        omega
      have HFL := Lib.hid hflat
      clear hflat
      obtain ⟨q, hq⟩ : ∃ q, q = L.flatten.any (fun x => !betB x 0 100000) := ⟨_, rfl⟩
      have HQ := Lib.hid hq
      clear hq
      go_enter Try.func86, Try.ntmps86
      go_wp2_with fail
      refine HC.out.mono ?_
      rintro e w1 ⟨rfl, hb1⟩
      replace hb1 := hb0.trans (hb1.mono hb0.size)
      go_wp2_with fail
      refine (Concat_ints _ _ _ L _ (h.below hg (by omega) hb1) (by have := HFL.out; omega)).mono ?_
      rintro e w2 ⟨v, xs, rfl, ho, hb2⟩
      obtain ⟨A2, n2, c2, rfl, hs2⟩ := ho.sl intC_good
      replace hs2 := hs2.all intC_good (by omega)
      replace hb1 := hb1.trans (hb2.mono hb1.size)
      clear hb2 ho
      have hcf := ContainsFunc_int _ _ _ _ 101 #[] (fun x => !betB x 0 100000) w2 hs2 (enters_of Try.func101 (by kernel_rfl) rfl) (fun x w1 _ _ => by simpa using legs2_any x w1)
      rw [← HQ.out] at hcf
      have HCF := Lib.hid hcf
      clear hcf hs2
      cases q
      all_goals
        go_wp2_with fail
        refine HCF.out.mono ?_
        rintro e w3 ⟨rfl, hb3⟩
        go_wp2_with fail
        go_ret
        exact ⟨retI (by rw [HR.out]; unfold legsE; rw [if_neg (by rw [HN.out, ← HT.out]; simp [HNN.out]), ← HQ.out]; rfl), hb1.trans (hb3.mono hb1.size)⟩
    · go_enter Try.func86, Try.ntmps86
      go_wp2_with fail
      refine HC.out.mono ?_
      rintro e w1 ⟨rfl, hb1⟩
      go_wp2_with fail
      go_ret
      exact ⟨retI (by rw [HR.out]; unfold legsE; rw [if_pos (.inr HT.out.symm)]), hb0.trans (hb1.mono hb0.size)⟩
  · have hn' : ((n : Int) != c) = true := by simpa using hn
    have HNN := Lib.hid hn
    clear hn
    go_enter Try.func86, Try.ntmps86
    go_wp2_with fail
    go_ret
    exact ⟨retI (by rw [HR.out]; unfold legsE; rw [if_pos (.inl (by rw [HN.out]; exact HNN.out))]), hb0⟩

set_option maxHeartbeats 4000000 in
theorem bands_any (A : Option Addr) (n cap : Nat) (l : List Band) (w : World) (h : Sl bandC 2 w All A n cap l) :
    Calls Try.prog 87 #[.slice A n cap] w fun e w' => e = .returned (.int .i64 (bandsE l)) ∧ Below w.heap.size w w' := by
  have hbd := h.bd
  have hlen := Lib.hid h.len
  obtain ⟨r, hr⟩ : ∃ r, r = bandsE l := ⟨_, rfl⟩
  rw [← hr]
  have HR := Lib.hid hr
  clear hr
  by_cases hn : 4 < n
  · have hr : r = 2 := by rw [HR.out]; unfold bandsE; rw [hlen.out, if_pos hn]
    subst hr
    go_enter Try.func87, Try.ntmps87
    go_wp2_with fail
    go_ret
    exact ⟨rfl, Below.refl _ _⟩
  · have hr : r = firstErr (bandErr l) n := by rw [HR.out]; unfold bandsE; rw [hlen.out, if_neg hn]
    have HV := Lib.hid hr
    clear hr
    go_enter Try.func87, Try.ntmps87
    go_wp2_with fail
    go_loopg [10] n (fun gk i wr => ∃ k : Nat, k ≤ n ∧ n - k ≤ gk ∧ i = .int .i64 k ∧ Aside (firstErr (bandErr l) k = 0) ∧ Below w.heap.size w wr)
    case atStart => exact ⟨0, Nat.zero_le _, by omega, rfl, rfl, Below.refl _ _⟩
    case round =>
      obtain ⟨k, hk, hgk, rfl, HE, hb⟩ := hrel
      by_cases hlt : k < n
      · obtain ⟨b, off, x, c0, c1, rfl, hx, ⟨hc, b0, b1⟩, g0, g1⟩ := (h.below bandC_good (by omega) hb).at2 hlt
        simp only [List.cons.injEq, and_true] at hc
        obtain ⟨rfl, rfl⟩ := hc
        have HX := Lib.hid hx
        clear hx
        have fin : ∀ q : Int, bandErr l k = q → q ≠ 0 → r = q := fun q h1 h2 => by
          rw [HV.out, firstErr_at (n := n) HE.out (by rw [h1]; exact h2) hlt, h1]
        have Fin := Lib.hid fin
        clear fin
        have hw1 := fun W => within_any x.days 0 999 W
        have hw2 := fun W => within_any x.part 0 100 W
        have hbA := hb.alloc hb.size (.cells #[.int .i64 x.days, .int .i64 x.part] 114)
        cases hd : betB x.days 0 999
        · have hr : r = 3 := Fin.out 3 (by unfold bandErr; rw [HX.out, Option.getD_some, if_pos (.inl hd)]) (by decide)
          subst hr
          rw [hd] at hw1
          clear hd
          go_wp2_with fail
          refine (hw1 _).mono ?_
          rintro e w1 ⟨rfl, rfl⟩
          go_wp2_with fail
          go_ret
          exact ⟨rfl, hbA⟩
        · rw [hd] at hw1
          cases hp : betB x.part 0 100
          · have hr : r = 3 := Fin.out 3 (by unfold bandErr; rw [HX.out, Option.getD_some, if_pos (.inr hp)]) (by decide)
            subst hr
            rw [hp] at hw2
            clear hd hp
            go_wp2_with fail
            refine (hw1 _).mono ?_
            rintro e w1 ⟨rfl, rfl⟩
            go_wp2_with fail
            refine (hw2 _).mono ?_
            rintro e w1 ⟨rfl, rfl⟩
            go_wp2_with fail
            go_ret
            exact ⟨rfl, hbA⟩
          · rw [hp] at hw2
            have herr0 : k = 0 → bandErr l k = 0 := fun h0 => by
              unfold bandErr
              rw [HX.out, Option.getD_some, if_neg (by rw [hd, hp]; simp), if_neg (by omega)]
            have herr : ∀ y, l[k - 1]? = some y → 0 < k → bandErr l k = if x.days ≤ y.days ∨ y.part < x.part then 4 else 0 := fun y hy h0 => by
              unfold bandErr
              rw [HX.out, Option.getD_some, if_neg (by rw [hd, hp]; simp), hy, Option.getD_some]
              by_cases e : x.days ≤ y.days ∨ y.part < x.part
              · rw [if_pos ⟨h0, e⟩, if_pos e]
              · rw [if_neg (fun h => e h.2), if_neg e]
            have Herr := Lib.hid herr
            have Herr0 := Lib.hid herr0
            clear herr herr0 hd hp
            rcases k with _ | k
            · simp only [Nat.zero_mul, Nat.add_zero] at g0 g1
              go_wp2_with fail
              refine (hw1 _).mono ?_
              rintro e w1 ⟨rfl, rfl⟩
              go_wp2_with fail
              refine (hw2 _).mono ?_
              rintro e w1 ⟨rfl, rfl⟩
              go_wp2_with fail
              go_quiet (fail)
              go_wp2_with fail
              go_roundg (n - 1)
              case measure => omega
              case rel => exact ⟨1, by omega, by omega, rfl, (show Aside _ from (firstErr_succ HE.out).trans (Herr0.out (by trivial))), below_drewN hbA _⟩
            · obtain ⟨b2, off2, y, d0, d1, hA2, hy, ⟨hc2, y0, y1⟩, e0, e1⟩ := (h.below bandC_good (by omega) hbA).at2 (show k < n by omega)
              injection hA2 with hA2
              injection hA2 with hb2 ho2 _
              subst hb2 ho2
              simp only [List.cons.injEq, and_true] at hc2
              obtain ⟨rfl, rfl⟩ := hc2
              have Hy := Lib.hid hy
              clear hy
              have hw : IntKind.i64.wrap (k : Int) = k := IntWalk.i64_in _ (by omega)
              have hgt : decide ((0 : Int) < (k : Int) + 1) = true := decide_eq_true (by omega)
              have fini : x.days ≤ y.days ∨ y.part < x.part → r = 4 := fun hc => Fin.out 4 (by rw [Herr.out y (by simpa using Hy.out) (by omega), if_pos hc]) (by decide)
              have Fini := Lib.hid fini
              clear fini
              by_cases hd : x.days ≤ y.days
              · have hr : r = 4 := Fini.out (.inl hd)
                subst hr
                have hd' : decide (x.days ≤ y.days) = true := decide_eq_true hd
                go_wp2_with fail
                refine (hw1 _).mono ?_
                rintro e w1 ⟨rfl, rfl⟩
                go_wp2_with fail
                refine (hw2 _).mono ?_
                rintro e w1 ⟨rfl, rfl⟩
                go_wp2_with fail
                go_quiet (fail)
                go_wp2_with fail
                go_ret
                exact ⟨rfl, below_drewN hbA _⟩
              · have hd' : decide (x.days ≤ y.days) = false := decide_eq_false hd
                by_cases hp : y.part < x.part
                · have hr : r = 4 := Fini.out (.inr hp)
                  subst hr
                  go_wp2_with fail
                  refine (hw1 _).mono ?_
                  rintro e w1 ⟨rfl, rfl⟩
                  go_wp2_with fail
                  refine (hw2 _).mono ?_
                  rintro e w1 ⟨rfl, rfl⟩
                  go_wp2_with fail
                  go_quiet (fail)
                  go_wp2_with fail
                  go_ret
                  exact ⟨rfl, below_drewN hbA _⟩
                · go_wp2_with fail
                  refine (hw1 _).mono ?_
                  rintro e w1 ⟨rfl, rfl⟩
                  go_wp2_with fail
                  refine (hw2 _).mono ?_
                  rintro e w1 ⟨rfl, rfl⟩
                  go_wp2_with fail
                  go_quiet (fail)
                  go_wp2_with fail
                  go_roundg (n - (k + 1 + 1))
                  case measure => omega
                  case rel => exact ⟨k + 1 + 1, by omega, by omega, by go_num, (show Aside _ from (firstErr_succ HE.out).trans (by rw [Herr.out y (by simpa using Hy.out) (by omega), if_neg (by omega)])), below_drewN hbA _⟩
      · obtain rfl : k = n := by omega
        have hr : r = 0 := by rw [HV.out]; exact HE.out
        subst hr
        go_wp2_with fail
        go_ret
        exact ⟨rfl, hb⟩
end Go.Proofs.Ytehebngkjfjkbaa
