/-
  Requests: the references namesOf, valueOf.
-/
import Derived.Test.YtehebngkjfjkbaaCodeA
namespace Go.Proofs.Ytehebngkjfjkbaa
open Go.RowKit Go.Shelf

/-- The letters of what a kind names. -/
def namesS (k : Int) : List UInt8 :=
  if k = 1 then [105, 103, 99, 102, 116, 108, 117] else if k = 2 then [105, 103, 107, 108, 117] else if k = 3 ∨ k = 5 then [105] else if k = 4 then [105, 97] else if k = 6 then [105, 99] else if k = 7 then [117] else []
/-- The part that a letter stands for. -/
def partOf (c : UInt8) : Part :=
  if c = 105 then pId else if c = 103 then pGuests else if c = 99 then pCabin else if c = 107 then pCategory else if c = 102 then pFrom else if c = 116 then pTo else if c = 117 then pTil else if c = 97 then pAmount else pLevel
/-- What a part holds. -/
def fld (x : Ask) (i : Nat) : Int :=
  if i = 2 then x.id else if i = 3 then x.guests else if i = 5 then x.cabin else if i = 6 then x.category else if i = 7 then x.frm else if i = 8 then x.upto else if i = 9 then x.til else if i = 10 then x.amount else if x.level then 1 else 0
theorem names_parts (k : Int) : (namesS k).map partOf = partsL k := by
  unfold namesS partsL
  repeat' split
  all_goals first | rfl | omega

theorem namesOf_any (k : Int) (w : World) : Calls Try.prog 74 #[.int .i64 k] w fun e w' => e = .returned (.string ⟨(namesS k).toArray⟩) ∧ w = w' := by
  have hs : ∀ L : List UInt8, namesS k = L → Hid (namesS k = L) := fun _ h => h
  by_cases h1 : k = 1
  · subst h1
    go_enter Try.func74, Try.ntmps74
    go_wp2_with fail
    go_ret
    exact ⟨rfl, rfl⟩
  by_cases h2 : k = 2
  · subst h2
    go_enter Try.func74, Try.ntmps74
    go_wp2_with fail
    go_ret
    exact ⟨rfl, rfl⟩
  by_cases h3 : k = 3
  · subst h3
    go_enter Try.func74, Try.ntmps74
    go_wp2_with fail
    go_ret
    exact ⟨rfl, rfl⟩
  by_cases h5 : k = 5
  · subst h5
    go_enter Try.func74, Try.ntmps74
    go_wp2_with fail
    go_ret
    exact ⟨rfl, rfl⟩
  by_cases h4 : k = 4
  · subst h4
    go_enter Try.func74, Try.ntmps74
    go_wp2_with fail
    go_ret
    exact ⟨rfl, rfl⟩
  by_cases h6 : k = 6
  · subst h6
    go_enter Try.func74, Try.ntmps74
    go_wp2_with fail
    go_ret
    exact ⟨rfl, rfl⟩
  by_cases h7 : k = 7
  · subst h7
    go_enter Try.func74, Try.ntmps74
    go_wp2_with fail
    go_ret
    exact ⟨rfl, rfl⟩
  have HN := hs [] (by unfold namesS; rw [if_neg h1, if_neg h2, if_neg (by omega), if_neg h4, if_neg h6, if_neg h7])
  have n1 : (k == 1) = false := by simpa using h1
  have n2 : (k == 2) = false := by simpa using h2
  have n3 : (k == 3) = false := by simpa using h3
  have n4 : (k == 4) = false := by simpa using h4
  have n5 : (k == 5) = false := by simpa using h5
  have n6 : (k == 6) = false := by simpa using h6
  have n7 : (k == 7) = false := by simpa using h7
  clear h1 h2 h3 h4 h5 h6 h7 hs
  go_enter Try.func74, Try.ntmps74
  go_wp2_with fail
  go_ret
  exact ⟨by rw [HN.out]; rfl, rfl⟩

set_option maxHeartbeats 2000000 in
theorem valueOf_any (x : Ask) (c : UInt8) (w : World) : Calls Try.prog 75 #[.agg (askA x), .int .u8 (c.toNat : Int)] w fun e w' =>
    e = .returned (.tuple #[.int .i64 (fld x (partOf c).ix), .int .i64 (partOf c).bytes, .int .i64 (partOf c).most]) ∧ Below w.heap.size w w' := by
  unfold askA
  have key : ∀ d : UInt8, ¬ c = d → ((c.toNat : Int) == (d.toNat : Int)) = false := fun d h => by
    simp only [beq_eq_false_iff_ne, ne_eq]
    intro e
    exact h (UInt8.toNat_inj.1 (by omega))
  by_cases hi : c = 105
  · subst hi
    clear key
    go_enter Try.func75, Try.ntmps75
    go_wp2_with fail
    go_ret3
    exact ⟨rfl, bel1 _ _⟩
  have ni := key 105 hi
  by_cases hg : c = 103
  · subst hg
    clear key
    go_enter Try.func75, Try.ntmps75
    go_wp2_with fail
    go_ret3
    exact ⟨rfl, bel1 _ _⟩
  have ng := key 103 hg
  by_cases hc : c = 99
  · subst hc
    clear key
    go_enter Try.func75, Try.ntmps75
    go_wp2_with fail
    go_ret3
    exact ⟨rfl, bel1 _ _⟩
  have nc := key 99 hc
  by_cases hk : c = 107
  · subst hk
    clear key
    go_enter Try.func75, Try.ntmps75
    go_wp2_with fail
    go_ret3
    exact ⟨rfl, bel1 _ _⟩
  have nk := key 107 hk
  by_cases hf : c = 102
  · subst hf
    clear key
    go_enter Try.func75, Try.ntmps75
    go_wp2_with fail
    go_ret3
    exact ⟨rfl, bel1 _ _⟩
  have nf := key 102 hf
  by_cases ht : c = 116
  · subst ht
    clear key
    go_enter Try.func75, Try.ntmps75
    go_wp2_with fail
    go_ret3
    exact ⟨rfl, bel1 _ _⟩
  have nt := key 116 ht
  by_cases hu : c = 117
  · subst hu
    clear key
    go_enter Try.func75, Try.ntmps75
    go_wp2_with fail
    go_ret3
    exact ⟨rfl, bel1 _ _⟩
  have nu := key 117 hu
  by_cases ha : c = 97
  · subst ha
    clear key
    go_enter Try.func75, Try.ntmps75
    go_wp2_with fail
    go_ret3
    exact ⟨rfl, bel1 _ _⟩
  have na := key 97 ha
  have HN := Lib.hid (show partOf c = pLevel by unfold partOf; rw [if_neg hi, if_neg hg, if_neg hc, if_neg hk, if_neg hf, if_neg ht, if_neg hu, if_neg ha])
  simp only [UInt8.reduceToNat] at ni ng nc nk nf nt nu na
  clear key hi hg hc hk hf ht hu ha
  cases hl : x.level
  all_goals
    have HF := Lib.hid (show fld x 4 = if x.level then 1 else 0 by unfold fld; simp)
    rw [hl] at HF
    clear hl
    go_enter Try.func75, Try.ntmps75
    go_wp2_with fail
    go_ret3
    exact ⟨by rw [HN.out, show pLevel.ix = 4 from rfl, HF.out]; rfl, bel1 _ _⟩
end Go.Proofs.Ytehebngkjfjkbaa
