/-
  Folios: the contracts of Fares, Due, slices.Clone of a folio.
-/
import Derived.Test.YtehebngkjfjkbaaFolioA
namespace Go.Proofs.Ytehebngkjfjkbaa
open Go.RowKit Go.Shelf

def isFare (k : Int) : Bool := k == 1 || k == 4
def faresOf (l : List Entry) : Int := sumBy isFare l
def dueOf (l : List Entry) : Int := sumBy (fun _ => true) l

theorem all_any (k : Int) (w : World) : Calls Try.prog 89 #[.int .i64 k] w fun e w' => e = .returned (.bool true) ∧ w = w' := by
  go_enter Try.func89, Try.ntmps89
  go_wp2
  go_ret
  exact ⟨rfl, rfl⟩
theorem isFare_any (k : Int) (w : World) : Calls Try.prog 90 #[.int .i64 k] w fun e w' => e = .returned (.bool (isFare k)) ∧ w = w' := by
  go_enter Try.func90, Try.ntmps90
  go_wp2
  all_goals go_ret
  all_goals exact ⟨retB (by simp_all [isFare]), rfl⟩

theorem Fares_any (A : Option Addr) (n cap : Nat) (l : List Entry) (w : World) (h : Sl entryC 3 w All A n cap l) (hs : Small l) :
    Calls Try.prog 56 #[.slice A n cap] w fun e w' => e = .returned (.int .i64 (faresOf l)) ∧ Below w.heap.size w w' := by
  go_enter Try.func56, Try.ntmps56
  go_wp2_with (go_at_call 88; refine (Sum_any A n cap l 90 #[] isFare _ h hs (enters_of Try.func90 (by kernel_rfl) rfl) (fun k w => by simpa using isFare_any k w)).mono ?_; rintro e w' ⟨rfl, hb⟩)
  go_ret
  exact ⟨rfl, hb⟩
theorem Due_any (A : Option Addr) (n cap : Nat) (l : List Entry) (w : World) (h : Sl entryC 3 w All A n cap l) (hs : Small l) :
    Calls Try.prog 52 #[.slice A n cap] w fun e w' => e = .returned (.int .i64 (dueOf l)) ∧ Below w.heap.size w w' := by
  go_enter Try.func52, Try.ntmps52
  go_wp2_with (go_at_call 88; refine (Sum_any A n cap l 89 #[] (fun _ => true) _ h hs (enters_of Try.func89 (by kernel_rfl) rfl) (fun k w => by simpa using all_any k w)).mono ?_; rintro e w' ⟨rfl, hb⟩)
  go_ret
  exact ⟨rfl, hb⟩

set_option maxHeartbeats 1000000 in
theorem Clone_entry (A : Option Addr) (n cap : Nat) (l : List Entry) (w : World) (h : Sl entryC 3 w All A n cap l) (hn : n ≤ 1000000000) :
    Calls Try.prog 54 #[.slice A n cap] w fun e w' => ∃ v xs, e = .returned v ∧ Own entryC 3 24 w' w.heap.size v l xs ∧ Below w.heap.size w w' := by
  have hnil := fun (W : World) (a : Option Addr) => Lib.run_eql_slice_nil (P := Try.prog) W 22 24 a n cap 0 0 Try.underlying22
  rcases A with _ | a
  · have hl : l = [] := by
      rcases l with _ | ⟨x, l⟩
      · rfl
      · obtain ⟨b, off, cs, hA, _⟩ := h.rd 0 x rfl
        cases hA
    subst hl
    go_enter Try.func54, Try.ntmps54
    go_wp2
    go_ret
    exact ⟨_, _, rfl, Own.nil _ _ _ _ _, Below.refl _ _⟩
  · go_enter Try.func54, Try.ntmps54
    go_wp2_with (at_builtin; refine list_app (t := 22) (e := 24) (bytes := 24) rfl (.tmp 5) (.tmp 6) rfl entry_elem entryC_good rfl (Own.made w entryC 3 24 w.heap.size #[] 0 (Nat.le_refl _) (by simp [maxLen]) rfl) rfl (h.below entryC_good (by omega) ((Below.refl _ _).alloc (Nat.le_refl _) _)) (fun _ _ hc => hc) (by simp; omega) (by omega) (by simp) ?_; intro v' w' xs' hown hg _)
    go_ret
    exact ⟨_, _, rfl, hown, below_app (Below.alloc (Below.refl _ _) (Nat.le_refl _) _) (Own.made w entryC 3 24 w.heap.size #[] 0 (Nat.le_refl _) (by simp [maxLen]) rfl) hg (by simp)⟩
end Go.Proofs.Ytehebngkjfjkbaa
