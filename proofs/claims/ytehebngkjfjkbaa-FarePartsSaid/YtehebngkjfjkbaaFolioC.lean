/-
  Folios: the iterator over the sums ('sums'), and the contract of Check.
-/
import Derived.Test.YtehebngkjfjkbaaFolioB
import Derived.RangeFuncNested
import Derived.RangeFuncBound
import Derived.RangeFuncCalls
import Derived.RangeFuncLeaves
import Derived.RangeFuncFrom
import Derived.Shelf.RegionOpen
import Derived.OwnWalkIn
import Derived.TacticsInMore
import Derived.LoopNIn
import Derived.LoopIn
namespace Go.Proofs.Ytehebngkjfjkbaa
open Go.RowKit Go.Shelf

attribute [local go_sem] Oper.semAt_some

/-- The sums up to each of the first k entries. -/
def pref (l : List Entry) (k : Nat) : List Int := (List.range k).map fun j => dueOf (l.take (j + 1))
theorem pref_succ (l : List Entry) (k : Nat) : pref l (k + 1) = pref l k ++ [dueOf (l.take (k + 1))] := by simp [pref, List.range_succ]
theorem pref_length (l : List Entry) (k : Nat) : (pref l k).length = k := by simp [pref]

theorem dueOf_snoc (l : List Entry) (x : Entry) : dueOf (l ++ [x]) = dueOf l + x.amount := by simp [dueOf, sumBy_snoc]

theorem sums_any (A : Option Addr) (n cap : Nat) (w : World) :
    Calls Try.prog 60 #[.slice A n cap] w fun e w' => e = .returned (.func (.func 91) #[] #[.pointer (some ⟨w.heap.size, 0, none⟩)]) ∧ w.alloc (.cells #[.slice A n cap] 22) = w' := by
  go_enter Try.func60, Try.ntmps60
  go_wp2
  go_ret
  exact ⟨rfl, rfl⟩

set_option maxRecDepth 100000 in
set_option maxHeartbeats 2000000 in
theorem sums1_in (F : Fence) (m : Nat) (hF : F.fn 91) (hro : F.round = none) (hm : 1 ≤ m) (l Bs n₀ : Nat) (A : Option Addr) (n cap : Nat) (es : List Entry) (hs : Small es) (J Jx : List Int → World → Prop)
    (W : World) (hn₀ : n₀ ≤ W.heap.size) (hJ : AbidesFrom W.heap.size J)
    (hY : ∀ pre x W1, J pre W1 → pre.length < n → YieldAt F (m - 1) Try.prog l #[.int .i64 x] W1 fun e W' =>
      (e = .returned (.bool true) ∧ J (pre ++ [x]) W' ∧ Below n₀ W1 W') ∨ (e = .returned (.bool false) ∧ Jx (pre ++ [x]) W'))
    (hBs : W.cell? ⟨Bs, 0, none⟩ = some (.slice A n cap)) (hc : Sl entryC 3 W (fun b => b < n₀) A n cap es) (h0 : J [] W) :
    CallsIn F m Try.prog 91 #[.func (.yield l) #[] #[], .pointer (some ⟨Bs, 0, none⟩)] W fun e W' => (∃ v, e = .returned v) ∧
      ((∃ ys, ys = pref es n ∧ J ys W') ∨ (∃ pre, (∃ k, k < n ∧ pre = pref es (k + 1)) ∧ Jx pre W')) := by
  have hbd := hc.bd
  refine callsIn_of_wp Try.func91 rfl hF ?_ hro
  simp only [Try.ntmps91, List.size_toArray, List.length_cons, List.length_nil, Nat.reduceAdd, Nat.reduceSub, Array.replicate_succ, Array.replicate_zero, List.push_toArray, List.append_toArray, List.nil_append, List.cons_append]
  gi_wp2
  gi_loopw [3, 8] (fun s i wr => ∃ k : Nat, k ≤ n ∧ i = .int .i64 k ∧ s = .int .i64 (dueOf (es.take k)) ∧ J (pref es k) wr ∧ Below n₀ W wr)
    (fun _ i _ => n - (intOf i).toNat)
  case atStart => exact ⟨0, Nat.zero_le _, rfl, rfl, h0, Below.refl _ _⟩
  case round =>
    obtain ⟨k, hk, rfl, rfl, hJs, hnx⟩ := hrel
    by_cases hlt : k < n
    · obtain ⟨b, off, x, c0, c1, c2, rfl, hx, ⟨hc0, b0, b1, b2⟩, g0, g1, g2⟩ := (hc.keep (w' := wr) (S' := All) entryC_good (by omega) (fun b hS hl => ⟨hnx.block b hS, trivial⟩)).at3 hlt
      simp only [List.cons.injEq, and_true] at hc0
      obtain ⟨rfl, rfl, rfl⟩ := hc0
      have hJ2 : J (pref es k) (wr.alloc (.cells #[.int .i64 x.day, .int .i64 x.kind, .int .i64 x.amount] 24)) := hJ _ wr _ none hJs (World.grownBy_alloc _ _ _) (by simp)
      have HD := Lib.hid ((congrArg dueOf (take_snoc hx)).trans (dueOf_snoc (es.take k) x))
      have s1 := hs.take k (fun _ => true)
      have s1' : -10000000000000 ≤ dueOf (es.take k) ∧ dueOf (es.take k) ≤ 10000000000000 := s1
      have s3 := hs.2 x (List.mem_of_getElem? hx)
      have HP := Lib.hid (pref_succ es k)
      obtain ⟨fn, tmps, assign, body, hy, hR⟩ := hY _ (dueOf (es.take k) + x.amount) _ hJ2 (by rw [pref_length]; exact hlt)
      clear hx s1
      gi_wp2
      refine hR.mono ?_
      rintro e W3 (⟨rfl, hJ3, hk3⟩ | ⟨rfl, hJx3⟩)
      · gi_wp2
        go_roundw
        case rel => exact ⟨k + 1, by omega, by simp, by rw [HD.out], by rw [HP.out, HD.out]; exact hJ3, (hnx.alloc (Nat.le_trans hn₀ hnx.size) _).trans hk3⟩
        case measure => simp [intOf]; omega
      · gi_wp2
        refine bodyPost_ret (results_none rfl _ _ _) rfl ?_
        exact ⟨⟨_, rfl⟩, .inr ⟨_, ⟨k, hlt, rfl⟩, by rw [HP.out, HD.out]; exact hJx3⟩⟩
    · obtain rfl : k = n := by omega
      gi_wp2
      go_end0
      exact ⟨⟨_, rfl⟩, .inl ⟨_, rfl, hJs⟩⟩

theorem sums_stops (F : Fence) (m : Nat) (hF : F.fn 91) (hro : F.round = none) (hm : 1 ≤ m) (Bs n₀ : Nat) (A : Option Addr) (n cap : Nat) (es : List Entry) (hs : Small es) (w : World) (hn₀ : n₀ ≤ w.heap.size)
    (hBs : w.cell? ⟨Bs, 0, none⟩ = some (.slice A n cap)) (hc : Sl entryC 3 w (fun b => b < n₀) A n cap es) :
    SeqStopsK F m Try.prog 91 #[.pointer (some ⟨Bs, 0, none⟩)] (fun x : Int => #[Value.int .i64 x]) (Below n₀) (fun ys => ys = pref es n) (fun pre => ∃ k, k < n ∧ pre = pref es (k + 1)) n w := fun l J Jx W hW hJ _ hY h0 => by
  have hlt : Bs < w.heap.size := cell_lt hBs
  exact sums1_in F m hF hro hm l Bs n₀ A n cap es hs J Jx W (Nat.le_trans hn₀ hW.size) hJ hY ((hW.cell (p := ⟨Bs, 0, none⟩) hlt).trans hBs)
    (hc.keep entryC_good (by omega) (fun b hS hl => ⟨hW.block b hl, hS⟩)) h0
end Go.Proofs.Ytehebngkjfjkbaa
