/-
  Folios: what the small functions of package folio compute, and their contracts.
-/
import Derived.Test.YtehebngkjfjkbaaBase
import Derived.Test.YtehebngkjfjkbaaChecked
import Derived.BigQuiet
import Derived.Shelf.Abstract
import Derived.Deep.LoopGhost
import Derived.Deep.QuietTactic
namespace Go.Proofs.Ytehebngkjfjkbaa
open Go.RowKit Go.Shelf

theorem retI {k : IntKind} {a b : Int} (h : a = b) : Ending.returned (.int k a) = .returned (.int k b) := by rw [h]
theorem retB {a b : Bool} (h : a = b) : Ending.returned (.bool a) = .returned (.bool b) := by rw [h]

/-- The first of f 0, f 1, .. f (n - 1) that is not 0; else 0. -/
def firstErr (f : Nat → Int) : Nat → Int
  | 0 => 0
  | n + 1 => if firstErr f n = 0 then f n else firstErr f n
theorem firstErr_succ {f : Nat → Int} {n : Nat} (h : firstErr f n = 0) : firstErr f (n + 1) = f n := by simp [firstErr, h]
theorem firstErr_at {f : Nat → Int} {k n : Nat} (h : firstErr f k = 0) (hk : f k ≠ 0) (hn : k < n) : firstErr f n = f k := by
  induction n with
  | zero => omega
  | succ n ih =>
    by_cases e : n = k
    · subst e; exact firstErr_succ h
    · have := ih (by omega)
      simp only [firstErr, this, if_neg hk]

structure Entry where
  day : Int
  kind : Int
  amount : Int
  deriving DecidableEq, Inhabited

def entryC : Cod Entry := fun _ _ x cs => cs = [.int .i64 x.day, .int .i64 x.kind, .int .i64 x.amount] ∧ InI x.day ∧ InI x.kind ∧ InI x.amount
theorem entryC_flat : Flat entryC := fun _ _ _ _ _ _ h => h
theorem entryC_good : Good entryC := .of_flat entryC_flat fun h u hu => by obtain ⟨rfl, _⟩ := h; simp at hu; rcases hu with rfl | rfl | rfl <;> rfl
theorem entry_elem : ElemOf Try.prog 22 24 3 24 := .mk' Try.underlying22 (z := .agg #[.int .i64 0, .int .i64 0, .int .i64 0]) (by kernel_rfl) rfl (by omega)

def amountB (n : Int) : Bool := decide (-100000000 ≤ n) && decide (n ≤ 100000000)
def entryE (x : Entry) : Int :=
  if x.kind < 1 ∨ 4 < x.kind then 7 else
  if x.day < 0 ∨ 9999 < x.day ∨ x.amount < -100000000 ∨ 100000000 < x.amount then 3 else
  if x.amount < 0 ∧ (x.kind = 1 ∨ x.kind = 3) ∨ 0 < x.amount ∧ x.kind = 2 then 4 else 0

theorem amount_any (n : Int) (w : World) : Calls Try.prog 61 #[.int .i64 n] w fun e w' => e = .returned (.bool (amountB n)) ∧ w = w' := by
  go_enter Try.func61, Try.ntmps61
  go_wp2
  all_goals go_ret
  all_goals exact ⟨retB (by simp only [amountB]; simp; omega), rfl⟩

/-- Is n between a and b? -/
def betB (n a b : Int) : Bool := decide (a ≤ n) && decide (n ≤ b)
theorem betB_true {n a b : Int} (h : a ≤ n) (h2 : n ≤ b) : betB n a b = true := by simp [betB, h, h2]
theorem betB_false {n a b : Int} (h : n < a ∨ b < n) : betB n a b = false := by simp [betB]; omega
theorem betB_iff {n a b : Int} : betB n a b = true ↔ a ≤ n ∧ n ≤ b := by simp [betB]
theorem between_any (n a b : Int) (w : World) : Calls Try.prog 57 #[.int .i64 n, .int .i64 a, .int .i64 b] w fun e w' => e = .returned (.bool (betB n a b)) ∧ w = w' := by
  go_enter Try.func57, Try.ntmps57
  go_wp2
  all_goals go_ret
  all_goals exact ⟨retB (by unfold betB; simp; try omega), rfl⟩

set_option maxHeartbeats 1000000 in
theorem entry_any (d k m : Int) (w : World) :
    Calls Try.prog 59 #[.agg #[.int .i64 d, .int .i64 k, .int .i64 m]] w fun e w' => e = .returned (.int .i64 (entryE ⟨d, k, m⟩)) ∧ Below w.heap.size w w' := by
  go_enter Try.func59, Try.ntmps59
  go_wp2
  all_goals go_ret
  all_goals refine ⟨retI ?_, (Below.refl _ _).alloc (Nat.le_refl _) _⟩
  all_goals (try simp at *)
  all_goals unfold entryE
  all_goals dsimp only
  all_goals (repeat' split)
  all_goals omega

def sumBy (p : Int → Bool) (l : List Entry) : Int := ((l.filter fun x => p x.kind).map (·.amount)).sum
/-- Amounts that do not go beyond 10^10 each, of no more than 1000 entries. -/
def Small (l : List Entry) : Prop := l.length ≤ 1000 ∧ ∀ x ∈ l, -10000000000 ≤ x.amount ∧ x.amount ≤ 10000000000

theorem sumBy_bd (p : Int → Bool) (l : List Entry) (h : ∀ x ∈ l, -10000000000 ≤ x.amount ∧ x.amount ≤ 10000000000) : -10000000000 * (l.length : Int) ≤ sumBy p l ∧ sumBy p l ≤ 10000000000 * (l.length : Int) := by
  induction l with
  | nil => simp [sumBy]
  | cons x l ih =>
    have h1 := h x (by simp)
    have h2 := ih fun y hy => h y (by simp [hy])
    simp only [sumBy, List.filter_cons] at h2 ⊢
    by_cases hp : p x.kind <;> simp [hp] <;> omega
theorem sumBy_snoc (p : Int → Bool) (l : List Entry) (x : Entry) : sumBy p (l ++ [x]) = sumBy p l + if p x.kind then x.amount else 0 := by
  simp only [sumBy, List.filter_append, List.map_append, List.sum_append, List.filter_cons, List.filter_nil]
  by_cases hp : p x.kind <;> simp [hp]
theorem sumBy_append (p : Int → Bool) (l m : List Entry) : sumBy p (l ++ m) = sumBy p l + sumBy p m := by
  simp [sumBy, List.filter_append]
theorem take_snoc {α : Type} {l : List α} {k : Nat} {x : α} (h : l[k]? = some x) : l.take (k + 1) = l.take k ++ [x] := by
  rw [List.take_add_one, h]; rfl
theorem Small.take {l : List Entry} (h : Small l) (k : Nat) (p : Int → Bool) : -10000000000000 ≤ sumBy p (l.take k) ∧ sumBy p (l.take k) ≤ 10000000000000 := by
  have := sumBy_bd p (l.take k) fun x hx => h.2 x (List.mem_of_mem_take hx)
  have h1 : (l.take k).length ≤ 1000 := Nat.le_trans (List.length_take_le' _ _) h.1
  omega
theorem Small.sum {l : List Entry} (h : Small l) (p : Int → Bool) : -10000000000000 ≤ sumBy p l ∧ sumBy p l ≤ 10000000000000 := by
  have := h.take l.length p
  rwa [List.take_length] at this


set_option maxHeartbeats 1000000 in
theorem Sum_any (A : Option Addr) (n cap : Nat) (l : List Entry) (g : Nat) (lb : Array Value) (p : Int → Bool) (w : World) (h : Sl entryC 3 w All A n cap l) (hs : Small l)
    (eg : ∀ args w, (callFunc g args).run Try.prog w = .ok (.enter g args) w)
    (hp : ∀ (k : Int) (w : World), Calls Try.prog g (#[.int .i64 k] ++ lb) w fun e w' => e = .returned (.bool (p k)) ∧ w = w') :
    Calls Try.prog 88 #[.slice A n cap, .func (.func g) #[] lb] w fun e w' => e = .returned (.int .i64 (sumBy p l)) ∧ Below w.heap.size w w' := by
  have Hp := Lib.hid hp
  clear hp
  have hbd := h.bd
  go_enter Try.func88, Try.ntmps88
  go_wp2_with fail
  go_loopg [5, 10] n (fun gk s i wr => ∃ k : Nat, k ≤ n ∧ n - k ≤ gk ∧ i = .int .i64 k ∧ s = .int .i64 (sumBy p (l.take k)) ∧ Below w.heap.size w wr)
  case atStart => exact ⟨0, Nat.zero_le _, by omega, rfl, rfl, Below.refl _ _⟩
  case round =>
    obtain ⟨k, hk, hgk, rfl, rfl, hb⟩ := hrel
    by_cases hlt : k < n
    · obtain ⟨b, off, x, c0, c1, c2, rfl, hx, ⟨hc, b0, b1, b2⟩, g0, g1, g2⟩ := (h.below entryC_good (by omega) hb).at3 hlt
      simp only [List.cons.injEq, and_true] at hc
      obtain ⟨rfl, rfl, rfl⟩ := hc
      have s1 := hs.take k p
      have HS := Lib.hid (sumBy_snoc p (l.take k) x)
      have HT := Lib.hid (take_snoc hx)
      have s3 := hs.2 x (List.mem_of_getElem? hx)
      clear hx
      have hcall := Hp.out x.kind
      cases hq : p x.kind with
      | true =>
        rw [hq] at hcall
        go_wp2_with (go_at_fn g; refine (hcall _).mono ?_; rintro e w' ⟨rfl, rfl⟩)
        go_roundg (n - (k + 1))
        case measure => omega
        case rel => exact ⟨k + 1, by omega, by omega, by go_num, by rw [HT.out, HS.out, hq]; rfl, hb.alloc hb.size _⟩
      | false =>
        rw [hq] at hcall
        go_wp2_with (go_at_fn g; refine (hcall _).mono ?_; rintro e w' ⟨rfl, rfl⟩)
        go_roundg (n - (k + 1))
        case measure => omega
        case rel => exact ⟨k + 1, by omega, by omega, by go_num, by rw [HT.out, HS.out, hq]; simp, hb.alloc hb.size _⟩
    · have : k = n := by omega
      subst this
      have HT := Lib.hid (List.take_of_length_le (Nat.le_of_eq h.len))
      go_wp2_with fail
      go_ret
      exact ⟨retI (by rw [HT.out]), hb⟩
end Go.Proofs.Ytehebngkjfjkbaa
