/-
  Lists of numbers, and the generic functions at them; spans, and Legs and Check of package span.
-/
import Derived.Test.YtpodgidamoiakaaGen
namespace Go.Proofs.Ytpodgidamoiakaa
open Go.RowKit Go.Shelf

theorem int_elem : ElemOf Try.prog 30 3 1 8 := .mk' Try.underlying30 (z := .int .i64 0) (by kernel_rfl) rfl (by omega)
set_option maxHeartbeats 1000000 in
theorem IndexFunc_int (A : Option Addr) (n cap : Nat) (l : List Int) (g : Nat) (lb : Array Value) (p : Int → Bool) (w : World) (h : Sl intC 1 w All A n cap l)
    (eg : ∀ args w, (callFunc g args).run Try.prog w = .ok (.enter g args) w)
    (hp : ∀ (x : Int) (w1 : World), x ∈ l → Below w.heap.size w w1 → Calls Try.prog g (#[.int .i64 x] ++ lb) w1 fun e w' => e = .returned (.bool (p x)) ∧ Below w1.heap.size w1 w') :
    Calls Try.prog 79 #[.slice A n cap, .func (.func g) #[] lb] w fun e w' => e = .returned (.int .i64 (idxF p l)) ∧ Below w.heap.size w w' := by
  have Hp := Lib.hid hp
  clear hp
  have hbd := h.bd
  go_enter Try.func79, Try.ntmps79
  go_wp2_with fail
  go_loopg [8] n (fun gk i wr => ∃ k : Nat, k ≤ n ∧ n - k ≤ gk ∧ i = .int .i64 k ∧ Aside ((l.take k).any p = false) ∧ Below w.heap.size w wr)
  case atStart => exact ⟨0, Nat.zero_le _, by omega, rfl, rfl, Below.refl _ _⟩
  case round =>
    obtain ⟨k, hk, hgk, rfl, HA, hb⟩ := hrel
    by_cases hlt : k < n
    · obtain ⟨b, off, x, c0, rfl, hx, hc, g0⟩ := (h.below intC_good (by omega) hb).at1 hlt
      obtain ⟨hc, hw⟩ := hc
      simp only [List.cons.injEq, and_true] at hc
      obtain rfl := hc
      have HX := Lib.hid hx
      have HM := Lib.hid (List.mem_of_getElem? hx)
      clear hx
      have hcall := fun w1 (hb1 : Below w.heap.size w w1) => Hp.out x w1 HM.out hb1
      cases hq : p x with
      | true =>
        rw [hq] at hcall
        have HQ := Lib.hid hq
        clear hq
        go_wp2_with (go_at_fn g; refine (hcall _ hb).mono ?_; rintro e w1 ⟨rfl, hb1⟩; replace hb1 := hb.trans (hb1.mono hb.size); clear hcall)
        go_ret
        exact ⟨retI (idxF_at HA HX.out HQ.out).symm, hb1⟩
      | false =>
        rw [hq] at hcall
        have HQ := Lib.hid hq
        clear hq
        go_wp2_with (go_at_fn g; refine (hcall _ hb).mono ?_; rintro e w1 ⟨rfl, hb1⟩; replace hb1 := hb.trans (hb1.mono hb.size); clear hcall)
        go_roundg (n - (k + 1))
        case measure => omega
        case rel => exact ⟨k + 1, by omega, by omega, by go_num, by show _ = _; rw [any_take_succ HX.out, HA, HQ.out]; rfl, hb1⟩
    · have : k = n := by omega
      subst this
      have HT := Lib.hid (List.take_of_length_le (Nat.le_of_eq h.len))
      go_wp2_with fail
      go_ret
      exact ⟨retI (by rw [idxF_none (by rw [← HT.out]; exact HA)]), hb⟩
theorem ContainsFunc_int (A : Option Addr) (n cap : Nat) (l : List Int) (g : Nat) (lb : Array Value) (p : Int → Bool) (w : World) (h : Sl intC 1 w All A n cap l)
    (eg : ∀ args w, (callFunc g args).run Try.prog w = .ok (.enter g args) w)
    (hp : ∀ (x : Int) (w1 : World), x ∈ l → Below w.heap.size w w1 → Calls Try.prog g (#[.int .i64 x] ++ lb) w1 fun e w' => e = .returned (.bool (p x)) ∧ Below w1.heap.size w1 w') :
    Calls Try.prog 46 #[.slice A n cap, .func (.func g) #[] lb] w fun e w' => e = .returned (.bool (l.any p)) ∧ Below w.heap.size w w' := by
  have HC := IndexFunc_int A n cap l g lb p w h eg hp
  clear hp
  go_enter Try.func46, Try.ntmps46
  go_wp2_with fail
  refine HC.mono ?_
  rintro e w1 ⟨rfl, hb⟩
  have HI := Lib.hid (idxF_any (p := p) (l := l))
  have hbd := idxF_bd (p := p) (l := l) (by have := h.bd; have := h.len; omega)
  go_wp2_with fail
  go_ret
  exact ⟨retB HI.out, hb⟩

/-- The greatest of numbers that are not below 0; -1 of none. -/
def mx (l : List Int) : Int := l.foldl max (-1)
theorem mx_snoc (l : List Int) (x : Int) : mx (l ++ [x]) = max (mx l) x := by simp [mx]
theorem mx_succ {l : List Int} {k : Nat} {x : Int} (h : l[k]? = some x) : mx (l.take (k + 1)) = max (mx (l.take k)) x := by rw [take_snoc h, mx_snoc]
theorem foldl_ge (l : List Int) : ∀ a, a ≤ l.foldl max a ∧ (∀ x ∈ l, x ≤ l.foldl max a) ∧ (l.foldl max a = a ∨ l.foldl max a ∈ l) := by
  induction l with
  | nil => intro a; simp
  | cons y l ih =>
    intro a
    obtain ⟨h1, h2, h3⟩ := ih (max a y)
    rw [List.foldl_cons]
    refine ⟨by omega, ?_, ?_⟩
    · intro x hx
      rcases List.mem_cons.1 hx with rfl | hx
      · omega
      · exact h2 x hx
    · rcases h3 with h3 | h3
      · rw [h3]
        rcases Int.le_total a y with h | h
        · right; rw [Int.max_eq_right h]; simp
        · left; rw [Int.max_eq_left h]
      · right; exact List.mem_cons_of_mem _ h3
theorem mx_mem {l : List Int} (h : ∀ x ∈ l, 0 ≤ x) (hn : l ≠ []) : mx l ∈ l := by
  rcases (foldl_ge l (-1)).2.2 with e | e
  · obtain ⟨x, hx⟩ := List.exists_mem_of_ne_nil l hn
    have := (foldl_ge l (-1)).2.1 x hx
    have := h x hx
    omega
  · exact e
theorem mx_ge {l : List Int} {x : Int} (h : x ∈ l) : x ≤ mx l := (foldl_ge l (-1)).2.1 x h
theorem mx_lo (l : List Int) : -1 ≤ mx l := (foldl_ge l (-1)).1
theorem mx_in {l : List Int} (h : ∀ x ∈ l, InI x) : InI (mx l) := by
  rcases (foldl_ge l (-1)).2.2 with e | e
  · unfold mx; rw [e]; exact .of (by omega) (by omega)
  · exact h _ e

theorem Sl.ints {w : World} {A : Option Addr} {n cap : Nat} {l : List Int} (h : Sl intC 1 w All A n cap l) : ∀ x ∈ l, InI x := by
  intro x hx
  obtain ⟨i, hi⟩ := List.getElem?_of_mem hx
  obtain ⟨_, _, _, _, _, hc, _⟩ := h.rd i x hi
  exact hc.2

set_option maxHeartbeats 1000000 in
theorem Index_int (A : Option Addr) (n cap : Nat) (l : List Int) (v : Int) (w : World) (h : Sl intC 1 w All A n cap l) :
    Calls Try.prog 80 #[.slice A n cap, .int .i64 v] w fun e w' => e = .returned (.int .i64 (idxF (fun x => v == x) l)) ∧ w' = w := by
  have hbd := h.bd
  go_enter Try.func80, Try.ntmps80
  go_wp2_with fail
  go_loopg [8] n (fun gk i wr => ∃ k : Nat, k ≤ n ∧ n - k ≤ gk ∧ i = .int .i64 k ∧ Aside ((l.take k).any (fun x => v == x) = false) ∧ wr = w)
  case atStart => exact ⟨0, Nat.zero_le _, by omega, rfl, rfl, rfl⟩
  case round =>
    obtain ⟨k, hk, hgk, rfl, HA, rfl⟩ := hrel
    by_cases hlt : k < n
    · obtain ⟨b, off, x, c0, rfl, hx, ⟨hc, b0⟩, g0⟩ := h.at1 hlt
      simp only [List.cons.injEq, and_true] at hc
      subst hc
      have HX := Lib.hid hx
      clear hx
      by_cases hq : v = x
      · subst hq
        go_wp2_with fail
        go_ret
        exact ⟨retI (idxF_at HA HX.out (by simp)).symm, rfl⟩
      · have hq' : (v == x) = false := by simpa using hq
        clear hq
        have HQ := Lib.hid hq'
        go_wp2_with fail
        go_roundg (n - (k + 1))
        case measure => omega
        case rel => exact ⟨k + 1, by omega, by omega, by go_num, by show _ = _; rw [any_take_succ HX.out, HA, HQ.out]; rfl, rfl⟩
    · have : k = n := by omega
      subst this
      have HT := Lib.hid (List.take_of_length_le (Nat.le_of_eq h.len))
      go_wp2_with fail
      go_ret
      exact ⟨retI (by rw [idxF_none (by rw [← HT.out]; exact HA)]), rfl⟩


structure Span where
  frm : Int
  upto : Int
  deriving DecidableEq, Inhabited

def spanC : Cod Span := fun _ _ x cs => cs = [.int .i64 x.frm, .int .i64 x.upto] ∧ InI x.frm ∧ InI x.upto
theorem spanC_flat : Flat spanC := fun _ _ _ _ _ _ h => h
theorem spanC_good : Good spanC := .of_flat spanC_flat fun h u hu => by obtain ⟨rfl, _⟩ := h; simp at hu; rcases hu with rfl | rfl <;> rfl

def legsB (n : Int) : Bool := betB n 1 7
/-- What is wrong with a span. -/
def spanE (s : Span) (legs : Int) : Int := if legsB legs = false ∨ s.frm < 0 ∨ legs < s.upto then 3 else if s.upto ≤ s.frm then 4 else 0
theorem legs_any (n : Int) (w : World) : Calls Try.prog 52 #[.int .i64 n] w fun e w' => e = .returned (.bool (legsB n)) ∧ w = w' := by
  go_enter Try.func52, Try.ntmps52
  go_wp2
  all_goals go_ret
  all_goals exact ⟨retB (by simp [legsB, betB]; try omega), rfl⟩

set_option maxHeartbeats 1000000 in
theorem spanCheck_any (a b : Int) (legs : Int) (w : World) : Calls Try.prog 31 #[.agg #[.int .i64 a, .int .i64 b], .int .i64 legs] w fun e w' => e = .returned (.int .i64 (spanE ⟨a, b⟩ legs)) ∧ Below w.heap.size w w' := by
  go_enter Try.func31, Try.ntmps31
  have hl : ∃ q, q = legsB legs := ⟨_, rfl⟩
  obtain ⟨q, hq⟩ := hl
  have HQ := Lib.hid hq
  have hc := fun W => legs_any legs W
  rw [← hq] at hc
  clear hq
  cases q
  all_goals go_wp2_with (go_at_call 52; refine (hc _).mono ?_; rintro e w' ⟨rfl, rfl⟩)
  all_goals go_ret
  all_goals refine ⟨retI ?_, (Below.refl _ _).alloc (Nat.le_refl _) _⟩
  all_goals (try simp at *)
  all_goals unfold spanE
  all_goals rw [HQ.out]
  all_goals dsimp only
  all_goals simp
  all_goals (repeat' split)
  all_goals omega
set_option maxHeartbeats 1000000 in
theorem CheckSpan_any (a b : Int) (legs : Int) (w : World) : Calls Try.prog 25 #[.agg #[.int .i64 a, .int .i64 b], .int .i64 legs] w fun e w' => e = .returned (.int .i64 (spanE ⟨a, b⟩ legs)) ∧ Below w.heap.size w w' := by
  go_enter Try.func25, Try.ntmps25
  have hl : ∃ q, q = legsB legs := ⟨_, rfl⟩
  obtain ⟨q, hq⟩ := hl
  have HQ := Lib.hid hq
  have hc := fun W => between_any legs 1 7 W
  rw [show betB legs 1 7 = legsB legs from rfl, ← hq] at hc
  clear hq
  cases q
  all_goals go_wp2_with (go_at_call 49; refine (hc _).mono ?_; rintro e w' ⟨rfl, rfl⟩)
  all_goals go_ret
  all_goals refine ⟨retI ?_, (Below.refl _ _).alloc (Nat.le_refl _) _⟩
  all_goals (try simp at *)
  all_goals unfold spanE
  all_goals rw [HQ.out]
  all_goals dsimp only
  all_goals simp
  all_goals (repeat' split)
  all_goals omega


/-- The elements from a to b. -/
def seg (l : List Int) (a b : Int) : List Int := (l.drop a.toNat).take (b.toNat - a.toNat)
theorem Sl.segm {w : World} {A : Option Addr} {n cap f t : Nat} {l : List Int} (h : Sl intC 1 w All A n cap l) (hft : f < t) (ht : t ≤ n) : Sl intC 1 w All (A.map fun x => x.add f) (t - f) (cap - f) (seg l f t) := by
  have hc := h.cut (k := f) (m := t) (by omega) ht
  rw [if_neg (by have := h.le; omega)] at hc
  unfold seg
  simpa using hc
theorem seg_mem {l : List Int} {a b x : Int} (h : x ∈ seg l a b) : x ∈ l := List.mem_of_mem_drop (List.mem_of_mem_take h)

theorem seg_length {l : List Int} {f t : Nat} (ht : t ≤ l.length) : (seg l f t).length = t - f := by
  unfold seg; rw [List.length_take, List.length_drop]; simp; omega
theorem seg_at {l : List Int} {f t k : Nat} {x : Int} (hx : l[k]? = some x) (hf : f ≤ k) (ht : k < t) : (seg l f t)[k - f]? = some x := by
  unfold seg
  simp only [Int.toNat_natCast]
  rw [List.getElem?_take, if_pos (by omega), List.getElem?_drop, show f + (k - f) = k by omega]; exact hx


theorem sl_int (w : World) (S : Nat → Prop) (x : Int) (t : TypeId) (hx : InI x) (hS : S w.heap.size) : Sl intC 1 (w.alloc (.cells #[.int .i64 x] t)) S (some ⟨w.heap.size, 0, none⟩) 1 1 [x] :=
  Sl.lit1 w S t x [.int .i64 x] ⟨rfl, hx⟩ hS

/-- A block that holds a span. -/
def SpanAt (w : World) (b : Nat) (x y : Int) : Prop := w.heap[b]? = some (.cells #[.int .i64 x, .int .i64 y] 45 (0, 0))
theorem SpanAt.c0 {w : World} {b : Nat} {x y : Int} (h : SpanAt w b x y) : w.cell? ⟨b, 0, none⟩ = some (.int .i64 x) := cell_of_blk h rfl
theorem SpanAt.c1 {w : World} {b : Nat} {x y : Int} (h : SpanAt w b x y) : w.cell? ⟨b, 1, none⟩ = some (.int .i64 y) := cell_of_blk h rfl
theorem SpanAt.below {w w' : World} {b : Nat} {x y : Int} (h : SpanAt w b x y) (hb : Below w.heap.size w w') : SpanAt w' b x y := (hb.block _ (lt_of_block h)).trans h
theorem SpanAt.new (w : World) (x y : Int) : SpanAt (w.alloc (.cells #[.int .i64 x, .int .i64 y] 45)) w.heap.size x y := blk1 _ _

theorem lit_ints (w : World) (S : Nat → Prop) (t : TypeId) (l : List Int) (hm : l.length ≤ 1000000) (hS : S w.heap.size) (h : ∀ x ∈ l, InI x) :
    Sl intC 1 (w.alloc (.cells (l.map (Value.int .i64)).toArray t)) S (some ⟨w.heap.size, 0, none⟩) l.length l.length l :=
  Sl.lit w S t _ l hm hS fun i x hx => ⟨[.int .i64 x], ⟨rfl, h x (List.mem_of_getElem? hx)⟩, rfl, fun j u hu => by
    rcases j with _ | j
    · simp at hu; subst hu; simp [hx]
    · simp at hu⟩

end Go.Proofs.Ytpodgidamoiakaa
