/-
  Words, laws and contracts: SpanB, SpanC, SpanS, SpanD, SpanG, SpanH, SpanI, SpanJ, SpanL.
-/
import Derived.Test.YtoilcdgpeilgaaaGreatBun1
import Derived.LoopN
import Derived.Test.YtoilcdgpeilgaaaGreatSortSpan
import Derived.Deep.RegionLaw
import Derived.Deep.RegionWith
set_option linter.unusedSimpArgs false
set_option linter.unusedVariables false
namespace Go.Proofs.YtoilcdgpeilgaaaGreat
open Go.RowKit Go.Shelf
instance spanK : CodK spanC 2 := ⟨spanC_good, by omega⟩
theorem span_elem : ElemOf Tryz.prog 104 34 2 16 := .mk' Tryz.underlying104 (z := .agg #[.int .i64 0, .int .i64 0]) (by kernel_rfl) rfl (by omega)
theorem sl_span (w : World) (S : Nat → Prop) (a b : Int) (t : TypeId) (ha : InI a) (hb : InI b) (hS : S w.heap.size) : Sl spanC 2 (w.alloc (.cells #[.int .i64 a, .int .i64 b] t)) S (some ⟨w.heap.size, 0, none⟩) 1 1 [⟨a, b⟩] :=
  Sl.lit1 w S t (⟨a, b⟩ : Span) [.int .i64 a, .int .i64 b] ⟨rfl, ha, hb⟩ hS
def meetB (a b : Span) : Bool := decide (a.frm < b.upto) && decide (b.frm < a.upto)
theorem Meet_any (a b c d : Int) (w : World) : Calls Tryz.prog 224 #[.agg #[.int .i64 a, .int .i64 b], .agg #[.int .i64 c, .int .i64 d]] w fun e w' => e = .returned (.bool (meetB ⟨a, b⟩ ⟨c, d⟩)) ∧ Below w.heap.size w w' := by
  by_cases h1 : a < d
  · by_cases h2 : c < b
    · have HM := Lib.hid (show meetB ⟨a, b⟩ ⟨c, d⟩ = true by simp [meetB, h1, h2])
      go_enter Tryz.func224, Tryz.ntmps224
      go_wp2_with fail
      go_ret
      exact ⟨retB (by rw [HM.out]), bel2 _ _ _⟩
    · have HM := Lib.hid (show meetB ⟨a, b⟩ ⟨c, d⟩ = false by simp [meetB]; omega)
      go_enter Tryz.func224, Tryz.ntmps224
      go_wp2_with fail
      go_ret
      exact ⟨retB (by rw [HM.out]), bel2 _ _ _⟩
  · have HM := Lib.hid (show meetB ⟨a, b⟩ ⟨c, d⟩ = false by simp [meetB]; omega)
    go_enter Tryz.func224, Tryz.ntmps224
    go_wp2_with fail
    go_ret
    exact ⟨retB (by rw [HM.out]), bel2 _ _ _⟩
def calErr (l : List Span) (legs : Int) (i : Nat) : Int :=
  if spanE (l[i]?.getD default) legs ≠ 0 then spanE (l[i]?.getD default) legs else if 0 < i ∧ (l[i]?.getD default).frm < (l[i - 1]?.getD default).upto then 4 else 0
def calE (l : List Span) (legs : Int) : Int := if legsB legs = false then 3 else firstErr (calErr l legs) l.length
def readySpE (l : List Span) (legs : Int) (s : Span) : Int := if calE l legs ≠ 0 then calE l legs else spanE s legs
end Go.Proofs.YtoilcdgpeilgaaaGreat
namespace Go.Proofs.YtoilcdgpeilgaaaGreat
open Go.RowKit Go.Shelf
theorem firstErr_none {f : Nat → Int} : ∀ {n : Nat}, firstErr f n = 0 → ∀ i, i < n → f i = 0 := by
  intro n
  induction n with
  | zero => intro _ i hi; omega
  | succ n ih =>
    intro h i hi
    simp only [firstErr] at h
    by_cases e : firstErr f n = 0
    · rw [if_pos e] at h
      by_cases e2 : i = n
      · rw [e2]; exact h
      · exact ih e i (by omega)
    · rw [if_neg e] at h; exact absurd h e
theorem span_ok {s : Span} {legs : Int} (h : spanE s legs = 0) : 1 ≤ legs ∧ legs ≤ 7 ∧ 0 ≤ s.frm ∧ s.frm < s.upto ∧ s.upto ≤ legs := by
  unfold spanE at h
  by_cases e : legsB legs = false ∨ s.frm < 0 ∨ legs < s.upto
  · rw [if_pos e] at h; omega
  · rw [if_neg e] at h
    by_cases e2 : s.upto ≤ s.frm
    · rw [if_pos e2] at h; omega
    · have hl : betB legs 1 7 = true := by
        cases q : betB legs 1 7 with
        | true => rfl
        | false => exact absurd (.inl q) e
      have := betB_iff.1 hl
      omega
structure CalOk (l : List Span) (legs : Int) : Prop where
  lo : 1 ≤ legs
  hi : legs ≤ 7
  el : ∀ (i : Nat) (x : Span), l[i]? = some x → 0 ≤ x.frm ∧ x.frm < x.upto ∧ x.upto ≤ legs
  ord : ∀ (i : Nat) (x y : Span), l[i]? = some x → l[i + 1]? = some y → x.upto ≤ y.frm
theorem cal_ok {l : List Span} {legs : Int} (h : calE l legs = 0) : CalOk l legs := by
  unfold calE at h
  cases q : legsB legs with
  | false => rw [if_pos q] at h; omega
  | true =>
    rw [if_neg (by simp [q])] at h
    have hall := firstErr_none h
    have hl := betB_iff.1 q
    have one : ∀ (i : Nat) (x : Span), l[i]? = some x → spanE x legs = 0 ∧ ¬ (0 < i ∧ x.frm < (l[i - 1]?.getD default).upto) := fun i x hx => by
      have hi := hall i (List.getElem?_eq_some_iff.1 hx).1
      unfold calErr at hi
      rw [hx, Option.getD_some] at hi
      by_cases e1 : spanE x legs = 0
      · rw [if_neg (by simp [e1])] at hi
        refine ⟨e1, fun e2 => ?_⟩
        rw [if_pos e2] at hi; omega
      · rw [if_pos e1] at hi; exact absurd hi e1
    refine ⟨hl.1, hl.2, fun i x hx => ?_, fun i x y hx hy => ?_⟩
    · have := span_ok (one i x hx).1; omega
    · have := (one _ y hy).2
      rw [show i + 1 - 1 = i by omega, hx, Option.getD_some] at this
      omega
theorem CalOk.ge {l : List Span} {legs : Int} (h : CalOk l legs) : ∀ (i : Nat) (x : Span), l[i]? = some x → (i : Int) + 1 ≤ x.upto := by
  intro i
  induction i with
  | zero => intro x hx; have := h.el 0 x hx; omega
  | succ i ih =>
    intro y hy
    have hi : i < l.length := by have := (List.getElem?_eq_some_iff.1 hy).1; omega
    have h1 := ih _ (List.getElem?_eq_getElem hi)
    have h2 := h.ord i _ y (List.getElem?_eq_getElem hi) hy
    have h3 := h.el _ y hy
    omega
theorem CalOk.len {l : List Span} {legs : Int} (h : CalOk l legs) : (l.length : Int) ≤ legs := by
  rcases Nat.eq_zero_or_pos l.length with e | e
  · have := h.lo; omega
  · have h1 := h.ge (l.length - 1) _ (List.getElem?_eq_getElem (by omega))
    have h2 := h.el (l.length - 1) _ (List.getElem?_eq_getElem (by omega))
    omega
theorem CalOk.apart {l : List Span} {legs : Int} (h : CalOk l legs) : ∀ {i j : Nat} {x y : Span}, i < j → l[i]? = some x → l[j]? = some y → x.upto ≤ y.frm := by
  intro i j x y hij
  induction j generalizing y with
  | zero => omega
  | succ j ih =>
    intro hx hy
    by_cases e : i = j
    · subst e; exact h.ord _ x y hx hy
    · have hj : j < l.length := by have := (List.getElem?_eq_some_iff.1 hy).1; omega
      have h1 := ih (y := l[j]) (by omega) hx (List.getElem?_eq_getElem hj)
      have h2 := h.ord j _ y (List.getElem?_eq_getElem hj) hy
      have h3 := h.el j _ (List.getElem?_eq_getElem hj)
      omega
end Go.Proofs.YtoilcdgpeilgaaaGreat
namespace Go.Proofs.YtoilcdgpeilgaaaGreat
open Go.RowKit Go.Shelf Go.Lib
open Go.Sort hiding Below
def encSp (x : Span) : List Value := [.int .i64 x.frm, .int .i64 x.upto]
abbrev SmSpan := { x : Span // -1000 ≤ x.frm ∧ x.frm ≤ 1000 }
instance : Inhabited SmSpan := ⟨⟨⟨0, 0⟩, by decide, by decide⟩⟩
def encSm (x : SmSpan) : List Value := encSp x.1
def cmpSm (x y : SmSpan) : Int := x.1.frm - y.1.frm
theorem swoSm : Go.Sort.SWO (ltOf cmpSm) := ⟨fun x => by simp [ltOf, cmpSm], fun x y z h1 h2 => by
  have h1 : cmpSm x y < 0 := of_decide_eq_true h1
  have h2 : cmpSm y z < 0 := of_decide_eq_true h2
  refine decide_eq_true ?_
  unfold cmpSm at *
  omega, fun x y z h1 h2 => by
  have h1 : ¬ cmpSm x y < 0 := of_decide_eq_false h1
  have h2 : ¬ cmpSm y z < 0 := of_decide_eq_false h2
  refine decide_eq_false ?_
  unfold cmpSm at *
  omega⟩
section
variable {α : Type} [Inhabited α] {enc : α → List Value} {k : Nat} {w : World} {blk n j : Nat} {d' : Array α} {os : Array Obj}
theorem sortWorld_old (hj : j < w.heap.size) (hne : j ≠ blk) : (sortWorldK enc k w blk 0 n d' os).heap[j]? = w.heap[j]? := by
  have h1 : (w.heap.modify blk (Go.Sort.onCells (Go.Sort.putCells id 0 (flatK enc k d')))).size = w.heap.size := by simp
  unfold sortWorldK Go.Sort.grow putRowK Go.Sort.putRow Go.Sort.mapBlock Go.Sort.ahead
  simp only
  rw [Array.getElem?_append_left (by rw [h1]; exact hj), Array.getElem?_modify, if_neg (fun e => hne e.symm)]
theorem sortWorld_at {cur : Array Value} {e : TypeId} (h : w.heap[blk]? = some (.cells cur e (0, 0))) : (sortWorldK enc k w blk 0 n d' os).heap[blk]? = some (.cells (Go.Sort.putCells id 0 (flatK enc k d') cur) e (0, 0)) := by
  have h1 : (w.heap.modify blk (Go.Sort.onCells (Go.Sort.putCells id 0 (flatK enc k d')))).size = w.heap.size := by simp
  unfold sortWorldK Go.Sort.grow putRowK Go.Sort.putRow Go.Sort.mapBlock Go.Sort.ahead
  simp only
  rw [Array.getElem?_append_left (by rw [h1]; exact (Array.getElem?_eq_some_iff.1 h).1), Array.getElem?_modify, if_pos rfl, h]
  rfl
theorem sortWorld_size : w.heap.size ≤ (sortWorldK enc k w blk 0 n d' os).heap.size := by
  unfold sortWorldK Go.Sort.grow putRowK Go.Sort.putRow Go.Sort.mapBlock Go.Sort.ahead
  simp
theorem sortWorld_kept : Kept (fun j => j = blk) w (sortWorldK enc k w blk 0 n d' os) := ⟨rfl, rfl, rfl, sortWorld_size, fun _ hj hS => sortWorld_old hj hS⟩
end
theorem flat_at (d : Array SmSpan) (i j : Nat) (hi : i < d.size) (hj : j < 2) : (flatK encSm 2 d)[i * 2 + j]! = (encSm d[i]!)[j]! := by
  rw [get_flatK _ _ _ _ (by omega), show (i * 2 + j) / 2 = i by omega, show (i * 2 + j) % 2 = j by omega]
end Go.Proofs.YtoilcdgpeilgaaaGreat
namespace Go.Proofs.YtoilcdgpeilgaaaGreat
open Go.RowKit Go.Shelf
def spAddE (l : List Span) (legs : Int) (s : Span) : Int := if readySpE l legs s ≠ 0 then readySpE l legs s else if l.any (fun x => meetB x s) then 6 else 0
theorem readySp_ok {l : List Span} {legs : Int} {s : Span} (h : readySpE l legs s = 0) : CalOk l legs ∧ spanE s legs = 0 := by
  unfold readySpE at h
  by_cases h1 : calE l legs ≠ 0
  · rw [if_pos h1] at h; exact absurd h h1
  · rw [if_neg h1] at h; exact ⟨cal_ok (by omega), h⟩
end Go.Proofs.YtoilcdgpeilgaaaGreat
namespace Go.Proofs.YtoilcdgpeilgaaaGreat
open Go.RowKit Go.Shelf
def insSp (s : Span) : List Span → List Span
  | [] => [s]
  | x :: l => if s.frm < x.frm then s :: x :: l else x :: insSp s l
theorem ins_perm (s : Span) (l : List Span) : (insSp s l).Perm (l ++ [s]) := by
  induction l with
  | nil => exact List.Perm.refl _
  | cons x l ih =>
    unfold insSp
    split
    · exact (List.perm_append_singleton s (x :: l)).symm
    · exact ih.cons x
theorem sorted_unique {l m : List Span} (hp : l.Perm m) (hl : l.Pairwise (fun x y => x.frm ≤ y.frm)) (hm : m.Pairwise (fun x y => x.frm < y.frm)) : l = m := by
  induction m generalizing l with
  | nil => exact hp.eq_nil
  | cons y m ih =>
    cases l with
    | nil => exact absurd hp.symm.eq_nil (by simp)
    | cons x l =>
      rw [List.pairwise_cons] at hl hm
      have hx : x ∈ y :: m := hp.subset (List.mem_cons_self ..)
      have hy : y ∈ x :: l := hp.symm.subset (List.mem_cons_self ..)
      have he : x = y := by
        rcases List.mem_cons.1 hx with e | hx
        · exact e
        · rcases List.mem_cons.1 hy with e | hy
          · exact e.symm
          · have h1 := hl.1 y hy
            have h2 := hm.1 x hx
            omega
      subst he
      rw [ih (List.Perm.cons_inv hp) hl.2 hm.2]
theorem meet_apart {x s : Span} (h : meetB x s = false) (_ : x.frm < x.upto) (_ : s.frm < s.upto) : x.upto ≤ s.frm ∨ s.upto ≤ x.frm := by
  unfold meetB at h
  simp at h
  omega
theorem ins_pair {s : Span} {l : List Span} (hs : s.frm < s.upto) (hm : ∀ x ∈ l, x.frm < x.upto) (hp : l.Pairwise (fun x y => x.upto ≤ y.frm)) (hn : l.any (fun x => meetB x s) = false) : (insSp s l).Pairwise (fun x y => x.upto ≤ y.frm) := by
  induction l with
  | nil => simp [insSp]
  | cons x l ih =>
    rw [List.pairwise_cons] at hp
    have hn' := List.any_eq_false.1 hn
    have hx := hm x (List.mem_cons_self ..)
    have hmx := meet_apart (by simpa using hn' x (List.mem_cons_self ..)) hx hs
    unfold insSp
    split
    · next h =>
      rw [List.pairwise_cons, List.pairwise_cons]
      refine ⟨fun y hy => ?_, hp⟩
      rcases List.mem_cons.1 hy with rfl | hy
      · omega
      · have h1 := hp.1 y hy
        omega
    · next h =>
      rw [List.pairwise_cons]
      refine ⟨fun y hy => ?_, ih (fun y hy => hm y (List.mem_cons_of_mem _ hy)) hp.2 (List.any_eq_false.2 fun y hy => hn' y (List.mem_cons_of_mem _ hy))⟩
      rcases List.mem_append.1 ((ins_perm s l).subset hy) with hy | hy
      · exact hp.1 y hy
      · simp only [List.mem_singleton] at hy
        subst hy
        omega
theorem add_zero {l : List Span} {legs : Int} {s : Span} (h : spAddE l legs s = 0) : CalOk l legs ∧ spanE s legs = 0 ∧ l.any (fun x => meetB x s) = false := by
  unfold spAddE at h
  by_cases h1 : readySpE l legs s ≠ 0
  · rw [if_pos h1] at h; exact absurd h h1
  · rw [if_neg h1] at h
    obtain ⟨h2, h3⟩ := readySp_ok (show readySpE l legs s = 0 by omega)
    refine ⟨h2, h3, ?_⟩
    cases q : l.any (fun x => meetB x s) with
    | false => rfl
    | true => rw [if_pos q] at h; exact absurd h (by decide)
theorem pair_lt {l : List Span} (hm : ∀ x ∈ l, x.frm < x.upto) (hp : l.Pairwise (fun x y => x.upto ≤ y.frm)) : l.Pairwise (fun x y => x.frm < y.frm) := by
  induction l with
  | nil => exact List.Pairwise.nil
  | cons x l ih =>
    rw [List.pairwise_cons] at hp ⊢
    refine ⟨fun y hy => ?_, ih (fun y hy => hm y (List.mem_cons_of_mem _ hy)) hp.2⟩
    have := hp.1 y hy
    have := hm x (List.mem_cons_self ..)
    omega
end Go.Proofs.YtoilcdgpeilgaaaGreat
namespace Go.Proofs.YtoilcdgpeilgaaaGreat
open Go.RowKit Go.Shelf
set_option maxRecDepth 100000 in
theorem span_ne (x y : Span) (W : World) : (binOp .neq 34 (.agg #[.int .i64 x.frm, .int .i64 x.upto]) (.agg #[.int .i64 y.frm, .int .i64 y.upto])).run Tryz.prog W = .ok (.bool (decide (x ≠ y))) W := by
  obtain ⟨a, b⟩ := x
  obtain ⟨c, d⟩ := y
  simp only [Span.mk.injEq, ne_eq]
  go_simp
  repeat' split
  all_goals simp_all
end Go.Proofs.YtoilcdgpeilgaaaGreat
namespace Go.Proofs.YtoilcdgpeilgaaaGreat
open Go.RowKit Go.Shelf
def inLeg (i : Int) (x : Span) : Bool := decide (x.frm ≤ i) && decide (i < x.upto)
def cnt (i : Int) (l : List Span) : Int := ((l.filter (inLeg i)).length : Int)
end Go.Proofs.YtoilcdgpeilgaaaGreat
namespace Go.Proofs.YtoilcdgpeilgaaaGreat
open Go.RowKit Go.Shelf
def OkSp (x : Span) : Prop := 0 ≤ x.frm ∧ x.frm < x.upto ∧ x.upto ≤ 7
end Go.Proofs.YtoilcdgpeilgaaaGreat
namespace Go.Proofs.YtoilcdgpeilgaaaGreat
open Go.RowKit Go.Shelf
def adE (l : List Span) (s : Span) : Int := if l.any (fun x => meetB x s) then 6 else 0
end Go.Proofs.YtoilcdgpeilgaaaGreat
