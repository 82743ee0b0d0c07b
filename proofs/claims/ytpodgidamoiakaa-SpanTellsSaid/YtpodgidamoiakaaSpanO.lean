/-
  Spans: plain laws on taking; the laws' helper spansAre.
-/
import Derived.Test.YtpodgidamoiakaaSpanN
namespace Go.Proofs.Ytpodgidamoiakaa
open Go.RowKit Go.Shelf

theorem takeR_none {l : List Span} {s : Span} (h : ∀ x ∈ l, x ≠ s) : takeR l s = l := by
  unfold takeR
  rw [List.filter_eq_self]
  intro x hx
  simp [notSp, spanQ, h x hx]
theorem takeR_del {s : Span} : ∀ {l : List Span}, l.Pairwise (fun x y => x.frm < y.frm) → s ∈ l → takeR l s = delSp l s := by
  intro l
  induction l with
  | nil => intro _ h; simp at h
  | cons x l ih =>
    intro hp h
    rw [List.pairwise_cons] at hp
    by_cases e : x = s
    · subst e
      have h1 : takeR (x :: l) x = takeR l x := by unfold takeR; rw [List.filter_cons_of_neg (by simp [notSp, spanQ])]
      rw [h1, takeR_none (fun y hy e => by have := hp.1 y hy; rw [e] at this; omega)]
      unfold delSp
      rw [List.findIdx_cons, show spanQ x x = true from spanQ_iff.2 rfl]
      rfl
    · have hm : s ∈ l := by
        rcases List.mem_cons.1 h with h | h
        · exact absurd h.symm e
        · exact h
      have h1 : takeR (x :: l) s = x :: takeR l s := by unfold takeR; rw [List.filter_cons_of_pos (by simp [notSp, spanQ, e])]
      rw [h1, ih hp.2 hm]
      unfold delSp
      rw [List.findIdx_cons, show spanQ s x = false by simp [spanQ]; exact fun h => e h.symm]
      rfl
theorem delSp_len {l : List Span} {s : Span} (h : l.any (spanQ s) = true) : (delSp l s).length + 1 = l.length := by
  have hi : l.findIdx (spanQ s) < l.length := List.findIdx_lt_length_of_exists (by simpa using h)
  unfold delSp
  rw [List.length_append, List.length_take, List.length_drop]
  omega
/-- What the reference takes is what the code takes. -/
theorem take_same {l : List Span} {legs : Int} {s : Span} (h : CalOk l legs) (hr : readySpE l legs s = 0) : takeE l legs s = tkE (takeR l s) l ∧ okL (takeE l legs s) (delSp l s) = tkL (takeR l s) l := by
  unfold takeE
  rw [hr, if_neg (by simp)]
  cases q : l.any (spanQ s) with
  | true =>
    obtain ⟨y, hy, he⟩ := List.any_eq_true.1 q
    obtain rfl : s = y := spanQ_iff.1 he
    have ht := takeR_del (pair_lt (fun x hx => (cal_mem h hx).2.1) (cal_pair h)) hy
    have hl := delSp_len q
    rw [ht, if_pos rfl, okL_zero]
    exact ⟨(if_neg (by omega)).symm, (if_neg (by omega)).symm⟩
  | false =>
    have ht : takeR l s = l := takeR_none fun x hx e => by
      have := List.any_eq_false.1 q x hx
      exact this (spanQ_iff.2 e.symm)
    rw [ht, if_neg (by simp), okL_ne (by decide)]
    exact ⟨(if_pos rfl).symm, (if_pos rfl).symm⟩
/-- What the reference adds is what the code adds. -/
theorem add_same {l : List Span} {legs : Int} {s : Span} (hr : readySpE l legs s = 0) : addE l legs s = adE l s := by
  unfold addE
  rw [hr, if_neg (by simp)]
  rfl

set_option maxRecDepth 100000 in
set_option maxHeartbeats 2000000 in
theorem spansAre_any (A B : Option Addr) (n cap m cap2 : Nat) (l k : List Span) (u : Int) (w : World) (h : Sl spanC 2 w All A n cap (okL u l)) (h2 : Sl spanC 2 w All B m cap2 k) (hk : u = 0 → k = l) :
    Calls Try.prog 33 #[.slice A n cap, .int .i64 u, .int .i64 u, .slice B m cap2] w fun e w' => e = .returned (.bool true) ∧ Below w.heap.size w w' := by
  by_cases h0 : u = 0
  · obtain rfl := hk h0
    subst h0
    rw [okL_zero] at h
    have hs := SameSpans_any _ _ _ _ _ _ _ _ _ h h2
    rw [show decide (k = k) = true by simp] at hs
    have HS := Lib.hid hs
    clear hs
    clear h h2 hk
    go_enter Try.func33, Try.ntmps33
    go_wp2_with fail
    refine HS.out.mono ?_
    rintro e w6 ⟨rfl, q, rfl⟩
    go_wp2_with fail
    go_ret
    exact ⟨rfl, below_drewN (Below.refl _ _) _⟩
  · rw [okL_ne h0] at h
    have h0' : (u != 0) = true := by simpa using h0
    have hs := SameSpans_any _ _ _ _ _ _ _ _ _ h (Sl.nil w All spanC 2)
    rw [show decide (([] : List Span) = []) = true by decide] at hs
    have HS := Lib.hid hs
    clear hs
    clear h h2 hk h0
    go_enter Try.func33, Try.ntmps33
    go_wp2_with fail
    refine HS.out.mono ?_
    rintro e w6 ⟨rfl, q, rfl⟩
    go_wp2_with fail
    go_ret
    exact ⟨rfl, below_drewN (Below.refl _ _) _⟩
end Go.Proofs.Ytpodgidamoiakaa
