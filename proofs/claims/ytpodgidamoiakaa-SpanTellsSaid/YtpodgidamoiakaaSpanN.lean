/-
  Spans: plain laws: what the references give is what the code gives.
-/
import Derived.Test.YtpodgidamoiakaaSpanM
namespace Go.Proofs.Ytpodgidamoiakaa
open Go.RowKit Go.Shelf

def cov (P : List Span) (i : Int) : Bool := P.any (inLeg i)
theorem cov_iff {P : List Span} {i : Int} : cov P i = true ↔ ∃ x ∈ P, x.frm ≤ i ∧ i < x.upto := by
  unfold cov inLeg
  rw [List.any_eq_true]
  constructor
  · rintro ⟨x, hx, h⟩; exact ⟨x, hx, by simpa using h⟩
  · rintro ⟨x, hx, h⟩; exact ⟨x, hx, by simpa using h⟩
/-- Two lists of spans that lie apart and cover the same legs are one list. -/
theorem apart_unique {N : Int} : ∀ (P Q : List Span), (∀ x ∈ P, 0 ≤ x.frm ∧ x.frm < x.upto ∧ x.upto ≤ N) → (∀ x ∈ Q, 0 ≤ x.frm ∧ x.frm < x.upto ∧ x.upto ≤ N) →
    P.Pairwise (fun x y => x.upto < y.frm) → Q.Pairwise (fun x y => x.upto < y.frm) → (∀ i, 0 ≤ i → i < N → (cov P i = true ↔ cov Q i = true)) → P = Q := by
  intro P
  induction P with
  | nil =>
    intro Q _ hQ _ _ hc
    cases Q with
    | nil => rfl
    | cons q Q =>
      have hq := hQ q (List.mem_cons_self ..)
      have := (hc q.frm hq.1 (by omega)).2 (cov_iff.2 ⟨q, List.mem_cons_self .., by omega⟩)
      simp [cov] at this
  | cons p P ih =>
    intro Q hP hQ aP aQ hc
    cases Q with
    | nil =>
      have hp := hP p (List.mem_cons_self ..)
      have := (hc p.frm hp.1 (by omega)).1 (cov_iff.2 ⟨p, List.mem_cons_self .., by omega⟩)
      simp [cov] at this
    | cons q Q =>
      have hp := hP p (List.mem_cons_self ..)
      have hq := hQ q (List.mem_cons_self ..)
      rw [List.pairwise_cons] at aP aQ
      have f1 : q.frm ≤ p.frm := by
        obtain ⟨y, hy, h1⟩ := cov_iff.1 ((hc p.frm hp.1 (by omega)).1 (cov_iff.2 ⟨p, List.mem_cons_self .., by omega⟩))
        rcases List.mem_cons.1 hy with rfl | hy
        · omega
        · have := aQ.1 y hy; omega
      have f2 : p.frm ≤ q.frm := by
        obtain ⟨y, hy, h1⟩ := cov_iff.1 ((hc q.frm hq.1 (by omega)).2 (cov_iff.2 ⟨q, List.mem_cons_self .., by omega⟩))
        rcases List.mem_cons.1 hy with rfl | hy
        · omega
        · have := aP.1 y hy; omega
      have u1 : ¬ p.upto < q.upto := fun h => by
        obtain ⟨y, hy, h1⟩ := cov_iff.1 ((hc p.upto (by omega) (by omega)).2 (cov_iff.2 ⟨q, List.mem_cons_self .., by omega⟩))
        rcases List.mem_cons.1 hy with rfl | hy
        · omega
        · have := aP.1 y hy; omega
      have u2 : ¬ q.upto < p.upto := fun h => by
        obtain ⟨y, hy, h1⟩ := cov_iff.1 ((hc q.upto (by omega) (by omega)).1 (cov_iff.2 ⟨p, List.mem_cons_self .., by omega⟩))
        rcases List.mem_cons.1 hy with rfl | hy
        · omega
        · have := aQ.1 y hy; omega
      have he : p = q := by
        obtain ⟨a, b⟩ := p
        obtain ⟨c, d⟩ := q
        simp only at f1 f2 u1 u2
        simp only [Span.mk.injEq]
        omega
      subst he
      rw [ih Q (fun x hx => hP x (List.mem_cons_of_mem _ hx)) (fun x hx => hQ x (List.mem_cons_of_mem _ hx)) aP.2 aQ.2 fun i h0 h1 => ?_]
      constructor
      · intro h
        obtain ⟨y, hy, h2⟩ := cov_iff.1 h
        have h3 := aP.1 y hy
        obtain ⟨z, hz, h4⟩ := cov_iff.1 ((hc i h0 h1).1 (cov_iff.2 ⟨y, List.mem_cons_of_mem _ hy, h2⟩))
        rcases List.mem_cons.1 hz with rfl | hz
        · omega
        · exact cov_iff.2 ⟨z, hz, h4⟩
      · intro h
        obtain ⟨y, hy, h2⟩ := cov_iff.1 h
        have h3 := aQ.1 y hy
        obtain ⟨z, hz, h4⟩ := cov_iff.1 ((hc i h0 h1).2 (cov_iff.2 ⟨y, List.mem_cons_of_mem _ hy, h2⟩))
        rcases List.mem_cons.1 hz with rfl | hz
        · omega
        · exact cov_iff.2 ⟨z, hz, h4⟩

theorem leg_in (i : Int) (x : Span) : legB i x = inLeg i x := by
  unfold legB betB inLeg
  congr 1
  rw [decide_eq_decide]; omega
theorem taken_cov (l : List Span) (i : Int) : takenB l i = cov l i := by
  unfold takenB cov
  congr 1
  funext x
  exact leg_in i x
theorem setLast_app (Q : List Span) (x : Span) (u : Int) : setLast (Q ++ [x]) u = Q ++ [⟨x.frm, u⟩] := by
  unfold setLast
  simp

/-- What is so of what is free of the first legs. -/
theorem frS_inv (l : List Span) (k : Nat) :
    (∀ x ∈ (frS l k).1, 0 ≤ x.frm ∧ x.frm < x.upto ∧ x.upto ≤ (k : Int)) ∧ (frS l k).1.Pairwise (fun x y => x.upto < y.frm) ∧
    (∀ i : Int, 0 ≤ i → i < (k : Int) → (cov (frS l k).1 i = true ↔ ¬ cov l i = true)) ∧
    ((frS l k).2 = true → ∃ Q x, (frS l k).1 = Q ++ [x] ∧ x.upto = (k : Int)) ∧ ((frS l k).2 = false → ∀ x ∈ (frS l k).1, x.upto < (k : Int)) := by
  induction k with
  | zero => exact ⟨by simp [frS], by simp [frS], fun i h0 h1 => by omega, by simp [frS], by simp [frS]⟩
  | succ k ih =>
    obtain ⟨h1, h2, h3, h4, h5⟩ := ih
    have hk : ((k + 1 : Nat) : Int) = (k : Int) + 1 := by omega
    cases ht : takenB l (k : Int) with
    | true =>
      rw [frS_taken ht, hk]
      rw [taken_cov] at ht
      refine ⟨fun x hx => ?_, h2, fun i h0 hi => ?_, by simp, fun _ x hx => ?_⟩
      · have := h1 x hx; omega
      · by_cases e : i = (k : Int)
        · subst e
          constructor
          · intro h
            obtain ⟨y, hy, h6⟩ := cov_iff.1 h
            have := h1 y hy
            omega
          · intro h; exact absurd ht h
        · exact h3 i h0 (by omega)
      · have := h1 x hx; omega
    | false =>
      cases ho : (frS l k).2 with
      | false =>
        rw [frS_shut ht ho, hk]
        rw [taken_cov] at ht
        have h6 := h5 ho
        refine ⟨fun x hx => ?_, ?_, fun i h0 hi => ?_, fun _ => ⟨_, _, rfl, rfl⟩, by simp⟩
        · rcases List.mem_append.1 hx with hx | hx
          · have := h1 x hx; omega
          · simp only [List.mem_singleton] at hx; subst hx; simp only; omega
        · rw [List.pairwise_append]
          refine ⟨h2, by simp, fun y hy z hz => ?_⟩
          simp only [List.mem_singleton] at hz; subst hz; exact h6 y hy
        · have hcv : cov ((frS l k).1 ++ [⟨(k : Int), (k : Int) + 1⟩]) i = (cov (frS l k).1 i || inLeg i ⟨(k : Int), (k : Int) + 1⟩) := by simp [cov]
          rw [hcv]
          by_cases e : i = (k : Int)
          · subst e
            rw [ht]
            simp [inLeg]
            right; omega
          · have : inLeg i ⟨(k : Int), (k : Int) + 1⟩ = false := by unfold inLeg; simp; omega
            rw [this, Bool.or_false]
            exact h3 i h0 (by omega)
      | true =>
        rw [frS_open ht ho, hk]
        rw [taken_cov] at ht
        obtain ⟨Q, x, hQ, hx⟩ := h4 ho
        rw [hQ] at h1 h2 h3 ⊢
        rw [setLast_app]
        rw [List.pairwise_append] at h2
        have hx1 := h1 x (by simp)
        refine ⟨fun y hy => ?_, ?_, fun i h0 hi => ?_, fun _ => ⟨_, _, rfl, rfl⟩, by simp⟩
        · rcases List.mem_append.1 hy with hy | hy
          · have := h1 y (List.mem_append_left _ hy); omega
          · simp only [List.mem_singleton] at hy; subst hy; simp only; omega
        · rw [List.pairwise_append]
          refine ⟨h2.1, by simp, fun y hy z hz => ?_⟩
          simp only [List.mem_singleton] at hz; subst hz; exact h2.2.2 y hy x (by simp)
        · have hcv : cov (Q ++ [⟨x.frm, (k : Int) + 1⟩]) i = (cov Q i || inLeg i ⟨x.frm, (k : Int) + 1⟩) := by simp [cov]
          have hcv2 : cov (Q ++ [x]) i = (cov Q i || inLeg i x) := by simp [cov]
          rw [hcv]
          by_cases e : i = (k : Int)
          · subst e
            rw [ht]
            have : inLeg (k : Int) ⟨x.frm, (k : Int) + 1⟩ = true := by unfold inLeg; simp; omega
            rw [this]; simp
          · have h7 := h3 i h0 (by omega)
            rw [hcv2] at h7
            have : inLeg i ⟨x.frm, (k : Int) + 1⟩ = inLeg i x := by
              unfold inLeg
              simp only
              rw [hx, decide_eq_true (show i < (k : Int) + 1 by omega), decide_eq_true (show i < (k : Int) by omega)]
            rw [this]; exact h7
theorem gapsS_in2 (N : Int) : ∀ n (l : List Span), l.length = n → (∀ x ∈ l, 0 ≤ x.frm ∧ x.frm < x.upto ∧ x.upto ≤ N) → 0 ≤ (gapsS l).2 ∧ ∀ y ∈ (gapsS l).1, 0 ≤ y.frm ∧ y.frm < y.upto ∧ y.upto ≤ N := by
  intro n
  induction n with
  | zero => intro l hl _; obtain rfl : l = [] := List.length_eq_zero_iff.1 hl; exact ⟨by decide, by simp [gapsS]⟩
  | succ n ih =>
    intro l hl hm
    rcases List.eq_nil_or_concat l with rfl | ⟨l', x, rfl⟩
    · simp at hl
    · rw [List.concat_eq_append] at *
      have hx := hm x (by simp)
      obtain ⟨h1, h2⟩ := ih l' (by simp at hl; omega) (fun y hy => hm y (List.mem_append_left _ hy))
      rw [gapsS_snoc]
      unfold gapF
      refine ⟨by simp only; omega, fun y hy => ?_⟩
      rcases List.mem_append.1 hy with hy | hy
      · exact h2 y hy
      · unfold gap at hy
        split at hy
        · simp only [List.mem_singleton] at hy; subst hy; simp only; omega
        · simp at hy
/-- Leg by leg it is the same. -/
theorem free_same {l : List Span} {N : Nat} (h : CalOk l (N : Int)) : (frS l N).1 = gapsL l (N : Int) := by
  obtain ⟨h1, h2, h3, _, _⟩ := frS_inv l N
  have hg := gapsS_in2 (N : Int) l.length l rfl (fun x hx => cal_mem h hx)
  refine apart_unique _ _ h1 (fun x hx => ?_) h2 (free_apart h) fun i h0 hi => ?_
  · unfold gapsL at hx
    rcases List.mem_append.1 hx with hx | hx
    · exact hg.2 x hx
    · unfold gap at hx
      split at hx
      · simp only [List.mem_singleton] at hx; subst hx; simp only; omega
      · simp at hx
  · rw [h3 i h0 hi]
    have hc := free_cnt h h0 hi
    have e1 : ∀ P : List Span, cov P i = true ↔ 0 < cnt i P := fun P => by
      unfold cov cnt
      rw [List.any_eq_true]
      constructor
      · rintro ⟨x, hx, hp⟩
        have := List.length_pos_of_mem (List.mem_filter.2 ⟨hx, hp⟩)
        omega
      · intro hp
        obtain ⟨x, hx⟩ := List.exists_mem_of_length_pos (l := P.filter (inLeg i)) (by omega)
        exact ⟨x, (List.mem_filter.1 hx).1, (List.mem_filter.1 hx).2⟩
    rw [e1, e1]
    have := (cnt_bd i l).1
    have := (cnt_bd i (gapsL l (N : Int))).1
    omega
end Go.Proofs.Ytpodgidamoiakaa
