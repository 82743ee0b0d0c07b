/-
  Spans: plain laws on calendars: what is added lies in its place; what is added is taken again.
-/
import Derived.Test.YtpodgidamoiakaaSpanF
namespace Go.Proofs.Ytpodgidamoiakaa
open Go.RowKit Go.Shelf

/-- A calendar with a span more. -/
def insSp (s : Span) : List Span → List Span
  | [] => [s]
  | x :: l => if s.frm < x.frm then s :: x :: l else x :: insSp s l
theorem ins_perm (s : Span) (l : List Span) : (insSp s l).Perm (l ++ [s]) := by
  induction l with
  | nil => exact List.Perm.refl _
  | cons x l ih =>
    unfold insSp
    split
    · exact (List.perm_append_singleton s (x :: l)).symm
    · exact ih.cons x
theorem sorted_unique {l m : List Span} (hp : l.Perm m) (hl : l.Pairwise (fun x y => x.frm ≤ y.frm)) (hm : m.Pairwise (fun x y => x.frm < y.frm)) : l = m := by
  induction m generalizing l with
  | nil => exact hp.eq_nil
  | cons y m ih =>
    cases l with
    | nil => exact absurd hp.symm.eq_nil (by simp)
    | cons x l =>
      rw [List.pairwise_cons] at hl hm
      have hx : x ∈ y :: m := hp.subset (List.mem_cons_self ..)
      have hy : y ∈ x :: l := hp.symm.subset (List.mem_cons_self ..)
      have he : x = y := by
        rcases List.mem_cons.1 hx with e | hx
        · exact e
        · rcases List.mem_cons.1 hy with e | hy
          · exact e.symm
          · have h1 := hl.1 y hy
            have h2 := hm.1 x hx
            omega
      subst he
      rw [ih (List.Perm.cons_inv hp) hl.2 hm.2]
theorem cal_pair {l : List Span} {legs : Int} (h : CalOk l legs) : l.Pairwise (fun x y => x.upto ≤ y.frm) := by
  rw [List.pairwise_iff_getElem]
  intro i j hi hj hij
  exact h.apart hij (List.getElem?_eq_getElem hi) (List.getElem?_eq_getElem hj)
theorem cal_mem {l : List Span} {legs : Int} (h : CalOk l legs) {x : Span} (hx : x ∈ l) : 0 ≤ x.frm ∧ x.frm < x.upto ∧ x.upto ≤ legs := by
  obtain ⟨i, hi⟩ := List.getElem?_of_mem hx
  exact h.el i x hi
theorem cal_of {l : List Span} {legs : Int} (h1 : 1 ≤ legs) (h2 : legs ≤ 7) (hm : ∀ x ∈ l, 0 ≤ x.frm ∧ x.frm < x.upto ∧ x.upto ≤ legs) (hp : l.Pairwise (fun x y => x.upto ≤ y.frm)) : CalOk l legs := by
  refine ⟨h1, h2, fun i x hx => hm x (List.mem_of_getElem? hx), fun i x y hx hy => ?_⟩
  rw [List.pairwise_iff_getElem] at hp
  obtain ⟨hi, rfl⟩ := List.getElem?_eq_some_iff.1 hx
  obtain ⟨hj, rfl⟩ := List.getElem?_eq_some_iff.1 hy
  exact hp i (i + 1) hi hj (by omega)
theorem meet_apart {x s : Span} (h : meetB x s = false) (_ : x.frm < x.upto) (_ : s.frm < s.upto) : x.upto ≤ s.frm ∨ s.upto ≤ x.frm := by
  unfold meetB at h
  simp at h
  omega
theorem ins_pair {s : Span} {l : List Span} (hs : s.frm < s.upto) (hm : ∀ x ∈ l, x.frm < x.upto) (hp : l.Pairwise (fun x y => x.upto ≤ y.frm)) (hn : l.any (fun x => meetB x s) = false) : (insSp s l).Pairwise (fun x y => x.upto ≤ y.frm) := by
  induction l with
  | nil => simp [insSp]
  | cons x l ih =>
    rw [List.pairwise_cons] at hp
    have hn' := List.any_eq_false.1 hn
    have hx := hm x (List.mem_cons_self ..)
    have hmx := meet_apart (by simpa using hn' x (List.mem_cons_self ..)) hx hs
    unfold insSp
    split
    · next h =>
      rw [List.pairwise_cons, List.pairwise_cons]
      refine ⟨fun y hy => ?_, hp⟩
      rcases List.mem_cons.1 hy with rfl | hy
      · omega
      · have h1 := hp.1 y hy
        omega
    · next h =>
      rw [List.pairwise_cons]
      refine ⟨fun y hy => ?_, ih (fun y hy => hm y (List.mem_cons_of_mem _ hy)) hp.2 (List.any_eq_false.2 fun y hy => hn' y (List.mem_cons_of_mem _ hy))⟩
      rcases List.mem_append.1 ((ins_perm s l).subset hy) with hy | hy
      · exact hp.1 y hy
      · simp only [List.mem_singleton] at hy
        subst hy
        omega
theorem add_zero {l : List Span} {legs : Int} {s : Span} (h : addE l legs s = 0) : CalOk l legs ∧ spanE s legs = 0 ∧ l.any (fun x => meetB x s) = false := by
  unfold addE at h
  by_cases h1 : readySpE l legs s ≠ 0
  · rw [if_pos h1] at h; exact absurd h h1
  · rw [if_neg h1] at h
    obtain ⟨h2, h3⟩ := readySp_ok (show readySpE l legs s = 0 by omega)
    refine ⟨h2, h3, ?_⟩
    cases q : l.any (fun x => meetB x s) with
    | false => rfl
    | true => rw [if_pos q] at h; exact absurd h (by decide)
theorem ins_cal {l : List Span} {legs : Int} {s : Span} (h : addE l legs s = 0) : CalOk (insSp s l) legs := by
  obtain ⟨hok, hsp, hn⟩ := add_zero h
  have hs := span_ok hsp
  refine cal_of hok.lo hok.hi (fun x hx => ?_) (ins_pair hs.2.2.2.1 (fun x hx => (cal_mem hok hx).2.1) (cal_pair hok) hn)
  rcases List.mem_append.1 ((ins_perm s l).subset hx) with hx | hx
  · exact cal_mem hok hx
  · simp only [List.mem_singleton] at hx
    subst hx
    exact hs.2.2
theorem pair_lt {l : List Span} (hm : ∀ x ∈ l, x.frm < x.upto) (hp : l.Pairwise (fun x y => x.upto ≤ y.frm)) : l.Pairwise (fun x y => x.frm < y.frm) := by
  induction l with
  | nil => exact List.Pairwise.nil
  | cons x l ih =>
    rw [List.pairwise_cons] at hp ⊢
    refine ⟨fun y hy => ?_, ih (fun y hy => hm y (List.mem_cons_of_mem _ hy)) hp.2⟩
    have := hp.1 y hy
    have := hm x (List.mem_cons_self ..)
    omega
/-- What lies sorted is what lies in its place. -/
theorem add_eq {l l' : List Span} {legs : Int} {s : Span} (h : addE l legs s = 0) (hp : l'.Perm (l ++ [s])) (hw : l'.Pairwise (fun x y => x.frm ≤ y.frm)) : l' = insSp s l := by
  have hc := ins_cal h
  exact sorted_unique (hp.trans (ins_perm s l).symm) hw (pair_lt (fun x hx => (cal_mem hc hx).2.1) (cal_pair hc))
theorem spanQ_iff {x y : Span} : spanQ x y = true ↔ x = y := by simp [spanQ]
/-- What is added is taken again. -/
theorem del_ins {s : Span} {l : List Span} (h : ∀ x ∈ l, x ≠ s) : delSp (insSp s l) s = l := by
  unfold delSp
  induction l with
  | nil => simp [insSp, spanQ]
  | cons x l ih =>
    have hx := h x (List.mem_cons_self ..)
    have hq : spanQ s x = false := by simp [spanQ]; exact fun e => hx e.symm
    unfold insSp
    split
    · simp [List.findIdx_cons, spanQ]
    · have := ih fun y hy => h y (List.mem_cons_of_mem _ hy)
      rw [List.findIdx_cons, hq]
      simp only [cond_false, List.take_succ_cons, List.drop_succ_cons, List.cons_append]
      rw [this]
theorem ins_back {l : List Span} {legs : Int} {s : Span} (h : addE l legs s = 0) : takeE (insSp s l) legs s = 0 ∧ delSp (insSp s l) s = l ∧ addE (insSp s l) legs s = 6 := by
  obtain ⟨hok, hsp, hn⟩ := add_zero h
  have hs := span_ok hsp
  have hc := ins_cal h
  have hm : s ∈ insSp s l := (ins_perm s l).symm.subset (by simp)
  have hr : readySpE (insSp s l) legs s = 0 := by unfold readySpE; rw [cal_zero hc, if_neg (by simp), hsp]
  refine ⟨?_, del_ins fun x hx e => ?_, ?_⟩
  · unfold takeE; rw [hr, if_neg (by simp), if_pos (List.any_eq_true.2 ⟨s, hm, spanQ_iff.2 rfl⟩)]
  · have := List.any_eq_false.1 hn x hx
    subst e
    apply this
    unfold meetB
    simp
    omega
  · unfold addE; rw [hr, if_neg (by simp), if_pos (List.any_eq_true.2 ⟨s, hm, by unfold meetB; simp; omega⟩)]

theorem spanAdd_ins (A : Option Addr) (n cap : Nat) (l : List Span) (legs a b : Int) (w : World) (h : Sl spanC 2 w All A n cap l) (ia : InI a) (ib : InI b) :
    Calls Try.prog 23 #[.slice A n cap, .int .i64 legs, .agg #[.int .i64 a, .int .i64 b]] w fun e w' => ∃ v xs, e = .returned (.tuple #[v, .int .i64 (addE l legs ⟨a, b⟩)]) ∧
      Own spanC 2 45 w' w.heap.size v (okL (addE l legs ⟨a, b⟩) (insSp ⟨a, b⟩ l)) xs ∧ Below w.heap.size w w' := by
  refine (spanAdd_any A n cap l legs a b w h ia ib).mono ?_
  rintro e w' ⟨v, xs, l', rfl, ho, h1, h2, hb⟩
  refine ⟨v, xs, rfl, ?_, hb⟩
  by_cases h0 : addE l legs ⟨a, b⟩ = 0
  · rw [h0, okL_zero, ← add_eq h0 (h2 h0).1 (h2 h0).2]; exact ho
  · rw [okL_ne h0, ← h1 h0]; exact ho
end Go.Proofs.Ytpodgidamoiakaa
