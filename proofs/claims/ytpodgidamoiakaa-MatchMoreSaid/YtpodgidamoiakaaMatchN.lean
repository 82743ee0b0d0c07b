/-
  Matchings: what Lack tells; what Best tells (plain laws).
-/
import Derived.Test.YtpodgidamoiakaaMatchC
namespace Go.Proofs.Ytpodgidamoiakaa
open Go.RowKit Go.Shelf

/-- Left ones, rising, that have fewer right ones than they are. -/
structure Lacks (left : Nat) (l : List Edg) (sm : List Int) : Prop where
  rng : ∀ x ∈ sm, 0 ≤ x ∧ x < left
  up : sm.Pairwise (fun x y => x < y)
  nb : ∃ P : List Nat, (∀ y ∈ l, y.lft ∈ sm → y.rgt.toNat ∈ P) ∧ P.length < sm.length

theorem up_of {sm : List Int} (h1 : sm.Pairwise (fun x y => x ≤ y)) (h2 : sm.Nodup) : sm.Pairwise (fun x y => x < y) := by
  have h3 : sm.Pairwise (fun x y => x ≠ y) := h2
  exact h1.imp₂ (fun a b h g => by omega) h3

/-- Which of them were met, below n. -/
def metL (met : List Bool) (n : Nat) : List Nat := (List.range n).filter (fun r => met.getD r true)
theorem metL_zero (met : List Bool) : metL met 0 = [] := rfl
theorem metL_succ (met : List Bool) (n : Nat) : metL met (n + 1) = if met.getD n true = true then metL met n ++ [n] else metL met n := by
  unfold metL
  rw [List.range_succ, List.filter_append]
  by_cases h : met.getD n true = true
  · rw [if_pos h, List.filter_cons_of_pos (p := fun r => met.getD r true) h]; rfl
  · rw [if_neg h, List.filter_cons_of_neg (p := fun r => met.getD r true) h, List.filter_nil, List.append_nil]
def lackL (n0 : Nat) (has : List Int) (met : List Bool) (n : Nat) : List Int := (n0 : Int) :: (metL met n).map (fun r => has.getD r (-1))
theorem lackL_succ (n0 : Nat) (has : List Int) (met : List Bool) (n : Nat) : lackL n0 has met (n + 1) = if met.getD n true = true then lackL n0 has met n ++ [has.getD n (-1)] else lackL n0 has met n := by
  unfold lackL
  rw [metL_succ]
  by_cases h : met.getD n true = true
  · rw [if_pos h, if_pos h]; simp
  · rw [if_neg h, if_neg h]

theorem lack_law {left right : Nat} {l : List Edg} {has : List Int} {no : List Nat} {D : Nat → Prop} (h : Asked (nbrs l) right (fun x => x < left) has no D) (hg : OkGr left right l) {n0 : Nat} (hn0 : n0 ∈ no) {met' : List Bool}
    (f : Failed (nbrs l) has (nbrs l n0) (List.replicate right false) met') {sm : List Int} (hp : sm.Perm (lackL n0 has met' right)) (hs : sm.Pairwise (fun x y => x ≤ y)) : Lacks left l sm := by
  have hP : ∀ r, r ∈ metL met' right ↔ r < right ∧ met'.getD r true = true := fun r => by unfold metL; rw [List.mem_filter, List.mem_range]
  have hmet : ∀ r, r < right → met'.getD r true = true → ∃ d : Nat, has.getD r (-1) = d ∧ ∀ r' ∈ nbrs l d, met'.getD r' true = true := fun r hr hm =>
    f.shut r hm (by rw [List.getD_eq_getElem?_getD, List.getElem?_replicate, if_pos hr]; rfl)
  have hc1 : ∀ d : Nat, has.count (d : Int) ≤ 1 := fun d => by
    by_cases hn : d ∈ no
    · rw [h.cnt0 d (.inr hn)]; omega
    · by_cases ha : d < left
      · rw [h.cnt d ha hn]; omega
      · rw [h.cnt0 d (.inl ha)]; omega
  have hnod : (lackL n0 has met' right).Nodup := by
    unfold lackL
    rw [List.nodup_cons]
    refine ⟨fun hm => ?_, nodup_map_of (List.Nodup.sublist List.filter_sublist List.nodup_range) fun r hr q hq he => ?_⟩
    · obtain ⟨r, hr, he⟩ := List.mem_map.1 hm
      have hc := h.cnt0 n0 (.inr hn0)
      have := List.count_pos_iff.2 (getD_mem he (by omega)).2
      omega
    · obtain ⟨hr1, hr2⟩ := (hP r).1 hr
      obtain ⟨hq1, hq2⟩ := (hP q).1 hq
      obtain ⟨d, hd, _⟩ := hmet r hr1 hr2
      have he' : has.getD q (-1) = (d : Int) := he ▸ hd
      have g1 := (getD_mem hd (by omega)).1
      have g2 := (getD_mem he' (by omega)).1
      rw [getD_at g1] at hd
      rw [getD_at g2] at he'
      exact count_one (hc1 d) (List.getElem?_eq_some_iff.2 ⟨g1, hd⟩) (List.getElem?_eq_some_iff.2 ⟨g2, he'⟩)
  refine ⟨fun x hx => ?_, up_of hs (hp.nodup_iff.2 hnod), metL met' right, fun y hy hyl => ?_, ?_⟩
  · have hx := hp.subset hx
    unfold lackL at hx
    rcases List.mem_cons.1 hx with rfl | hx
    · have : n0 < left := h.noA n0 hn0
      exact ⟨by omega, by omega⟩
    · obtain ⟨r, hr, rfl⟩ := List.mem_map.1 hx
      obtain ⟨hr1, hr2⟩ := (hP r).1 hr
      obtain ⟨d, hd, _⟩ := hmet r hr1 hr2
      rcases h.edge r hr1 with e | ⟨d2, e, ha, _⟩
      · rw [hd] at e; omega
      · show 0 ≤ has.getD r (-1) ∧ has.getD r (-1) < left
        rw [e]
        have ha : d2 < left := ha
        omega
  · obtain ⟨g0, g1, g2, g3⟩ := hg y hy
    obtain ⟨r, hr⟩ := Int.eq_ofNat_of_zero_le g2
    rw [hr]
    show r ∈ metL met' right
    refine (hP r).2 ⟨by omega, ?_⟩
    have hx := hp.subset hyl
    unfold lackL at hx
    rcases List.mem_cons.1 hx with e | hx
    · exact f.kids r (nbrs_mem hy e hr)
    · obtain ⟨q, hq, he⟩ := List.mem_map.1 hx
      obtain ⟨hq1, hq2⟩ := (hP q).1 hq
      obtain ⟨d, hd, hk⟩ := hmet q hq1 hq2
      exact hk r (nbrs_mem hy (by rw [← he]; exact hd) hr)
  · rw [hp.length_eq]
    unfold lackL
    simp

/-- The edges that a row of right ones tells, below n. -/
def bstL (has : List Int) (n : Nat) : List Edg := (List.range n).filterMap (fun r => if has.getD r (-1) < 0 then none else some ⟨has.getD r (-1), r⟩)
theorem bstL_succ (has : List Int) (n : Nat) : bstL has (n + 1) = if has.getD n (-1) < 0 then bstL has n else bstL has n ++ [⟨has.getD n (-1), n⟩] := by
  unfold bstL
  rw [List.range_succ, List.filterMap_append]
  by_cases h : has.getD n (-1) < 0
  · rw [if_pos h, List.filterMap_cons, if_pos h]; simp
  · rw [if_neg h, List.filterMap_cons, if_neg h]; rfl
theorem bstL_mOf (has : List Int) : bstL has has.length = (mOf has).map (fun p => (⟨(p.1 : Int), (p.2 : Int)⟩ : Edg)) := by
  unfold bstL mOf
  rw [List.map_filterMap]
  congr 1
  funext r
  by_cases h : has.getD r (-1) < 0
  · rw [if_pos h, if_pos h]; rfl
  · rw [if_neg h, if_neg h]
    simp only [Option.map_some, Option.some.injEq, Edg.mk.injEq, and_true]
    omega

/-- A greatest matching's edges, rising by left. -/
structure Best (left right : Nat) (l ml : List Edg) : Prop where
  sub : ∀ x ∈ ml, x ∈ l
  up : ml.Pairwise (fun x y => x.lft < y.lft)
  apart : ml.Pairwise (fun x y => x.rgt ≠ y.rgt)
  most : ∀ M : List (Nat × Nat), IsM (nbrs l) M → M.length ≤ ml.length
  le : ml.length ≤ left
theorem nbrs_edge {left right : Nat} {l : List Edg} (h : OkGr left right l) {d r : Nat} (hr : r ∈ nbrs l d) : (⟨(d : Int), (r : Int)⟩ : Edg) ∈ l := by
  unfold nbrs at hr
  obtain ⟨x, hx, rfl⟩ := List.mem_map.1 hr
  obtain ⟨h1, h2⟩ := List.mem_filter.1 hx
  have h3 := of_decide_eq_true h2
  have h4 := h x h1
  have : (⟨(d : Int), ((x.rgt.toNat : Nat) : Int)⟩ : Edg) = x := by
    cases x
    simp only [Edg.mk.injEq] at *
    omega
  rw [this]; exact h1
theorem best_law {left right : Nat} {l : List Edg} {has : List Int} {no : List Nat} {D : Nat → Prop} (h : Asked (nbrs l) right (fun x => x < left) has no D) (hg : OkGr left right l) {ml : List Edg} (hp : ml.Perm (bstL has right)) (hs : ml.Pairwise (fun x y => x.lft ≤ y.lft)) :
    Best left right l ml ∧ ml.length + no.length = left := by
  have hN := nbrs_lt hg
  have hM := h.isM
  have hb := h.best hN
  rw [← h.len, bstL_mOf] at hp
  have hlen := hp.length_eq
  rw [List.length_map] at hlen
  have hlft : (ml.map (·.lft)).Nodup := by
    refine (hp.map _).nodup_iff.2 ?_
    rw [List.map_map]
    have := nodup_map_of (f := fun n : Nat => (n : Int)) hM.lefts (fun x _ y _ e => Int.ofNat.inj e)
    rw [List.map_map] at this
    exact this
  have hrgt : (ml.map (·.rgt)).Nodup := by
    refine (hp.map _).nodup_iff.2 ?_
    rw [List.map_map]
    have := nodup_map_of (f := fun n : Nat => (n : Int)) hM.rights (fun x _ y _ e => Int.ofNat.inj e)
    rw [List.map_map] at this
    exact this
  refine ⟨⟨fun x hx => ?_, ?_, ?_, fun M hMM => ?_, by omega⟩, by omega⟩
  · obtain ⟨p, hp1, rfl⟩ := List.mem_map.1 (hp.subset hx)
    exact nbrs_edge hg (hM.edge p hp1)
  · have h3 : (ml.map (·.lft)).Pairwise (fun x y => x ≠ y) := hlft
    rw [List.pairwise_map] at h3
    exact hs.imp₂ (fun a b h g => by omega) h3
  · have h3 : (ml.map (·.rgt)).Pairwise (fun x y => x ≠ y) := hrgt
    rwa [List.pairwise_map] at h3
  · have := h.most hN hMM
    omega
/-- A matching's edges are a matching. -/
theorem Best.isM {left right : Nat} {l ml : List Edg} (h : Best left right l ml) (hg : OkGr left right l) : IsM (nbrs l) (ml.map (fun x => (x.lft.toNat, x.rgt.toNat))) where
  edge := fun p hp => by
    obtain ⟨x, hx, rfl⟩ := List.mem_map.1 hp
    have h1 := hg x (h.sub x hx)
    exact nbrs_mem (h.sub x hx) (by simp only; omega) (by simp only; omega)
  lefts := by
    rw [List.map_map]
    have h1 : ml.Pairwise (fun x y => x.lft.toNat ≠ y.lft.toNat) := List.Pairwise.imp_of_mem (fun {x y} hx hy hxy => by
      have h1 := hg x (h.sub x hx)
      have h2 := hg y (h.sub y hy)
      omega) h.up
    show (ml.map _).Pairwise (fun x y => x ≠ y)
    rw [List.pairwise_map]
    exact h1
  rights := by
    rw [List.map_map]
    have h1 : ml.Pairwise (fun x y => x.rgt.toNat ≠ y.rgt.toNat) := List.Pairwise.imp_of_mem (fun {x y} hx hy hxy => by
      have h1 := hg x (h.sub x hx)
      have h2 := hg y (h.sub y hy)
      omega) h.apart
    show (ml.map _).Pairwise (fun x y => x ≠ y)
    rw [List.pairwise_map]
    exact h1
/-- Two greatest ones are alike in number. -/
theorem Best.same {left right left2 right2 : Nat} {l ml l2 ml2 : List Edg} (h : Best left right l ml) (h2 : Best left2 right2 l2 ml2) (hg : OkGr left right l) (hg2 : OkGr left2 right2 l2) (he : ∀ x, x ∈ l ↔ x ∈ l2) : ml.length = ml2.length := by
  have tr : ∀ {l l2 : List Edg} {M : List (Nat × Nat)} {a b : Nat}, OkGr a b l → (∀ x ∈ l, x ∈ l2) → IsM (nbrs l) M → IsM (nbrs l2) M := fun hg hs hM => ⟨fun p hp => nbrs_mem (hs _ (nbrs_edge hg (hM.edge p hp))) rfl rfl, hM.lefts, hM.rights⟩
  have a1 := h2.most _ (tr hg (fun x hx => (he x).1 hx) (h.isM hg))
  have a2 := h.most _ (tr hg2 (fun x hx => (he x).2 hx) (h2.isM hg2))
  rw [List.length_map] at a1 a2
  omega
end Go.Proofs.Ytpodgidamoiakaa
