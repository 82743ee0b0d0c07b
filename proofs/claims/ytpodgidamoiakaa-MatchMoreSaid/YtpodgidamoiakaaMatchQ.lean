/-
  Matchings: how many a greatest one has; graphs that are turned, that have an edge more, that are wider (plain laws).
-/
import Derived.Test.YtpodgidamoiakaaMatchN
import Derived.Test.YtpodgidamoiakaaMatchK
namespace Go.Proofs.Ytpodgidamoiakaa
open Go.RowKit Go.Shelf

/-- As many edges as a greatest matching has. -/
def IsSize (left right : Nat) (l : List Edg) (k : Nat) : Prop := ∃ (has : List Int) (no : List Nat) (D : Nat → Prop), Asked (nbrs l) right (fun x => x < left) has no D ∧ k + no.length = left
section
variable {left right : Nat} {l : List Edg} {k k2 : Nat}
theorem IsSize.eq (h : IsSize left right l k) (h2 : IsSize left right l k2) (hg : OkGr left right l) : k = k2 := by
  obtain ⟨has, no, D, h, e⟩ := h
  obtain ⟨has2, no2, D2, h2, e2⟩ := h2
  have := h.same h2 (nbrs_lt hg)
  omega
theorem IsSize.most (h : IsSize left right l k) (hg : OkGr left right l) {M : List (Nat × Nat)} (hM : IsM (nbrs l) M) : M.length ≤ k := by
  obtain ⟨has, no, D, h, e⟩ := h
  have := h.most (nbrs_lt hg) hM
  omega
theorem IsSize.le (h : IsSize left right l k) : k ≤ left := by
  obtain ⟨has, no, D, h, e⟩ := h
  omega
end
theorem IsSize.right {left right : Nat} {l : List Edg} {k : Nat} (h : IsSize left right l k) (hg : OkGr left right l) : k ≤ right := by
  obtain ⟨has, no, D, h, e⟩ := h
  have hb := h.best (nbrs_lt hg)
  have h1 := len_sub _ (List.range right) h.isM.rights (fun v hv => by
    obtain ⟨p, hp, rfl⟩ := List.mem_map.1 hv
    have := (mOf_mem.1 hp).1
    rw [h.len] at this
    exact List.mem_range.2 this)
  rw [List.length_map, List.length_range] at h1
  omega
/-- It has no more than there are right ones. -/
theorem Best.right {left right : Nat} {l ml : List Edg} (h : Best left right l ml) (hg : OkGr left right l) : ml.length ≤ right := by
  have hM := h.isM hg
  have h1 := len_sub _ (List.range right) hM.rights (fun v hv => by
    obtain ⟨p, hp, rfl⟩ := List.mem_map.1 hv
    exact List.mem_range.2 (nbrs_lt hg _ _ (hM.edge p hp)).2)
  rwa [List.length_map, List.length_map, List.length_range] at h1
theorem IsM.some {N N' : Nat → List Nat} {M M' : List (Nat × Nat)} (h : IsM N M) (hs : M'.Sublist M) (he : ∀ p ∈ M', p.2 ∈ N' p.1) : IsM N' M' :=
  ⟨he, List.Nodup.sublist (hs.map _) h.lefts, List.Nodup.sublist (hs.map _) h.rights⟩
theorem Best.le_of {left right left2 right2 : Nat} {l ml l2 ml2 : List Edg} (h : Best left right l ml) (h2 : Best left2 right2 l2 ml2) (hg : OkGr left right l) (hs : ∀ x ∈ l, x ∈ l2) : ml.length ≤ ml2.length := by
  have hM := h.isM hg
  have := h2.most _ (hM.some (List.Sublist.refl _) (fun p hp => nbrs_mem (hs _ (nbrs_edge hg (hM.edge p hp))) rfl rfl))
  rwa [List.length_map] at this
/-- An edge more matches at most one more. -/
theorem Best.one {left right left2 right2 : Nat} {l ml ml2 : List Edg} {x : Edg} (h : Best left right l ml) (h2 : Best left2 right2 (l ++ [x]) ml2) (hg : OkGr left right l) (hg2 : OkGr left2 right2 (l ++ [x])) : ml2.length = ml.length ∨ ml2.length = ml.length + 1 := by
  have h1 := h.le_of h2 hg (fun y hy => List.mem_append_left _ hy)
  have hM := h2.isM hg2
  obtain ⟨M, hMe⟩ : ∃ M, M = ml2.map (fun x => (x.lft.toNat, x.rgt.toNat)) := ⟨_, rfl⟩
  rw [← hMe] at hM
  have hnd : M.Nodup := nodup_of_map hM.lefts
  obtain ⟨p, hp⟩ : ∃ p, p = (x.lft.toNat, x.rgt.toNat) := ⟨_, rfl⟩
  have hE := h.most (M.erase p) (hM.some List.erase_sublist fun q hq => by
    have hq1 := (List.Nodup.mem_erase_iff hnd).1 hq
    have he := nbrs_edge hg2 (hM.edge q hq1.2)
    rcases List.mem_append.1 he with he | he
    · exact nbrs_mem he rfl rfl
    · simp only [List.mem_singleton] at he
      exact absurd (by rw [hp, ← he]; simp) hq1.1)
  have hl : M.length ≤ (M.erase p).length + 1 := by
    rw [List.length_erase]
    split <;> omega
  have hml : M.length = ml2.length := by rw [hMe, List.length_map]
  omega
/-- Turned round. -/
def turnE (x : Edg) : Edg := ⟨x.rgt, x.lft⟩
def turnL (l : List Edg) : List Edg := l.map turnE
theorem turn_turn (l : List Edg) : turnL (turnL l) = l := by
  unfold turnL turnE
  rw [List.map_map]
  exact List.map_id _
theorem turn_ok {left right : Nat} {l : List Edg} (h : OkGr left right l) : OkGr right left (turnL l) := fun x hx => by
  obtain ⟨y, hy, rfl⟩ := List.mem_map.1 hx
  have := h y hy
  exact ⟨this.2.2.1, this.2.2.2, this.1, this.2.1⟩
theorem turn_nodup {l : List Edg} (h : l.Nodup) : (turnL l).Nodup := nodup_map_of h fun x _ y _ e => by
  cases x; cases y
  unfold turnE at e
  simp only [Edg.mk.injEq] at e
  simp only [Edg.mk.injEq]
  exact ⟨e.2, e.1⟩
theorem Best.turn_le {left right left2 right2 : Nat} {l ml ml2 : List Edg} (h : Best left right l ml) (h2 : Best left2 right2 (turnL l) ml2) (hg : OkGr left right l) : ml.length ≤ ml2.length := by
  have hM := h.isM hg
  obtain ⟨M, hMe⟩ : ∃ M, M = ml.map (fun x => (x.lft.toNat, x.rgt.toNat)) := ⟨_, rfl⟩
  rw [← hMe] at hM
  have := h2.most (M.map (fun p => (p.2, p.1))) ⟨fun p hp => by
    obtain ⟨q, hq, rfl⟩ := List.mem_map.1 hp
    exact nbrs_mem (x := turnE _) (List.mem_map.2 ⟨_, nbrs_edge hg (hM.edge q hq), rfl⟩) rfl rfl, by rw [List.map_map]; exact hM.rights, by rw [List.map_map]; exact hM.lefts⟩
  rwa [List.length_map, hMe, List.length_map] at this
theorem Best.turn {left right left2 right2 : Nat} {l ml ml2 : List Edg} (h : Best left right l ml) (h2 : Best left2 right2 (turnL l) ml2) (hg : OkGr left right l) (hg2 : OkGr left2 right2 (turnL l)) : ml2.length = ml.length := by
  have h1 := h.turn_le h2 hg
  have h3 := h2.turn_le (ml2 := ml) (left2 := left) (right2 := right) (by rw [turn_turn]; exact h) hg2
  omega

theorem firstE_none {f : Nat → Int} : ∀ {n : Nat}, (∀ i, i < n → f i = 0) → firstE f n = 0
  | 0, _ => rfl
  | n + 1, h => firstE_succ (firstE_none fun i hi => h i (by omega)) (h n (by omega))
/-- A graph that is right is said to be so. -/
theorem grE_of {a b : Nat} {l : List Edg} (ha : a ≤ 16) (hb : b ≤ 16) (hg : OkGr a b l) (hn : l.Nodup) : grE a b l = 0 := by
  unfold grE
  rw [if_neg (by unfold sidesB; rw [betB_true (by omega) (by omega), betB_true (by omega) (by omega)]; simp)]
  refine firstE_none fun i hi => ?_
  rw [edgE_at (List.getElem?_eq_getElem hi)]
  have h1 := hg l[i] (List.getElem_mem hi)
  rw [if_neg (by rw [inE_true (by omega) (by omega) (by omega) (by omega)]; simp)]
  rw [if_neg]
  intro hc
  have hm := List.contains_iff_mem.1 hc
  obtain ⟨j, hj, he⟩ := List.mem_take_iff_getElem.1 hm
  rw [List.nodup_iff_pairwise_ne, List.pairwise_iff_getElem] at hn
  exact hn j i (by omega) hi (by omega) he

/-- What Most answers, what Lack answers. -/
def MostOk (left right : Int) (l ml : List Edg) : Prop := (grE left right l ≠ 0 → ml = []) ∧ ∀ a b : Nat, left = a → right = b → grE left right l = 0 → Best a b l ml ∧ IsSize a b l ml.length
def LackOk (left right : Int) (l : List Edg) (sm : List Int) : Prop := (grE left right l ≠ 0 → sm = []) ∧ ∀ a b : Nat, left = a → right = b → grE left right l = 0 → ∃ k, IsSize a b l k ∧ ((sm = [] ∧ k = a) ∨ (k < a ∧ Lacks a l sm))
theorem MostOk.none {left right : Int} {l : List Edg} (h : grE left right l ≠ 0) : MostOk left right l [] := ⟨fun _ => rfl, fun _ _ _ _ h0 => absurd h0 h⟩
theorem LackOk.none {left right : Int} {l : List Edg} (h : grE left right l ≠ 0) : LackOk left right l [] := ⟨fun _ => rfl, fun _ _ _ _ h0 => absurd h0 h⟩
theorem MostOk.of {a b : Nat} {l ml : List Edg} (h0 : grE a b l = 0) (h : Best a b l ml) (hs : IsSize a b l ml.length) : MostOk a b l ml := ⟨fun h => absurd h0 h, fun a' b' ha hb _ => by
  obtain rfl := Int.ofNat.inj ha
  obtain rfl := Int.ofNat.inj hb
  exact ⟨h, hs⟩⟩
theorem LackOk.of {a b : Nat} {l : List Edg} {sm : List Int} (h0 : grE a b l = 0) {k : Nat} (hs : IsSize a b l k) (h : (sm = [] ∧ k = a) ∨ (k < a ∧ Lacks a l sm)) : LackOk a b l sm := ⟨fun h => absurd h0 h, fun a' b' ha hb _ => by
  obtain rfl := Int.ofNat.inj ha
  obtain rfl := Int.ofNat.inj hb
  exact ⟨k, hs, h⟩⟩
end Go.Proofs.Ytpodgidamoiakaa
