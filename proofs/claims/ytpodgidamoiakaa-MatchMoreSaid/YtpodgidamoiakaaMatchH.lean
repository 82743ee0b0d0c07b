/-
  Plain laws on matchings: all are asked, one behind the other; how many found somebody is the most that may; no program in sight.
-/
import Derived.Test.YtpodgidamoiakaaMatchG
namespace Go.Proofs.Ytpodgidamoiakaa

theorem Found.size {N : Nat → List Nat} {has : List Int} {met : List Bool} {has' : List Int} {met' : List Bool} {l : Nat} (h : Found N has met has' met' l) : has'.length = has.length := h.len

/-- Whoever was asked (A) has somebody, or is among those that found nobody (no); those lie in what is shut (D). -/
structure Asked (N : Nat → List Nat) (right : Nat) (A : Nat → Prop) (has : List Int) (no : List Nat) (D : Nat → Prop) : Prop where
  len : has.length = right
  edge : ∀ r, r < right → has.getD r (-1) = -1 ∨ ∃ d : Nat, has.getD r (-1) = d ∧ A d ∧ r ∈ N d
  cnt : ∀ x : Nat, A x → x ∉ no → has.count (x : Int) = 1
  cnt0 : ∀ x : Nat, (¬ A x ∨ x ∈ no) → has.count (x : Int) = 0
  nod : no.Nodup
  noA : ∀ x ∈ no, A x
  noD : ∀ x ∈ no, D x
  DA : ∀ x, D x → A x
  shut : Shut N has D

theorem getD_mem {m : List Int} {r : Nat} {x : Int} (h : m.getD r (-1) = x) (hx : x ≠ -1) : r < m.length ∧ x ∈ m := by
  by_cases hr : r < m.length
  · rw [getD_at hr] at h; exact ⟨hr, h ▸ List.getElem_mem hr⟩
  · rw [getD_far (by omega)] at h; exact absurd h.symm hx

theorem Asked.start (N : Nat → List Nat) (right : Nat) (A : Nat → Prop) (hA : ∀ x, ¬ A x) : Asked N right A (List.replicate right (-1)) [] (fun _ => False) where
  len := by simp
  edge := fun r hr => .inl (by rw [List.getD_eq_getElem?_getD, List.getElem?_replicate, if_pos hr]; rfl)
  cnt := fun x hx => absurd hx (hA x)
  cnt0 := fun x _ => List.count_eq_zero.2 (by simp [List.mem_replicate])
  nod := by simp
  noA := by simp
  noD := by simp
  DA := fun _ h => h.elim
  shut := fun _ h => h.elim

theorem Asked.ok {N : Nat → List Nat} {right : Nat} {A : Nat → Prop} {has : List Int} {no : List Nat} {D : Nat → Prop} (h : Asked N right A has no D) {met met' : List Bool} {has' : List Int} {l : Nat} (hl : ¬ A l) (f : Found N has met has' met' l) :
    Asked N right (fun x => A x ∨ x = l) has' no D where
  len := by rw [f.len, h.len]
  edge := fun r hr => by
    -- whoever has somebody was asked
    have hA : ∀ d : Nat, has'.getD r (-1) = (d : Int) → A d ∨ d = l := fun d hd => by
      have hm := (getD_mem hd (by omega)).2
      have hc : 0 < has'.count (d : Int) := List.count_pos_iff.2 hm
      rw [f.cnt d] at hc
      by_cases he : d = l
      · exact .inr he
      · rw [if_neg he] at hc
        refine .inl (Classical.byContradiction fun hn => ?_)
        rw [h.cnt0 d (.inl hn)] at hc; omega
    rcases f.edge r (by rw [h.len]; exact hr) with e | ⟨d, e, hd⟩
    · rcases h.edge r hr with e2 | ⟨d, e2, h1, h2⟩
      · exact .inl (e.trans e2)
      · exact .inr ⟨d, e.trans e2, .inl h1, h2⟩
    · exact .inr ⟨d, e, hA d e, hd⟩
  cnt := fun x hx hn => by
    rw [f.cnt x]
    by_cases he : x = l
    · subst he; rw [if_pos rfl, h.cnt0 x (.inl hl)]
    · rw [if_neg he, h.cnt x (hx.resolve_right he) hn]
  cnt0 := fun x hx => by
    rw [f.cnt x]
    have he : x ≠ l := fun e => by
      subst e
      rcases hx with hx | hx
      · exact hx (.inr rfl)
      · exact hl (h.noA x hx)
    rw [if_neg he, h.cnt0 x (hx.imp (fun hn ha => hn (.inl ha)) id)]
  nod := h.nod
  noA := fun x hx => .inl (h.noA x hx)
  noD := h.noD
  DA := fun x hx => .inl (h.DA x hx)
  shut := fun d hd r hr => by
    obtain ⟨d', h1, h2⟩ := h.shut d hd r hr
    exact ⟨d', (f.shut D h.shut).2 r d' h1 h2, h2⟩

theorem Asked.nobody {N : Nat → List Nat} {right : Nat} {A : Nat → Prop} {has : List Int} {no : List Nat} {D : Nat → Prop} (h : Asked N right A has no D) (hN : ∀ d r, r ∈ N d → r < right) {met' : List Bool} {l : Nat} (hl : ¬ A l) (f : Failed N has (N l) (List.replicate right false) met') :
    Asked N right (fun x => A x ∨ x = l) has (no ++ [l]) (fun x => D x ∨ x = l ∨ ∃ r, met'.getD r true = true ∧ r < right ∧ has.getD r (-1) = x) where
  len := h.len
  edge := fun r hr => (h.edge r hr).imp id (fun ⟨d, e, h1, h2⟩ => ⟨d, e, .inl h1, h2⟩)
  cnt := fun x hx hn => by
    simp only [List.mem_append, List.mem_singleton, not_or] at hn
    exact h.cnt x (hx.resolve_right hn.2) hn.1
  cnt0 := fun x hx => by
    rcases hx with hx | hx
    · exact h.cnt0 x (.inl fun ha => hx (.inl ha))
    · rcases List.mem_append.1 hx with hx | hx
      · exact h.cnt0 x (.inr hx)
      · simp only [List.mem_singleton] at hx; subst hx; exact h.cnt0 x (.inl hl)
  nod := by
    rw [List.nodup_append]
    refine ⟨h.nod, by simp, fun x hx y hy => ?_⟩
    simp only [List.mem_singleton] at hy
    rintro rfl; subst hy; exact hl (h.noA _ hx)
  noA := fun x hx => by
    rcases List.mem_append.1 hx with hx | hx
    · exact .inl (h.noA x hx)
    · simp only [List.mem_singleton] at hx; exact .inr hx
  noD := fun x hx => by
    rcases List.mem_append.1 hx with hx | hx
    · exact .inl (h.noD x hx)
    · simp only [List.mem_singleton] at hx; exact .inr (.inl hx)
  DA := fun x hx => by
    rcases hx with hx | hx | ⟨r, _, hr, he⟩
    · exact .inl (h.DA x hx)
    · exact .inr hx
    · rcases h.edge r hr with e | ⟨d, e, h1, _⟩
      · rw [e] at he; omega
      · rw [e] at he; obtain rfl : d = x := by omega
        exact .inl h1
  shut := fun d hd r hr => by
    -- what is met leads to what is met
    have hmet : ∀ q, met'.getD q true = true → q < right → ∃ e : Nat, has.getD q (-1) = e ∧ ∀ r' ∈ N e, met'.getD r' true = true := fun q hq hqr => f.shut q hq (by rw [List.getD_eq_getElem?_getD, List.getElem?_replicate, if_pos hqr]; rfl)
    have out : ∀ q, met'.getD q true = true → q < right → ∃ d' : Nat, has.getD q (-1) = d' ∧ (D d' ∨ d' = l ∨ ∃ r, met'.getD r true = true ∧ r < right ∧ has.getD r (-1) = d') := fun q hq hqr => by
      obtain ⟨e, he, _⟩ := hmet q hq hqr
      exact ⟨e, he, .inr (.inr ⟨q, hq, hqr, he⟩)⟩
    rcases hd with hd | rfl | ⟨r0, h1, h2, h3⟩
    · obtain ⟨d', h1, h2⟩ := h.shut d hd r hr
      exact ⟨d', h1, .inl h2⟩
    · exact out r (f.kids r hr) (hN d r hr)
    · obtain ⟨e, he, hk⟩ := hmet r0 h1 h2
      rw [he] at h3
      obtain rfl : e = d := by omega
      exact out r (hk r hr) (hN e r hr)

-- the most that may be matched
/-- M is a matching: edges (left, right). -/
structure IsM (N : Nat → List Nat) (M : List (Nat × Nat)) : Prop where
  edge : ∀ p ∈ M, p.2 ∈ N p.1
  lefts : (M.map (·.1)).Nodup
  rights : (M.map (·.2)).Nodup

theorem nodup_map_inj {α β : Type} {f : α → β} : ∀ {l : List α}, (l.map f).Nodup → ∀ x ∈ l, ∀ y ∈ l, f x = f y → x = y
  | [], _, x, hx, _, _, _ => absurd hx (by simp)
  | z :: l, h, x, hx, y, hy, he => by
    rw [List.map_cons, List.nodup_cons] at h
    rcases List.mem_cons.1 hx with hx1 | hx1 <;> rcases List.mem_cons.1 hy with hy1 | hy1
    · rw [hx1, hy1]
    · exact absurd (List.mem_map.2 ⟨y, hy1, by rw [← he, hx1]⟩) h.1
    · exact absurd (List.mem_map.2 ⟨x, hx1, by rw [he, hy1]⟩) h.1
    · exact nodup_map_inj h.2 x hx1 y hy1 he
theorem nodup_map_of {α β : Type} {f : α → β} : ∀ {l : List α}, l.Nodup → (∀ x ∈ l, ∀ y ∈ l, f x = f y → x = y) → (l.map f).Nodup
  | [], _, _ => by simp
  | z :: l, h, hf => by
    rw [List.nodup_cons] at h
    rw [List.map_cons, List.nodup_cons]
    refine ⟨fun hm => ?_, nodup_map_of h.2 fun x hx y hy => hf x (by simp [hx]) y (by simp [hy])⟩
    obtain ⟨y, hy, he⟩ := List.mem_map.1 hm
    have := hf y (by simp [hy]) z (by simp) he
    subst this; exact h.1 hy
theorem nodup_of_map {α β : Type} {f : α → β} : ∀ {l : List α}, (l.map f).Nodup → l.Nodup
  | [], _ => by simp
  | z :: l, h => by
    rw [List.map_cons, List.nodup_cons] at h
    rw [List.nodup_cons]
    exact ⟨fun hm => h.1 (List.mem_map.2 ⟨z, hm, rfl⟩), nodup_of_map h.2⟩
/-- Two that have one name are one. -/
theorem count_one {m : List Int} {x : Int} (h : m.count x ≤ 1) {i j : Nat} (hi : m[i]? = some x) (hj : m[j]? = some x) : i = j := by
  refine Classical.byContradiction fun hne => ?_
  have key : ∀ (m : List Int) (i j : Nat), i < j → m[i]? = some x → m[j]? = some x → 2 ≤ m.count x := by
    intro m
    induction m with
    | nil => intro i j _ h; simp at h
    | cons y m ih =>
      intro i j hij h1 h2
      rcases i with _ | i
      · simp at h1; subst h1
        rcases j with _ | j
        · omega
        · simp at h2
          have := List.count_pos_iff.2 (List.mem_of_getElem? h2)
          rw [List.count_cons, if_pos (by simp)]; omega
      · rcases j with _ | j
        · omega
        · simp at h1 h2
          have := ih i j (by omega) h1 h2
          rw [List.count_cons]; omega
  rcases Nat.lt_or_ge i j with hl | hl
  · have := key m i j hl hi hj; omega
  · have := key m j i (by omega) hj hi; omega

theorem Asked.most {N : Nat → List Nat} {left right : Nat} {has : List Int} {no : List Nat} {D : Nat → Prop} (h : Asked N right (fun x => x < left) has no D) (hN : ∀ d r, r ∈ N d → d < left ∧ r < right) {M : List (Nat × Nat)} (hM : IsM N M) : M.length + no.length ≤ left := by
  classical
  -- whoever of M is in D hands over to whoever has his right one
  let F : Nat × Nat → Nat := fun p => if D p.1 then (has.getD p.2 (-1)).toNat else p.1
  have hD : ∀ p ∈ M, D p.1 → ∃ d' : Nat, has.getD p.2 (-1) = d' ∧ D d' ∧ d' ∉ no := fun p hp hd => by
    obtain ⟨d', h1, h2⟩ := h.shut p.1 hd p.2 (hM.edge p hp)
    refine ⟨d', h1, h2, fun hn => ?_⟩
    have h3 := h.cnt0 d' (.inr hn)
    have h4 := List.count_pos_iff.2 (getD_mem h1 (by omega)).2
    omega
  have hF1 : ∀ p ∈ M, F p < left ∧ F p ∉ no := fun p hp => by
    by_cases hd : D p.1
    · obtain ⟨d', h1, h2, h3⟩ := hD p hp hd
      have : F p = d' := by show (if _ then _ else _) = _; rw [if_pos hd, h1]; rfl
      rw [this]; exact ⟨h.DA d' h2, h3⟩
    · have : F p = p.1 := if_neg hd
      rw [this]; exact ⟨(hN _ _ (hM.edge p hp)).1, fun hn => hd (h.noD _ hn)⟩
  have hMn : M.Nodup := nodup_of_map hM.lefts
  have hF2 : (M.map F).Nodup := nodup_map_of hMn fun p hp q hq he => by
    by_cases hd : D p.1 <;> by_cases hd2 : D q.1
    · obtain ⟨d1, h1, h2, _⟩ := hD p hp hd
      obtain ⟨d2, h3, h4, _⟩ := hD q hq hd2
      have e1 : F p = d1 := by show (if _ then _ else _) = _; rw [if_pos hd, h1]; rfl
      have e2 : F q = d2 := by show (if _ then _ else _) = _; rw [if_pos hd2, h3]; rfl
      obtain rfl : d1 = d2 := by rw [← e1, ← e2]; exact he
      have g1 := (getD_mem h1 (by omega)).1
      have g2 := (getD_mem h3 (by omega)).1
      rw [getD_at g1] at h1
      rw [getD_at g2] at h3
      have hc : has.count (d1 : Int) ≤ 1 := by
        by_cases hn : d1 ∈ no
        · rw [h.cnt0 d1 (.inr hn)]; omega
        · rw [h.cnt d1 (h.DA d1 h2) hn]; omega
      have hr : p.2 = q.2 := count_one hc (List.getElem?_eq_some_iff.2 ⟨g1, h1⟩) (List.getElem?_eq_some_iff.2 ⟨g2, h3⟩)
      exact nodup_map_inj hM.rights p hp q hq hr
    · obtain ⟨d1, h1, h2, _⟩ := hD p hp hd
      have e1 : F p = d1 := by show (if _ then _ else _) = _; rw [if_pos hd, h1]; rfl
      have e2 : F q = q.1 := if_neg hd2
      exact absurd (by rw [← e2, ← he, e1]; exact h2) hd2
    · obtain ⟨d2, h3, h4, _⟩ := hD q hq hd2
      have e1 : F p = p.1 := if_neg hd
      have e2 : F q = d2 := by show (if _ then _ else _) = _; rw [if_pos hd2, h3]; rfl
      exact absurd (by rw [← e1, he, e2]; exact h4) hd
    · have e1 : F p = p.1 := if_neg hd
      have e2 : F q = q.1 := if_neg hd2
      exact nodup_map_inj hM.lefts p hp q hq (by rw [← e1, ← e2]; exact he)
  have hall := len_sub (M.map F ++ no) (List.range left) (by
    rw [List.nodup_append]
    refine ⟨hF2, h.nod, fun x hx y hy => ?_⟩
    obtain ⟨p, hp, rfl⟩ := List.mem_map.1 hx
    rintro rfl
    exact (hF1 p hp).2 hy) (fun x hx => List.mem_range.2 (by
    rcases List.mem_append.1 hx with hx | hx
    · obtain ⟨p, hp, rfl⟩ := List.mem_map.1 hx; exact (hF1 p hp).1
    · exact h.noA x hx))
  rw [List.length_append, List.length_map, List.length_range] at hall
  exact hall

/-- The matching that a row of right ones tells. -/
def mOf (has : List Int) : List (Nat × Nat) := (List.range has.length).filterMap (fun r => if has.getD r (-1) < 0 then none else some ((has.getD r (-1)).toNat, r))
theorem mOf_mem {has : List Int} {p : Nat × Nat} : p ∈ mOf has ↔ p.2 < has.length ∧ has.getD p.2 (-1) = (p.1 : Int) := by
  unfold mOf
  rw [List.mem_filterMap]
  constructor
  · rintro ⟨r, hr, h⟩
    by_cases h0 : has.getD r (-1) < 0
    · rw [if_pos h0] at h; cases h
    · rw [if_neg h0] at h
      injection h with h
      subst h
      exact ⟨List.mem_range.1 hr, by simp only; omega⟩
  · rintro ⟨h1, h2⟩
    refine ⟨p.2, List.mem_range.2 h1, ?_⟩
    rw [if_neg (by omega), h2]; rfl
theorem filterMap_snd (f : Nat → Option (Nat × Nat)) (hf : ∀ r p, f r = some p → p.2 = r) : ∀ l : List Nat, l.Nodup → ((l.filterMap f).map (·.2)).Nodup
  | [], _ => by simp
  | r :: l, h => by
    rw [List.nodup_cons] at h
    have ih := filterMap_snd f hf l h.2
    rw [List.filterMap_cons]
    cases hr : f r with
    | none => exact ih
    | some p =>
      rw [List.map_cons, List.nodup_cons]
      refine ⟨fun hm => ?_, ih⟩
      obtain ⟨p', hp', he⟩ := List.mem_map.1 hm
      obtain ⟨r', hr', hf'⟩ := List.mem_filterMap.1 hp'
      have e1 := hf r p hr
      have e2 := hf r' p' hf'
      have : r' = r := by rw [← e1, ← e2]; exact he
      subst this; exact h.1 hr'
theorem mOf_nodup (has : List Int) : (mOf has).Nodup := by
  refine nodup_of_map (f := (·.2)) (filterMap_snd _ (fun r p h => ?_) _ List.nodup_range)
  by_cases h0 : has.getD r (-1) < 0
  · rw [if_pos h0] at h; cases h
  · rw [if_neg h0] at h; injection h with h; subst h; rfl
theorem Asked.isM {N : Nat → List Nat} {A : Nat → Prop} {right : Nat} {has : List Int} {no : List Nat} {D : Nat → Prop} (h : Asked N right A has no D) : IsM N (mOf has) where
  edge := fun p hp => by
    obtain ⟨h1, h2⟩ := mOf_mem.1 hp
    rcases h.edge p.2 (by rw [← h.len]; exact h1) with e | ⟨d, e, _, hd⟩
    · rw [e] at h2; omega
    · rw [e] at h2; obtain rfl : d = p.1 := by omega
      exact hd
  lefts := nodup_map_of (mOf_nodup has) fun p hp q hq he => by
    obtain ⟨h1, h2⟩ := mOf_mem.1 hp
    obtain ⟨h3, h4⟩ := mOf_mem.1 hq
    have hc : has.count (p.1 : Int) ≤ 1 := by
      by_cases hn : p.1 ∈ no
      · rw [h.cnt0 _ (.inr hn)]; omega
      · by_cases ha : A p.1
        · rw [h.cnt _ ha hn]; omega
        · rw [h.cnt0 _ (.inl ha)]; omega
    have he' : p.1 = q.1 := he
    rw [getD_at h1] at h2
    rw [getD_at h3, ← he'] at h4
    have hr : p.2 = q.2 := count_one hc (List.getElem?_eq_some_iff.2 ⟨h1, h2⟩) (List.getElem?_eq_some_iff.2 ⟨h3, h4⟩)
    exact Prod.ext he' hr
  rights := by
    refine filterMap_snd _ (fun r p h => ?_) _ List.nodup_range
    by_cases h0 : has.getD r (-1) < 0
    · rw [if_pos h0] at h; cases h
    · rw [if_neg h0] at h; injection h with h; subst h; rfl
theorem Asked.best {N : Nat → List Nat} {left right : Nat} {has : List Int} {no : List Nat} {D : Nat → Prop} (h : Asked N right (fun x => x < left) has no D) (hN : ∀ d r, r ∈ N d → d < left ∧ r < right) : (mOf has).length + no.length = left := by
  have h1 := h.most hN h.isM
  have h2 := len_sub (List.range left) ((mOf has).map (·.1) ++ no) List.nodup_range (fun x hx => by
    have hxl := List.mem_range.1 hx
    by_cases hn : x ∈ no
    · exact List.mem_append_right _ hn
    · have hc := h.cnt x hxl hn
      obtain ⟨r, hr, he⟩ := List.getElem_of_mem (List.count_pos_iff.1 (show 0 < has.count (x : Int) by omega))
      exact List.mem_append_left _ (List.mem_map.2 ⟨(x, r), mOf_mem.2 ⟨hr, by rw [getD_at hr]; exact he⟩, rfl⟩))
  rw [List.length_range, List.length_append, List.length_map] at h2
  omega
/-- In whatever order they are asked, as many find nobody. -/
theorem Asked.same {N : Nat → List Nat} {left right : Nat} {has has2 : List Int} {no no2 : List Nat} {D D2 : Nat → Prop} (h : Asked N right (fun x => x < left) has no D) (h2 : Asked N right (fun x => x < left) has2 no2 D2) (hN : ∀ d r, r ∈ N d → d < left ∧ r < right) : no.length = no2.length := by
  have a1 := h.most hN h2.isM
  have a2 := h2.most hN h.isM
  have b1 := h.best hN
  have b2 := h2.best hN
  omega
end Go.Proofs.Ytpodgidamoiakaa
