/-
  Words, laws and contracts: MatchG, MatchH, MatchA, MatchB, MatchC, MatchN.
-/
import Derived.Test.YtoilcdgpeilgaaaGreatBun4
import Derived.Test.YtoilcdgpeilgaaaGreatBun9
import Derived.KernelRfl
import Derived.Deep.CutBlock
set_option linter.unusedSimpArgs false
set_option linter.unusedVariables false
namespace Go.Proofs.YtoilcdgpeilgaaaGreat
theorem len_sub {α : Type} [DecidableEq α] : ∀ (l1 l2 : List α), l1.Nodup → (∀ x ∈ l1, x ∈ l2) → l1.length ≤ l2.length
  | [], _, _, _ => Nat.zero_le _
  | x :: l1, l2, hn, hs => by
    have hx := hs x (by simp)
    rw [List.nodup_cons] at hn
    have h1 := len_sub l1 (l2.erase x) hn.2 (fun y hy => (List.mem_erase_of_ne (fun e => hn.1 (by rw [← e]; exact hy))).2 (hs y (by simp [hy])))
    rw [List.length_erase_of_mem hx] at h1
    have := List.length_pos_of_mem hx
    rw [List.length_cons]; omega
theorem getD_setI (m : List Int) (i j : Nat) (v d : Int) (hi : i < m.length) : (m.set i v).getD j d = if i = j then v else m.getD j d := by
  simp only [List.getD_eq_getElem?_getD, List.getElem?_set]
  by_cases h : i = j
  · subst h; simp [hi]
  · simp [h]
theorem getD_setB (m : List Bool) (i j : Nat) (v d : Bool) (hi : i < m.length) : (m.set i v).getD j d = if i = j then v else m.getD j d := by
  simp only [List.getD_eq_getElem?_getD, List.getElem?_set]
  by_cases h : i = j
  · subst h; simp [hi]
  · simp [h]
theorem count_set : ∀ (m : List Int) (i : Nat) (v x : Int), i < m.length → (m.set i v).count x + (if m.getD i 0 = x then 1 else 0) = m.count x + (if v = x then 1 else 0)
  | [], i, v, x, h => absurd h (by simp)
  | y :: m, 0, v, x, _ => by
    simp only [List.set_cons_zero, List.count_cons, List.getD_cons_zero, beq_iff_eq]
    omega
  | y :: m, i + 1, v, x, h => by
    have := count_set m i v x (by simpa using h)
    simp only [List.set_cons_succ, List.count_cons, List.getD_cons_succ]
    omega
def unmet (m : List Bool) : Nat := m.count false
theorem unmet_set : ∀ (m : List Bool) (i : Nat), m.getD i true = false → unmet (m.set i true) + 1 = unmet m
  | [], i, h => by simp at h
  | y :: m, 0, h => by
    simp only [List.getD_cons_zero] at h
    subst h
    simp [unmet]
  | y :: m, i + 1, h => by
    have := unmet_set m i (by simpa using h)
    unfold unmet at *
    simp only [List.set_cons_succ, List.count_cons]
    omega
def Shut (N : Nat → List Nat) (has : List Int) (D : Nat → Prop) : Prop := ∀ d, D d → ∀ r ∈ N d, ∃ d' : Nat, has.getD r (-1) = d' ∧ D d'
structure Found (N : Nat → List Nat) (has : List Int) (met : List Bool) (has' : List Int) (met' : List Bool) (l : Nat) : Prop where
  len : has'.length = has.length
  lenM : met'.length = met.length
  cnt : ∀ x : Nat, has'.count (x : Int) = has.count (x : Int) + (if x = l then 1 else 0)
  free : has'.count (-1) + 1 = has.count (-1)
  edge : ∀ r, r < has.length → has'.getD r (-1) = has.getD r (-1) ∨ ∃ d : Nat, has'.getD r (-1) = d ∧ r ∈ N d
  kept : ∀ r, met.getD r true = true → has'.getD r (-1) = has.getD r (-1)
  shut : ∀ D, Shut N has D → ¬ D l ∧ ∀ (r d : Nat), has.getD r (-1) = d → D d → has'.getD r (-1) = d
structure Failed (N : Nat → List Nat) (has : List Int) (ns : List Nat) (met met' : List Bool) : Prop where
  lenM : met'.length = met.length
  mono : ∀ r, met.getD r true = true → met'.getD r true = true
  kids : ∀ r ∈ ns, met'.getD r true = true
  shut : ∀ r, met'.getD r true = true → met.getD r true = false → ∃ d : Nat, has.getD r (-1) = d ∧ ∀ r' ∈ N d, met'.getD r' true = true
theorem Failed.nil (N : Nat → List Nat) (has : List Int) (met : List Bool) : Failed N has [] met met := ⟨rfl, fun _ h => h, by simp, fun r h1 h2 => by rw [h1] at h2; exact absurd h2 (by simp)⟩
theorem Failed.skip {N : Nat → List Nat} {has : List Int} {ns : List Nat} {met m1 : List Bool} (h : Failed N has ns met m1) {r : Nat} (hr : m1.getD r true = true) : Failed N has (ns ++ [r]) met m1 :=
  ⟨h.lenM, h.mono, fun x hx => by
    rcases List.mem_append.1 hx with hx | hx
    · exact h.kids x hx
    · simp only [List.mem_singleton] at hx; subst hx; exact hr, h.shut⟩
theorem Failed.free {N : Nat → List Nat} {has : List Int} {ns : List Nat} {met m1 : List Bool} {l : Nat} (h : Failed N has ns met m1) {r : Nat} (hr : m1.getD r true = false) (hl : m1.length = has.length) (he : r ∈ N l) (hf : has.getD r (-1) = -1) :
    Found N has met (has.set r (l : Int)) (m1.set r true) l := by
  have hrl : r < has.length := by
    rw [← hl]
    by_cases h1 : r < m1.length
    · exact h1
    · rw [getD_far (by omega)] at hr; exact absurd hr (by simp)
  have h0 : has.getD r 0 = -1 := by rw [getD_at hrl] at hf ⊢; exact hf
  refine ⟨List.length_set .., by rw [List.length_set]; exact h.lenM, fun x => ?_, ?_, fun q _ => ?_, fun q hq => ?_, fun D hD => ⟨fun hDl => ?_, fun q d hq _ => ?_⟩⟩
  · have := count_set has r (l : Int) (x : Int) hrl
    rw [h0, if_neg (show ¬ (-1 : Int) = (x : Int) by omega)] at this
    by_cases hx : x = l
    · subst hx; rw [if_pos rfl] at this ⊢; omega
    · rw [if_neg (show ¬ (l : Int) = (x : Int) by omega)] at this; rw [if_neg hx]; omega
  · have := count_set has r (l : Int) (-1) hrl
    rw [h0, if_pos rfl, if_neg (show ¬ (l : Int) = -1 by omega)] at this; omega
  · rw [getD_setI _ _ _ _ _ hrl]
    by_cases hq : r = q
    · subst hq; rw [if_pos rfl]; exact .inr ⟨l, rfl, he⟩
    · rw [if_neg hq]; exact .inl rfl
  · rw [getD_setI _ _ _ _ _ hrl, if_neg (fun e => by subst e; rw [h.mono _ hq] at hr; exact absurd hr (by simp))]
  · obtain ⟨d', h1, _⟩ := hD l hDl r he
    rw [hf] at h1; omega
  · rw [getD_setI _ _ _ _ _ hrl, if_neg (fun e => by subst e; rw [hf] at hq; omega)]; exact hq
theorem Failed.swap {N : Nat → List Nat} {has has1 : List Int} {ns : List Nat} {met m1 m2 : List Bool} {l d : Nat} (h : Failed N has ns met m1) {r : Nat} (hr : m1.getD r true = false) (hl : m1.length = has.length) (he : r ∈ N l) (hf : has.getD r (-1) = (d : Int))
    (h2 : Found N has (m1.set r true) has1 m2 d) : Found N has met (has1.set r (l : Int)) m2 l := by
  have hrl : r < has.length := by
    rw [← hl]
    by_cases h1 : r < m1.length
    · exact h1
    · rw [getD_far (by omega)] at hr; exact absurd hr (by simp)
  have hr1 : r < has1.length := by rw [h2.len]; exact hrl
  have hk : has1.getD r (-1) = (d : Int) := by rw [h2.kept r (by rw [getD_setB _ _ _ _ _ (by omega)]; simp), hf]
  have h0 : has1.getD r 0 = (d : Int) := by rw [getD_at hr1] at hk ⊢; exact hk
  refine ⟨by rw [List.length_set, h2.len], by rw [h2.lenM, List.length_set]; exact h.lenM, fun x => ?_, ?_, fun q hq => ?_, fun q hq => ?_, fun D hD => ⟨fun hDl => ?_, fun q e hq hDe => ?_⟩⟩
  · have h3 := count_set has1 r (l : Int) (x : Int) hr1
    have h4 := h2.cnt x
    rw [h0] at h3
    by_cases hx : x = l <;> by_cases hy : x = d
    · rw [if_pos (by omega), if_pos (by omega)] at h3; rw [if_pos hy] at h4; rw [if_pos hx]; omega
    · rw [if_neg (by omega), if_pos (by omega)] at h3; rw [if_neg hy] at h4; rw [if_pos hx]; omega
    · rw [if_pos (by omega), if_neg (by omega)] at h3; rw [if_pos hy] at h4; rw [if_neg hx]; omega
    · rw [if_neg (by omega), if_neg (by omega)] at h3; rw [if_neg hy] at h4; rw [if_neg hx]; omega
  · have h3 := count_set has1 r (l : Int) (-1) hr1
    rw [h0, if_neg (by omega), if_neg (by omega)] at h3
    have := h2.free; omega
  · rw [getD_setI _ _ _ _ _ hr1]
    by_cases hqr : r = q
    · subst hqr; rw [if_pos rfl]; exact .inr ⟨l, rfl, he⟩
    · rw [if_neg hqr]; exact h2.edge q hq
  · have hqr : r ≠ q := fun e => by subst e; rw [h.mono _ hq] at hr; exact absurd hr (by simp)
    rw [getD_setI _ _ _ _ _ hr1, if_neg hqr]
    exact h2.kept q (by rw [getD_setB _ _ _ _ _ (by omega), if_neg hqr]; exact h.mono q hq)
  · obtain ⟨d', h3, h4⟩ := hD l hDl r he
    rw [hf] at h3
    obtain rfl : d = d' := by omega
    exact (h2.shut D hD).1 h4
  · have hqr : r ≠ q := fun e' => by
      subst e'
      rw [hf] at hq
      obtain rfl : d = e := by omega
      exact (h2.shut D hD).1 hDe
    rw [getD_setI _ _ _ _ _ hr1, if_neg hqr]
    exact (h2.shut D hD).2 q e hq hDe
theorem Failed.more {N : Nat → List Nat} {has : List Int} {ns : List Nat} {met m1 m2 : List Bool} {d : Nat} (h : Failed N has ns met m1) {r : Nat} (hr : m1.getD r true = false) (hf : has.getD r (-1) = (d : Int))
    (h2 : Failed N has (N d) (m1.set r true) m2) : Failed N has (ns ++ [r]) met m2 := by
  have hrl : r < m1.length := by
    by_cases h1 : r < m1.length
    · exact h1
    · rw [getD_far (by omega)] at hr; exact absurd hr (by simp)
  have hm : ∀ q, m1.getD q true = true → m2.getD q true = true := fun q hq => h2.mono q (by rw [getD_setB _ _ _ _ _ hrl]; split; rfl; exact hq)
  have hrm : m2.getD r true = true := h2.mono r (by rw [getD_setB _ _ _ _ _ hrl]; simp)
  refine ⟨by rw [h2.lenM, List.length_set]; exact h.lenM, fun q hq => hm q (h.mono q hq), fun x hx => ?_, fun q hq hq0 => ?_⟩
  · rcases List.mem_append.1 hx with hx | hx
    · exact hm x (h.kids x hx)
    · simp only [List.mem_singleton] at hx; subst hx; exact hrm
  · by_cases h3 : m1.getD q true = true
    · obtain ⟨e, h4, h5⟩ := h.shut q h3 hq0
      exact ⟨e, h4, fun x hx => hm x (h5 x hx)⟩
    · by_cases hqr : r = q
      · subst hqr; exact ⟨d, hf, h2.kids⟩
      · exact h2.shut q hq (by rw [getD_setB _ _ _ _ _ hrl, if_neg hqr]; simpa using h3)
end Go.Proofs.YtoilcdgpeilgaaaGreat
namespace Go.Proofs.YtoilcdgpeilgaaaGreat
theorem Found.size {N : Nat → List Nat} {has : List Int} {met : List Bool} {has' : List Int} {met' : List Bool} {l : Nat} (h : Found N has met has' met' l) : has'.length = has.length := h.len
structure Asked (N : Nat → List Nat) (right : Nat) (A : Nat → Prop) (has : List Int) (no : List Nat) (D : Nat → Prop) : Prop where
  len : has.length = right
  edge : ∀ r, r < right → has.getD r (-1) = -1 ∨ ∃ d : Nat, has.getD r (-1) = d ∧ A d ∧ r ∈ N d
  cnt : ∀ x : Nat, A x → x ∉ no → has.count (x : Int) = 1
  cnt0 : ∀ x : Nat, (¬ A x ∨ x ∈ no) → has.count (x : Int) = 0
  nod : no.Nodup
  noA : ∀ x ∈ no, A x
  noD : ∀ x ∈ no, D x
  DA : ∀ x, D x → A x
  shut : Shut N has D
theorem getD_mem {m : List Int} {r : Nat} {x : Int} (h : m.getD r (-1) = x) (hx : x ≠ -1) : r < m.length ∧ x ∈ m := by
  by_cases hr : r < m.length
  · rw [getD_at hr] at h; exact ⟨hr, h ▸ List.getElem_mem hr⟩
  · rw [getD_far (by omega)] at h; exact absurd h.symm hx
theorem Asked.start (N : Nat → List Nat) (right : Nat) (A : Nat → Prop) (hA : ∀ x, ¬ A x) : Asked N right A (List.replicate right (-1)) [] (fun _ => False) where
  len := by simp
  edge := fun r hr => .inl (by rw [List.getD_eq_getElem?_getD, List.getElem?_replicate, if_pos hr]; rfl)
  cnt := fun x hx => absurd hx (hA x)
  cnt0 := fun x _ => List.count_eq_zero.2 (by simp [List.mem_replicate])
  nod := by simp
  noA := by simp
  noD := by simp
  DA := fun _ h => h.elim
  shut := fun _ h => h.elim
theorem Asked.ok {N : Nat → List Nat} {right : Nat} {A : Nat → Prop} {has : List Int} {no : List Nat} {D : Nat → Prop} (h : Asked N right A has no D) {met met' : List Bool} {has' : List Int} {l : Nat} (hl : ¬ A l) (f : Found N has met has' met' l) :
    Asked N right (fun x => A x ∨ x = l) has' no D where
  len := by rw [f.len, h.len]
  edge := fun r hr => by
    have hA : ∀ d : Nat, has'.getD r (-1) = (d : Int) → A d ∨ d = l := fun d hd => by
      have hm := (getD_mem hd (by omega)).2
      have hc : 0 < has'.count (d : Int) := List.count_pos_iff.2 hm
      rw [f.cnt d] at hc
      by_cases he : d = l
      · exact .inr he
      · rw [if_neg he] at hc
        refine .inl (Classical.byContradiction fun hn => ?_)
        rw [h.cnt0 d (.inl hn)] at hc; omega
    rcases f.edge r (by rw [h.len]; exact hr) with e | ⟨d, e, hd⟩
    · rcases h.edge r hr with e2 | ⟨d, e2, h1, h2⟩
      · exact .inl (e.trans e2)
      · exact .inr ⟨d, e.trans e2, .inl h1, h2⟩
    · exact .inr ⟨d, e, hA d e, hd⟩
  cnt := fun x hx hn => by
    rw [f.cnt x]
    by_cases he : x = l
    · subst he; rw [if_pos rfl, h.cnt0 x (.inl hl)]
    · rw [if_neg he, h.cnt x (hx.resolve_right he) hn]
  cnt0 := fun x hx => by
    rw [f.cnt x]
    have he : x ≠ l := fun e => by
      subst e
      rcases hx with hx | hx
      · exact hx (.inr rfl)
      · exact hl (h.noA x hx)
    rw [if_neg he, h.cnt0 x (hx.imp (fun hn ha => hn (.inl ha)) id)]
  nod := h.nod
  noA := fun x hx => .inl (h.noA x hx)
  noD := h.noD
  DA := fun x hx => .inl (h.DA x hx)
  shut := fun d hd r hr => by
    obtain ⟨d', h1, h2⟩ := h.shut d hd r hr
    exact ⟨d', (f.shut D h.shut).2 r d' h1 h2, h2⟩
theorem Asked.nobody {N : Nat → List Nat} {right : Nat} {A : Nat → Prop} {has : List Int} {no : List Nat} {D : Nat → Prop} (h : Asked N right A has no D) (hN : ∀ d r, r ∈ N d → r < right) {met' : List Bool} {l : Nat} (hl : ¬ A l) (f : Failed N has (N l) (List.replicate right false) met') :
    Asked N right (fun x => A x ∨ x = l) has (no ++ [l]) (fun x => D x ∨ x = l ∨ ∃ r, met'.getD r true = true ∧ r < right ∧ has.getD r (-1) = x) where
  len := h.len
  edge := fun r hr => (h.edge r hr).imp id (fun ⟨d, e, h1, h2⟩ => ⟨d, e, .inl h1, h2⟩)
  cnt := fun x hx hn => by
    simp only [List.mem_append, List.mem_singleton, not_or] at hn
    exact h.cnt x (hx.resolve_right hn.2) hn.1
  cnt0 := fun x hx => by
    rcases hx with hx | hx
    · exact h.cnt0 x (.inl fun ha => hx (.inl ha))
    · rcases List.mem_append.1 hx with hx | hx
      · exact h.cnt0 x (.inr hx)
      · simp only [List.mem_singleton] at hx; subst hx; exact h.cnt0 x (.inl hl)
  nod := by
    rw [List.nodup_append]
    refine ⟨h.nod, by simp, fun x hx y hy => ?_⟩
    simp only [List.mem_singleton] at hy
    rintro rfl; subst hy; exact hl (h.noA _ hx)
  noA := fun x hx => by
    rcases List.mem_append.1 hx with hx | hx
    · exact .inl (h.noA x hx)
    · simp only [List.mem_singleton] at hx; exact .inr hx
  noD := fun x hx => by
    rcases List.mem_append.1 hx with hx | hx
    · exact .inl (h.noD x hx)
    · simp only [List.mem_singleton] at hx; exact .inr (.inl hx)
  DA := fun x hx => by
    rcases hx with hx | hx | ⟨r, _, hr, he⟩
    · exact .inl (h.DA x hx)
    · exact .inr hx
    · rcases h.edge r hr with e | ⟨d, e, h1, _⟩
      · rw [e] at he; omega
      · rw [e] at he; obtain rfl : d = x := by omega
        exact .inl h1
  shut := fun d hd r hr => by
    have hmet : ∀ q, met'.getD q true = true → q < right → ∃ e : Nat, has.getD q (-1) = e ∧ ∀ r' ∈ N e, met'.getD r' true = true := fun q hq hqr => f.shut q hq (by rw [List.getD_eq_getElem?_getD, List.getElem?_replicate, if_pos hqr]; rfl)
    have out : ∀ q, met'.getD q true = true → q < right → ∃ d' : Nat, has.getD q (-1) = d' ∧ (D d' ∨ d' = l ∨ ∃ r, met'.getD r true = true ∧ r < right ∧ has.getD r (-1) = d') := fun q hq hqr => by
      obtain ⟨e, he, _⟩ := hmet q hq hqr
      exact ⟨e, he, .inr (.inr ⟨q, hq, hqr, he⟩)⟩
    rcases hd with hd | rfl | ⟨r0, h1, h2, h3⟩
    · obtain ⟨d', h1, h2⟩ := h.shut d hd r hr
      exact ⟨d', h1, .inl h2⟩
    · exact out r (f.kids r hr) (hN d r hr)
    · obtain ⟨e, he, hk⟩ := hmet r0 h1 h2
      rw [he] at h3
      obtain rfl : e = d := by omega
      exact out r (hk r hr) (hN e r hr)
structure IsM (N : Nat → List Nat) (M : List (Nat × Nat)) : Prop where
  edge : ∀ p ∈ M, p.2 ∈ N p.1
  lefts : (M.map (·.1)).Nodup
  rights : (M.map (·.2)).Nodup
theorem nodup_map_inj {α β : Type} {f : α → β} : ∀ {l : List α}, (l.map f).Nodup → ∀ x ∈ l, ∀ y ∈ l, f x = f y → x = y
  | [], _, x, hx, _, _, _ => absurd hx (by simp)
  | z :: l, h, x, hx, y, hy, he => by
    rw [List.map_cons, List.nodup_cons] at h
    rcases List.mem_cons.1 hx with hx1 | hx1 <;> rcases List.mem_cons.1 hy with hy1 | hy1
    · rw [hx1, hy1]
    · exact absurd (List.mem_map.2 ⟨y, hy1, by rw [← he, hx1]⟩) h.1
    · exact absurd (List.mem_map.2 ⟨x, hx1, by rw [he, hy1]⟩) h.1
    · exact nodup_map_inj h.2 x hx1 y hy1 he
theorem nodup_map_of {α β : Type} {f : α → β} : ∀ {l : List α}, l.Nodup → (∀ x ∈ l, ∀ y ∈ l, f x = f y → x = y) → (l.map f).Nodup
  | [], _, _ => by simp
  | z :: l, h, hf => by
    rw [List.nodup_cons] at h
    rw [List.map_cons, List.nodup_cons]
    refine ⟨fun hm => ?_, nodup_map_of h.2 fun x hx y hy => hf x (by simp [hx]) y (by simp [hy])⟩
    obtain ⟨y, hy, he⟩ := List.mem_map.1 hm
    have := hf y (by simp [hy]) z (by simp) he
    subst this; exact h.1 hy
theorem nodup_of_map {α β : Type} {f : α → β} : ∀ {l : List α}, (l.map f).Nodup → l.Nodup
  | [], _ => by simp
  | z :: l, h => by
    rw [List.map_cons, List.nodup_cons] at h
    rw [List.nodup_cons]
    exact ⟨fun hm => h.1 (List.mem_map.2 ⟨z, hm, rfl⟩), nodup_of_map h.2⟩
theorem count_one {m : List Int} {x : Int} (h : m.count x ≤ 1) {i j : Nat} (hi : m[i]? = some x) (hj : m[j]? = some x) : i = j := by
  refine Classical.byContradiction fun hne => ?_
  have key : ∀ (m : List Int) (i j : Nat), i < j → m[i]? = some x → m[j]? = some x → 2 ≤ m.count x := by
    intro m
    induction m with
    | nil => intro i j _ h; simp at h
    | cons y m ih =>
      intro i j hij h1 h2
      rcases i with _ | i
      · simp at h1; subst h1
        rcases j with _ | j
        · omega
        · simp at h2
          have := List.count_pos_iff.2 (List.mem_of_getElem? h2)
          rw [List.count_cons, if_pos (by simp)]; omega
      · rcases j with _ | j
        · omega
        · simp at h1 h2
          have := ih i j (by omega) h1 h2
          rw [List.count_cons]; omega
  rcases Nat.lt_or_ge i j with hl | hl
  · have := key m i j hl hi hj; omega
  · have := key m j i (by omega) hj hi; omega
theorem Asked.most {N : Nat → List Nat} {left right : Nat} {has : List Int} {no : List Nat} {D : Nat → Prop} (h : Asked N right (fun x => x < left) has no D) (hN : ∀ d r, r ∈ N d → d < left ∧ r < right) {M : List (Nat × Nat)} (hM : IsM N M) : M.length + no.length ≤ left := by
  classical
  let F : Nat × Nat → Nat := fun p => if D p.1 then (has.getD p.2 (-1)).toNat else p.1
  have hD : ∀ p ∈ M, D p.1 → ∃ d' : Nat, has.getD p.2 (-1) = d' ∧ D d' ∧ d' ∉ no := fun p hp hd => by
    obtain ⟨d', h1, h2⟩ := h.shut p.1 hd p.2 (hM.edge p hp)
    refine ⟨d', h1, h2, fun hn => ?_⟩
    have h3 := h.cnt0 d' (.inr hn)
    have h4 := List.count_pos_iff.2 (getD_mem h1 (by omega)).2
    omega
  have hF1 : ∀ p ∈ M, F p < left ∧ F p ∉ no := fun p hp => by
    by_cases hd : D p.1
    · obtain ⟨d', h1, h2, h3⟩ := hD p hp hd
      have : F p = d' := by show (if _ then _ else _) = _; rw [if_pos hd, h1]; rfl
      rw [this]; exact ⟨h.DA d' h2, h3⟩
    · have : F p = p.1 := if_neg hd
      rw [this]; exact ⟨(hN _ _ (hM.edge p hp)).1, fun hn => hd (h.noD _ hn)⟩
  have hMn : M.Nodup := nodup_of_map hM.lefts
  have hF2 : (M.map F).Nodup := nodup_map_of hMn fun p hp q hq he => by
    by_cases hd : D p.1 <;> by_cases hd2 : D q.1
    · obtain ⟨d1, h1, h2, _⟩ := hD p hp hd
      obtain ⟨d2, h3, h4, _⟩ := hD q hq hd2
      have e1 : F p = d1 := by show (if _ then _ else _) = _; rw [if_pos hd, h1]; rfl
      have e2 : F q = d2 := by show (if _ then _ else _) = _; rw [if_pos hd2, h3]; rfl
      obtain rfl : d1 = d2 := by rw [← e1, ← e2]; exact he
      have g1 := (getD_mem h1 (by omega)).1
      have g2 := (getD_mem h3 (by omega)).1
      rw [getD_at g1] at h1
      rw [getD_at g2] at h3
      have hc : has.count (d1 : Int) ≤ 1 := by
        by_cases hn : d1 ∈ no
        · rw [h.cnt0 d1 (.inr hn)]; omega
        · rw [h.cnt d1 (h.DA d1 h2) hn]; omega
      have hr : p.2 = q.2 := count_one hc (List.getElem?_eq_some_iff.2 ⟨g1, h1⟩) (List.getElem?_eq_some_iff.2 ⟨g2, h3⟩)
      exact nodup_map_inj hM.rights p hp q hq hr
    · obtain ⟨d1, h1, h2, _⟩ := hD p hp hd
      have e1 : F p = d1 := by show (if _ then _ else _) = _; rw [if_pos hd, h1]; rfl
      have e2 : F q = q.1 := if_neg hd2
      exact absurd (by rw [← e2, ← he, e1]; exact h2) hd2
    · obtain ⟨d2, h3, h4, _⟩ := hD q hq hd2
      have e1 : F p = p.1 := if_neg hd
      have e2 : F q = d2 := by show (if _ then _ else _) = _; rw [if_pos hd2, h3]; rfl
      exact absurd (by rw [← e1, he, e2]; exact h4) hd
    · have e1 : F p = p.1 := if_neg hd
      have e2 : F q = q.1 := if_neg hd2
      exact nodup_map_inj hM.lefts p hp q hq (by rw [← e1, ← e2]; exact he)
  have hall := len_sub (M.map F ++ no) (List.range left) (by
    rw [List.nodup_append]
    refine ⟨hF2, h.nod, fun x hx y hy => ?_⟩
    obtain ⟨p, hp, rfl⟩ := List.mem_map.1 hx
    rintro rfl
    exact (hF1 p hp).2 hy) (fun x hx => List.mem_range.2 (by
    rcases List.mem_append.1 hx with hx | hx
    · obtain ⟨p, hp, rfl⟩ := List.mem_map.1 hx; exact (hF1 p hp).1
    · exact h.noA x hx))
  rw [List.length_append, List.length_map, List.length_range] at hall
  exact hall
def mOf (has : List Int) : List (Nat × Nat) := (List.range has.length).filterMap (fun r => if has.getD r (-1) < 0 then none else some ((has.getD r (-1)).toNat, r))
theorem mOf_mem {has : List Int} {p : Nat × Nat} : p ∈ mOf has ↔ p.2 < has.length ∧ has.getD p.2 (-1) = (p.1 : Int) := by
  unfold mOf
  rw [List.mem_filterMap]
  constructor
  · rintro ⟨r, hr, h⟩
    by_cases h0 : has.getD r (-1) < 0
    · rw [if_pos h0] at h; cases h
    · rw [if_neg h0] at h
      injection h with h
      subst h
      exact ⟨List.mem_range.1 hr, by simp only; omega⟩
  · rintro ⟨h1, h2⟩
    refine ⟨p.2, List.mem_range.2 h1, ?_⟩
    rw [if_neg (by omega), h2]; rfl
theorem filterMap_snd (f : Nat → Option (Nat × Nat)) (hf : ∀ r p, f r = some p → p.2 = r) : ∀ l : List Nat, l.Nodup → ((l.filterMap f).map (·.2)).Nodup
  | [], _ => by simp
  | r :: l, h => by
    rw [List.nodup_cons] at h
    have ih := filterMap_snd f hf l h.2
    rw [List.filterMap_cons]
    cases hr : f r with
    | none => exact ih
    | some p =>
      rw [List.map_cons, List.nodup_cons]
      refine ⟨fun hm => ?_, ih⟩
      obtain ⟨p', hp', he⟩ := List.mem_map.1 hm
      obtain ⟨r', hr', hf'⟩ := List.mem_filterMap.1 hp'
      have e1 := hf r p hr
      have e2 := hf r' p' hf'
      have : r' = r := by rw [← e1, ← e2]; exact he
      subst this; exact h.1 hr'
theorem mOf_nodup (has : List Int) : (mOf has).Nodup := by
  refine nodup_of_map (f := (·.2)) (filterMap_snd _ (fun r p h => ?_) _ List.nodup_range)
  by_cases h0 : has.getD r (-1) < 0
  · rw [if_pos h0] at h; cases h
  · rw [if_neg h0] at h; injection h with h; subst h; rfl
theorem Asked.isM {N : Nat → List Nat} {A : Nat → Prop} {right : Nat} {has : List Int} {no : List Nat} {D : Nat → Prop} (h : Asked N right A has no D) : IsM N (mOf has) where
  edge := fun p hp => by
    obtain ⟨h1, h2⟩ := mOf_mem.1 hp
    rcases h.edge p.2 (by rw [← h.len]; exact h1) with e | ⟨d, e, _, hd⟩
    · rw [e] at h2; omega
    · rw [e] at h2; obtain rfl : d = p.1 := by omega
      exact hd
  lefts := nodup_map_of (mOf_nodup has) fun p hp q hq he => by
    obtain ⟨h1, h2⟩ := mOf_mem.1 hp
    obtain ⟨h3, h4⟩ := mOf_mem.1 hq
    have hc : has.count (p.1 : Int) ≤ 1 := by
      by_cases hn : p.1 ∈ no
      · rw [h.cnt0 _ (.inr hn)]; omega
      · by_cases ha : A p.1
        · rw [h.cnt _ ha hn]; omega
        · rw [h.cnt0 _ (.inl ha)]; omega
    have he' : p.1 = q.1 := he
    rw [getD_at h1] at h2
    rw [getD_at h3, ← he'] at h4
    have hr : p.2 = q.2 := count_one hc (List.getElem?_eq_some_iff.2 ⟨h1, h2⟩) (List.getElem?_eq_some_iff.2 ⟨h3, h4⟩)
    exact Prod.ext he' hr
  rights := by
    refine filterMap_snd _ (fun r p h => ?_) _ List.nodup_range
    by_cases h0 : has.getD r (-1) < 0
    · rw [if_pos h0] at h; cases h
    · rw [if_neg h0] at h; injection h with h; subst h; rfl
theorem Asked.best {N : Nat → List Nat} {left right : Nat} {has : List Int} {no : List Nat} {D : Nat → Prop} (h : Asked N right (fun x => x < left) has no D) (hN : ∀ d r, r ∈ N d → d < left ∧ r < right) : (mOf has).length + no.length = left := by
  have h1 := h.most hN h.isM
  have h2 := len_sub (List.range left) ((mOf has).map (·.1) ++ no) List.nodup_range (fun x hx => by
    have hxl := List.mem_range.1 hx
    by_cases hn : x ∈ no
    · exact List.mem_append_right _ hn
    · have hc := h.cnt x hxl hn
      obtain ⟨r, hr, he⟩ := List.getElem_of_mem (List.count_pos_iff.1 (show 0 < has.count (x : Int) by omega))
      exact List.mem_append_left _ (List.mem_map.2 ⟨(x, r), mOf_mem.2 ⟨hr, by rw [getD_at hr]; exact he⟩, rfl⟩))
  rw [List.length_range, List.length_append, List.length_map] at h2
  omega
theorem Asked.same {N : Nat → List Nat} {left right : Nat} {has has2 : List Int} {no no2 : List Nat} {D D2 : Nat → Prop} (h : Asked N right (fun x => x < left) has no D) (h2 : Asked N right (fun x => x < left) has2 no2 D2) (hN : ∀ d r, r ∈ N d → d < left ∧ r < right) : no.length = no2.length := by
  have a1 := h.most hN h2.isM
  have a2 := h2.most hN h.isM
  have b1 := h.best hN
  have b2 := h2.best hN
  omega
end Go.Proofs.YtoilcdgpeilgaaaGreat
namespace Go.Proofs.YtoilcdgpeilgaaaGreat
open Go.RowKit Go.Shelf
theorem getDM {α : Type} {l : List α} {k : Nat} {x d : α} (h : l[k]? = some x) : l.getD k d = x := by rw [List.getD_eq_getElem?_getD, h]; rfl
theorem unmet_mono : ∀ (a b : List Bool), b.length = a.length → (∀ r, a.getD r true = true → b.getD r true = true) → unmet b ≤ unmet a
  | [], [], _, _ => Nat.le_refl _
  | [], _ :: _, h, _ => by simp at h
  | _ :: _, [], h, _ => by simp at h
  | x :: a, y :: b, h, hm => by
    have ih := unmet_mono a b (by simpa using h) (fun r hr => by simpa using hm (r + 1) (by simpa using hr))
    have h0 := hm 0
    simp only [List.getD_cons_zero] at h0
    unfold unmet at *
    rw [List.count_cons, List.count_cons]
    cases x <;> cases y <;> simp_all <;> omega
def RowB (w : World) (g : Nat) (m : List Bool) : Prop := Blk w g (m.map Value.bool).toArray 4
theorem RowB.cell {w : World} {g : Nat} {m : List Bool} (h : RowB w g m) {i : Nat} (hi : i < m.length) : w.cell? ⟨g, i, none⟩ = some (.bool (m.getD i true)) := by
  refine Blk.cell h ?_
  rw [List.getElem?_toArray, List.getElem?_map, List.getElem?_eq_getElem hi, List.getD_eq_getElem?_getD, List.getElem?_eq_getElem hi]; rfl
theorem RowB.set {w : World} {g : Nat} {m : List Bool} (h : RowB w g m) (i : Nat) (v : Bool) : RowB (w.setCell ⟨g, i, none⟩ (.bool v)) g (m.set i v) := by
  have := Blk.set (j := i) h (.bool v)
  unfold RowB
  rw [List.map_set]
  simpa using this
theorem RowB.other {w : World} {g : Nat} {m : List Bool} (h : RowB w g m) {p : Addr} (hp : p.block ≠ g) (u : Value) : RowB (w.setCell p u) g m := Blk.other h hp u
theorem RowI.cell' {w : World} {g : Nat} {m : List Int} {t : TypeId} (h : RowI w g m t) {i : Nat} (hi : i < m.length) : w.cell? ⟨g, i, none⟩ = some (.int .i64 (m.getD i (-1))) := by
  rw [h.cell hi, getD_at hi, getD_at hi]
def rgts (rows : List (List Int)) (d : Nat) : List Nat := (rows.getD d []).map Int.toNat
structure MtAt (w : World) (P G M : Nat) (A : Option Addr) (n cap : Nat) (R : Nat) (rows : List (List Int)) (has : List Int) (met : List Bool) : Prop where
  sl : Sl (slC intC 1) 1 w (fun b => b ≠ G ∧ b ≠ M) A n cap rows
  st : Blk w P #[.slice A n cap, .slice (some ⟨G, 0, none⟩) R R, .slice (some ⟨M, 0, none⟩) R R] 299
  row : RowI w G has 3
  mt : RowB w M met
  lh : has.length = R
  lm : met.length = R
theorem ints_good : Good (slC intC 1) := slC_good intC_good (by omega)
theorem MtAt.setM {w : World} {P G M : Nat} {A : Option Addr} {n cap R : Nat} {rows : List (List Int)} {has : List Int} {met : List Bool} (h : MtAt w P G M A n cap R rows has met) (hGM : G ≠ M) (hPM : P ≠ M) (i : Nat) (v : Bool) :
    MtAt (w.setCell ⟨M, i, none⟩ (.bool v)) P G M A n cap R rows has (met.set i v) :=
  ⟨h.sl.keep ints_good (by omega) fun b hb _ => ⟨Below.heap_setCell _ _ _ _ hb.2, hb⟩, h.st.other (fun e => hPM e.symm) _, h.row.other (fun e => hGM e.symm) _, h.mt.set _ _, h.lh, by rw [List.length_set]; exact h.lm⟩
theorem MtAt.setG {w : World} {P G M : Nat} {A : Option Addr} {n cap R : Nat} {rows : List (List Int)} {has : List Int} {met : List Bool} (h : MtAt w P G M A n cap R rows has met) (hGM : G ≠ M) (hPG : P ≠ G) (i : Nat) (v : Int) :
    MtAt (w.setCell ⟨G, i, none⟩ (.int .i64 v)) P G M A n cap R rows (has.set i v) met :=
  ⟨h.sl.keep ints_good (by omega) fun b hb _ => ⟨Below.heap_setCell _ _ _ _ hb.1, hb⟩, h.st.other (fun e => hPG e.symm) _, h.row.set _ _, h.mt.other hGM _, by rw [List.length_set]; exact h.lh, h.lm⟩
set_option maxRecDepth 100000 in
set_option maxHeartbeats 4000000 in
theorem find_any (P G M : Nat) (A : Option Addr) (n cap R : Nat) (rows : List (List Int)) (hGM : G ≠ M) (hPG : P ≠ G) (hPM : P ≠ M) (hrow : ∀ c ∈ rows, ∀ r ∈ c, 0 ≤ r ∧ r < R) :
    ∀ (z : Nat) (has : List Int) (met : List Bool) (l : Nat) (w : World), MtAt w P G M A n cap R rows has met → l < n → unmet met ≤ z → (∀ r, r < R → has.getD r (-1) = -1 ∨ ∃ d : Nat, has.getD r (-1) = d ∧ d < n) → n ≤ 1000 →
    Calls Tryz.prog 260 #[.pointer (some ⟨P, 0, none⟩), .int .i64 (l : Int)] w fun e w' => ∃ (b : Bool) (has' : List Int) (met' : List Bool), e = .returned (.bool b) ∧ MtAt w' P G M A n cap R rows has' met' ∧ Kept (fun k => k = G ∨ k = M) w w' ∧
      (b = true → Found (rgts rows) has met has' met' l) ∧ (b = false → has' = has ∧ Failed (rgts rows) has (rgts rows l) met met') := by
  intro z
  induction z using Nat.strongRecOn with
  | _ z ih =>
    intro has met l w hA hl hz hhas hn
    obtain ⟨b, off, row, c0, rfl, hx, ⟨A2, n2, cap2, hcs, hs2⟩, g0⟩ := hA.sl.at1 hl
    simp only [List.cons.injEq, and_true] at hcs
    obtain rfl := hcs
    have p0 := hA.st.cell (j := 0) rfl
    have hrl : rgts rows l = row.map Int.toNat := by unfold rgts; rw [getDM hx]
    have HRW := Lib.hid (hrow row (List.mem_of_getElem? hx))
    have HA0 := Lib.hid hA
    have HLR := Lib.hid hrl
    have HS2 := Lib.hid hs2
    have hbd2 := hs2.bd
    have HLN := Lib.hid hs2.len
    have IH := Lib.hid ih
    clear ih
    have HZ := Lib.hid hz
    clear hz
    have HHAS := Lib.hid hhas
    clear hhas
    have HHR := Lib.hid hrow
    clear hA hx hrl hs2
    go_enter Tryz.func260, Tryz.ntmps260
    go_wp2_with fail
    go_loopg [15] n2 (fun gk iv wr => ∃ (k : Nat) (m1 : List Bool), k ≤ n2 ∧ n2 - k ≤ gk ∧ iv = .int .i64 k ∧ Failed (rgts rows) has ((rgts rows l).take k) met m1 ∧ MtAt wr P G M (some ⟨b, off, none⟩) n cap R rows has m1 ∧ Kept (fun k => k = G ∨ k = M) w wr)
    case atStart => exact ⟨0, met, Nat.zero_le _, by omega, rfl, by rw [List.take_zero]; exact Failed.nil _ _ _, HA0.out, Kept.refl _ _⟩
    case round =>
      obtain ⟨k, m1, hk, hgk, rfl, hF, hA1, hK⟩ := hrel
      have HF := Lib.hid hF
      have HA1 := Lib.hid hA1
      have HK := Lib.hid hK
      clear hF hA1 hK
      by_cases hlt : k < n2
      · obtain ⟨b2, off2, y, d0, rfl, hy, ⟨hd, _⟩, e0⟩ := (HS2.out.keep (w' := wr) (S' := All) intC_good (by omega) (fun q hq hql => ⟨HK.out.block q hql (by rintro (h | h); exact hq.1 h; exact hq.2 h), trivial⟩)).at1 hlt
        simp only [List.cons.injEq, and_true] at hd
        obtain rfl := hd
        obtain ⟨y0, y1⟩ := HRW.out y (List.mem_of_getElem? hy)
        obtain ⟨r, rfl⟩ := Int.eq_ofNat_of_zero_le y0
        have hrR : r < R := by omega
        have hrk : (rgts rows l)[k]? = some r := by rw [HLR.out, List.getElem?_map, hy]; rfl
        have HT := Lib.hid (take_snoc hrk)
        have HIN := Lib.hid (List.mem_of_getElem? hrk)
        have q1 : wr.cell? ⟨P, 1, none⟩ = some (.slice (some ⟨G, 0, none⟩) R R) := HA1.out.st.cell rfl
        have q2 : wr.cell? ⟨P, 2, none⟩ = some (.slice (some ⟨M, 0, none⟩) R R) := HA1.out.st.cell rfl
        have r0 := HA1.out.mt.cell (i := r) (by rw [HA1.out.lm]; exact hrR)
        have f0 := HA1.out.mt.free r
        obtain ⟨v, hv⟩ : ∃ v, v = m1.getD r true := ⟨_, rfl⟩
        rw [← hv] at r0
        have HV := Lib.hid hv
        clear hy hrk hv y0
        cases v
        · -- he is new
          have hrm : r < m1.length := by rw [HA1.out.lm]; exact hrR
          have hA2 := Lib.hid (HA1.out.setM hGM hPM r true)
          have hK2 := Lib.hid (HK.out.setCell (p := ⟨M, r, none⟩) (.inl (.inr rfl)) (.bool true))
          obtain ⟨W2, hW2⟩ : ∃ W2, W2 = wr.setCell ⟨M, r, none⟩ (.bool true) := ⟨_, rfl⟩
          go_upto_region 6 with (fail)
          rw [← hW2] at hA2 hK2 ⊢
          clear hW2 q1 q2 r0 f0 e0
          have q1 : W2.cell? ⟨P, 1, none⟩ = some (.slice (some ⟨G, 0, none⟩) R R) := hA2.out.st.cell rfl
          have r0 := hA2.out.row.cell' (i := r) (by rw [hA2.out.lh]; exact hrR)
          have f0 := hA2.out.row.free r
          rcases HHAS.out r hrR with hh | ⟨d, hh, hdn⟩
          · rw [hh] at r0
            have HN := Lib.hid (HF.out.free HV.out.symm (by rw [HA1.out.lm, HA1.out.lh]) HIN.out hh)
            have HA3 := Lib.hid (hA2.out.setG hGM hPG r (l : Int))
            have HK3 := Lib.hid (hK2.out.setCell (p := ⟨G, r, none⟩) (.inl (.inl rfl)) (.int .i64 (l : Int)))
            clear hh
            go_wp2_with fail
            go_ret
            exact ⟨true, _, _, rfl, HA3.out, HK3.out, fun _ => HN.out, fun h => absurd h (by simp)⟩
          · rw [hh] at r0
            have hun := unmet_set m1 r HV.out.symm
            have hum : unmet m1 ≤ unmet met := unmet_mono met m1 HF.out.lenM HF.out.mono
            have hcall := IH.out (unmet (m1.set r true)) (by have := HZ.out; omega) has (m1.set r true) d W2 hA2.out hdn (Nat.le_refl _) HHAS.out hn
            have HH := Lib.hid hh
            have HCALL := Lib.hid hcall
            clear hcall
            clear hh hun hum
            go_wp2_with fail
            refine HCALL.out.mono ?_
            rintro e w5 ⟨bb, has1, m2, rfl, hA5, hK5, hT5, hF5⟩
            have HK6 := Lib.hid (hK2.out.trans (hK5.mono fun k _ h => h))
            cases bb
            · obtain ⟨rfl, h6⟩ := hF5 rfl
              have HN := Lib.hid (HF.out.more HV.out.symm HH.out h6)
              have HA6 := Lib.hid hA5
              clear hA5 hK5 hT5 hF5 h6
              go_wp2_with fail
              go_roundg (n2 - (k + 1))
              case measure => omega
              case rel => exact ⟨k + 1, m2, by omega, by omega, by go_num, by rw [HT.out]; exact HN.out, HA6.out, HK6.out⟩
            · have HN := Lib.hid (HF.out.swap HV.out.symm (by rw [HA1.out.lm, HA1.out.lh]) HIN.out HH.out (hT5 rfl))
              have q1' : w5.cell? ⟨P, 1, none⟩ = some (.slice (some ⟨G, 0, none⟩) R R) := hA5.st.cell rfl
              have r0' := hA5.row.cell' (i := r) (by rw [hA5.lh]; exact hrR)
              have f0' := hA5.row.free r
              have HA6 := Lib.hid (hA5.setG hGM hPG r (l : Int))
              have HK7 := Lib.hid (HK6.out.setCell (p := ⟨G, r, none⟩) (.inl (.inl rfl)) (.int .i64 (l : Int)))
              clear hA5 hK5 hT5 hF5
              go_wp2_with fail
              go_ret
              exact ⟨true, _, _, rfl, HA6.out, HK7.out, fun _ => HN.out, fun h => absurd h (by simp)⟩
        · have HN := Lib.hid (HF.out.skip HV.out.symm)
          go_wp2_with fail
          go_roundg (n2 - (k + 1))
          case measure => omega
          case rel => exact ⟨k + 1, m1, by omega, by omega, by go_num, by rw [HT.out]; exact HN.out, HA1.out, HK.out⟩
      · obtain rfl : k = n2 := by omega
        have HT := Lib.hid (show (rgts rows l).take k = rgts rows l from List.take_of_length_le (by rw [HLR.out, List.length_map, HLN.out]; omega))
        go_wp2_with fail
        go_ret
        refine ⟨false, has, m1, rfl, HA1.out, HK.out, fun h => absurd h (by simp), fun _ => ⟨rfl, ?_⟩⟩
        have := HF.out
        rwa [HT.out] at this
end Go.Proofs.YtoilcdgpeilgaaaGreat
namespace Go.Proofs.YtoilcdgpeilgaaaGreat
open Go.RowKit Go.Shelf
structure Edg where
  lft : Int
  rgt : Int
  deriving DecidableEq, Inhabited
def edgC : Cod Edg := fun _ _ x cs => cs = [.int .i64 x.lft, .int .i64 x.rgt] ∧ InI x.lft ∧ InI x.rgt
theorem edgC_flat : Flat edgC := fun _ _ _ _ _ _ h => h
theorem edgC_good : Good edgC := .of_flat edgC_flat fun h u hu => by obtain ⟨rfl, _⟩ := h; simp at hu; rcases hu with rfl | rfl <;> rfl
instance edgK : CodK edgC 2 := ⟨edgC_good, by omega⟩
def nbrs (l : List Edg) (d : Nat) : List Nat := (l.filter (fun x => decide (x.lft = (d : Int)))).map (fun x => x.rgt.toNat)
theorem nbrs_mem {l : List Edg} {x : Edg} {d r : Nat} (hx : x ∈ l) (hl : x.lft = (d : Int)) (hr : x.rgt = (r : Int)) : r ∈ nbrs l d := by
  unfold nbrs
  exact List.mem_map.2 ⟨x, List.mem_filter.2 ⟨hx, decide_eq_true hl⟩, by rw [hr]; rfl⟩
def CelI (w : World) (g : Nat) (m : List Int) : Prop := ∀ i, i < m.length → w.cell? ⟨g, i, none⟩ = some (.int .i64 (m.getD i (-1))) ∧ w.frozen? ⟨g, i, none⟩ = false
theorem CelI.set {w : World} {g : Nat} {m : List Int} (h : CelI w g m) {i : Nat} (hi : i < m.length) (v : Int) : CelI (w.setCell ⟨g, i, none⟩ (.int .i64 v)) g (m.set i v) := fun j hj => by
  rw [List.length_set] at hj
  rw [getD_setI _ _ _ _ _ hi]
  refine ⟨?_, by rw [World.frozen?_setCell]; exact (h j hj).2⟩
  by_cases he : i = j
  · subst he
    rw [if_pos rfl]
    exact World.cell?_setCell_same' w _ _ (by rw [(h i hi).1]; rfl)
  · rw [if_neg he]
    exact (World.cell?_setCell_other w ⟨g, i, none⟩ ⟨g, j, none⟩ _ (fun e => he (by injection e))).trans (h j hj).1
theorem CelI.kept {w w' : World} {g : Nat} {m : List Int} (h : CelI w g m) (hb : w'.heap[g]? = w.heap[g]?) : CelI w' g m := fun j hj =>
  ⟨(World.cell?_of_block (a := ⟨g, j, none⟩) hb).trans (h j hj).1, (World.frozen?_of_block (a := ⟨g, j, none⟩) hb).trans (h j hj).2⟩
structure GrAt (w : World) (G M : Nat) (A : Option Addr) (n cap : Nat) (R : Nat) (l : List Edg) (has : List Int) (met : List Bool) : Prop where
  sl : Sl edgC 2 w (fun b => b ≠ G ∧ b ≠ M) A n cap l
  row : CelI w G has
  mt : RowB w M met
  lh : has.length = R
  lm : met.length = R
theorem GrAt.setM {w : World} {G M : Nat} {A : Option Addr} {n cap R : Nat} {l : List Edg} {has : List Int} {met : List Bool} (h : GrAt w G M A n cap R l has met) (hGM : G ≠ M) (i : Nat) (v : Bool) :
    GrAt (w.setCell ⟨M, i, none⟩ (.bool v)) G M A n cap R l has (met.set i v) :=
  ⟨h.sl.keep edgC_good (by omega) fun b hb _ => ⟨Below.heap_setCell _ _ _ _ hb.2, hb⟩, h.row.kept (Below.heap_setCell _ _ _ _ hGM), h.mt.set _ _, h.lh, by rw [List.length_set]; exact h.lm⟩
theorem GrAt.setG {w : World} {G M : Nat} {A : Option Addr} {n cap R : Nat} {l : List Edg} {has : List Int} {met : List Bool} (h : GrAt w G M A n cap R l has met) (hGM : G ≠ M) {i : Nat} (hi : i < R) (v : Int) :
    GrAt (w.setCell ⟨G, i, none⟩ (.int .i64 v)) G M A n cap R l (has.set i v) met :=
  ⟨h.sl.keep edgC_good (by omega) fun b hb _ => ⟨Below.heap_setCell _ _ _ _ hb.1, hb⟩, h.row.set (by rw [h.lh]; exact hi) v, h.mt.other hGM _, by rw [List.length_set]; exact h.lh, h.lm⟩
end Go.Proofs.YtoilcdgpeilgaaaGreat
namespace Go.Proofs.YtoilcdgpeilgaaaGreat
open Go.RowKit Go.Shelf
theorem mkB0 (W : World) : (Instr.makeSlice 235 (.int .i64 0) (.int .i64 0)).run Tryz.prog W = .ok (.slice (some ⟨W.heap.size, 0, none⟩) 0 0) (W.alloc (.cells (Array.replicate 0 (Value.bool false)) 4)) := by kernel_rfl
theorem mkB1 (W : World) : (Instr.makeSlice 235 (.int .i64 1) (.int .i64 1)).run Tryz.prog W = .ok (.slice (some ⟨W.heap.size, 0, none⟩) 1 1) (W.alloc (.cells (Array.replicate 1 (Value.bool false)) 4)) := by kernel_rfl
theorem mkB2 (W : World) : (Instr.makeSlice 235 (.int .i64 2) (.int .i64 2)).run Tryz.prog W = .ok (.slice (some ⟨W.heap.size, 0, none⟩) 2 2) (W.alloc (.cells (Array.replicate 2 (Value.bool false)) 4)) := by kernel_rfl
theorem mkB3 (W : World) : (Instr.makeSlice 235 (.int .i64 3) (.int .i64 3)).run Tryz.prog W = .ok (.slice (some ⟨W.heap.size, 0, none⟩) 3 3) (W.alloc (.cells (Array.replicate 3 (Value.bool false)) 4)) := by kernel_rfl
theorem mkB4 (W : World) : (Instr.makeSlice 235 (.int .i64 4) (.int .i64 4)).run Tryz.prog W = .ok (.slice (some ⟨W.heap.size, 0, none⟩) 4 4) (W.alloc (.cells (Array.replicate 4 (Value.bool false)) 4)) := by kernel_rfl
theorem mkB5 (W : World) : (Instr.makeSlice 235 (.int .i64 5) (.int .i64 5)).run Tryz.prog W = .ok (.slice (some ⟨W.heap.size, 0, none⟩) 5 5) (W.alloc (.cells (Array.replicate 5 (Value.bool false)) 4)) := by kernel_rfl
theorem mkB6 (W : World) : (Instr.makeSlice 235 (.int .i64 6) (.int .i64 6)).run Tryz.prog W = .ok (.slice (some ⟨W.heap.size, 0, none⟩) 6 6) (W.alloc (.cells (Array.replicate 6 (Value.bool false)) 4)) := by kernel_rfl
theorem mkB7 (W : World) : (Instr.makeSlice 235 (.int .i64 7) (.int .i64 7)).run Tryz.prog W = .ok (.slice (some ⟨W.heap.size, 0, none⟩) 7 7) (W.alloc (.cells (Array.replicate 7 (Value.bool false)) 4)) := by kernel_rfl
theorem mkB8 (W : World) : (Instr.makeSlice 235 (.int .i64 8) (.int .i64 8)).run Tryz.prog W = .ok (.slice (some ⟨W.heap.size, 0, none⟩) 8 8) (W.alloc (.cells (Array.replicate 8 (Value.bool false)) 4)) := by kernel_rfl
theorem mkB9 (W : World) : (Instr.makeSlice 235 (.int .i64 9) (.int .i64 9)).run Tryz.prog W = .ok (.slice (some ⟨W.heap.size, 0, none⟩) 9 9) (W.alloc (.cells (Array.replicate 9 (Value.bool false)) 4)) := by kernel_rfl
theorem mkB10 (W : World) : (Instr.makeSlice 235 (.int .i64 10) (.int .i64 10)).run Tryz.prog W = .ok (.slice (some ⟨W.heap.size, 0, none⟩) 10 10) (W.alloc (.cells (Array.replicate 10 (Value.bool false)) 4)) := by kernel_rfl
theorem mkB11 (W : World) : (Instr.makeSlice 235 (.int .i64 11) (.int .i64 11)).run Tryz.prog W = .ok (.slice (some ⟨W.heap.size, 0, none⟩) 11 11) (W.alloc (.cells (Array.replicate 11 (Value.bool false)) 4)) := by kernel_rfl
theorem mkB12 (W : World) : (Instr.makeSlice 235 (.int .i64 12) (.int .i64 12)).run Tryz.prog W = .ok (.slice (some ⟨W.heap.size, 0, none⟩) 12 12) (W.alloc (.cells (Array.replicate 12 (Value.bool false)) 4)) := by kernel_rfl
theorem mkB13 (W : World) : (Instr.makeSlice 235 (.int .i64 13) (.int .i64 13)).run Tryz.prog W = .ok (.slice (some ⟨W.heap.size, 0, none⟩) 13 13) (W.alloc (.cells (Array.replicate 13 (Value.bool false)) 4)) := by kernel_rfl
theorem mkB14 (W : World) : (Instr.makeSlice 235 (.int .i64 14) (.int .i64 14)).run Tryz.prog W = .ok (.slice (some ⟨W.heap.size, 0, none⟩) 14 14) (W.alloc (.cells (Array.replicate 14 (Value.bool false)) 4)) := by kernel_rfl
theorem mkB15 (W : World) : (Instr.makeSlice 235 (.int .i64 15) (.int .i64 15)).run Tryz.prog W = .ok (.slice (some ⟨W.heap.size, 0, none⟩) 15 15) (W.alloc (.cells (Array.replicate 15 (Value.bool false)) 4)) := by kernel_rfl
theorem mkB16 (W : World) : (Instr.makeSlice 235 (.int .i64 16) (.int .i64 16)).run Tryz.prog W = .ok (.slice (some ⟨W.heap.size, 0, none⟩) 16 16) (W.alloc (.cells (Array.replicate 16 (Value.bool false)) 4)) := by kernel_rfl
theorem mkB (n : Nat) (hn : n ≤ 16) (W : World) : (Instr.makeSlice 235 (.int .i64 n) (.int .i64 n)).run Tryz.prog W = .ok (.slice (some ⟨W.heap.size, 0, none⟩) n n) (W.alloc (.cells (Array.replicate n (Value.bool false)) 4)) := by
  have h : n = 0 ∨ n = 1 ∨ n = 2 ∨ n = 3 ∨ n = 4 ∨ n = 5 ∨ n = 6 ∨ n = 7 ∨ n = 8 ∨ n = 9 ∨ n = 10 ∨ n = 11 ∨ n = 12 ∨ n = 13 ∨ n = 14 ∨ n = 15 ∨ n = 16 := by omega
  rcases h with rfl | rfl | rfl | rfl | rfl | rfl | rfl | rfl | rfl | rfl | rfl | rfl | rfl | rfl | rfl | rfl | rfl
  · exact mkB0 W
  · exact mkB1 W
  · exact mkB2 W
  · exact mkB3 W
  · exact mkB4 W
  · exact mkB5 W
  · exact mkB6 W
  · exact mkB7 W
  · exact mkB8 W
  · exact mkB9 W
  · exact mkB10 W
  · exact mkB11 W
  · exact mkB12 W
  · exact mkB13 W
  · exact mkB14 W
  · exact mkB15 W
  · exact mkB16 W
theorem rowB_new {w : World} {g n : Nat} (h : Blk w g (Array.replicate n (Value.bool false)) 4) : RowB w g (List.replicate n false) := by
  unfold RowB
  rw [show ((List.replicate n false).map Value.bool).toArray = Array.replicate n (Value.bool false) by simp]
  exact h
def OkGr (left right : Nat) (l : List Edg) : Prop := ∀ x ∈ l, 0 ≤ x.lft ∧ x.lft < left ∧ 0 ≤ x.rgt ∧ x.rgt < right
theorem nbrs_lt {left right : Nat} {l : List Edg} (h : OkGr left right l) (d r : Nat) (hr : r ∈ nbrs l d) : d < left ∧ r < right := by
  unfold nbrs at hr
  obtain ⟨x, hx, rfl⟩ := List.mem_map.1 hr
  obtain ⟨hx1, hx2⟩ := List.mem_filter.1 hx
  have := of_decide_eq_true hx2
  have := h x hx1
  omega
end Go.Proofs.YtoilcdgpeilgaaaGreat
namespace Go.Proofs.YtoilcdgpeilgaaaGreat
open Go.RowKit Go.Shelf
structure Lacks (left : Nat) (l : List Edg) (sm : List Int) : Prop where
  rng : ∀ x ∈ sm, 0 ≤ x ∧ x < left
  up : sm.Pairwise (fun x y => x < y)
  nb : ∃ P : List Nat, (∀ y ∈ l, y.lft ∈ sm → y.rgt.toNat ∈ P) ∧ P.length < sm.length
structure Best (left right : Nat) (l ml : List Edg) : Prop where
  sub : ∀ x ∈ ml, x ∈ l
  up : ml.Pairwise (fun x y => x.lft < y.lft)
  apart : ml.Pairwise (fun x y => x.rgt ≠ y.rgt)
  most : ∀ M : List (Nat × Nat), IsM (nbrs l) M → M.length ≤ ml.length
  le : ml.length ≤ left
theorem nbrs_edge {left right : Nat} {l : List Edg} (h : OkGr left right l) {d r : Nat} (hr : r ∈ nbrs l d) : (⟨(d : Int), (r : Int)⟩ : Edg) ∈ l := by
  unfold nbrs at hr
  obtain ⟨x, hx, rfl⟩ := List.mem_map.1 hr
  obtain ⟨h1, h2⟩ := List.mem_filter.1 hx
  have h3 := of_decide_eq_true h2
  have h4 := h x h1
  have : (⟨(d : Int), ((x.rgt.toNat : Nat) : Int)⟩ : Edg) = x := by
    cases x
    simp only [Edg.mk.injEq] at *
    omega
  rw [this]; exact h1
theorem Best.isM {left right : Nat} {l ml : List Edg} (h : Best left right l ml) (hg : OkGr left right l) : IsM (nbrs l) (ml.map (fun x => (x.lft.toNat, x.rgt.toNat))) where
  edge := fun p hp => by
    obtain ⟨x, hx, rfl⟩ := List.mem_map.1 hp
    have h1 := hg x (h.sub x hx)
    exact nbrs_mem (h.sub x hx) (by simp only; omega) (by simp only; omega)
  lefts := by
    rw [List.map_map]
    have h1 : ml.Pairwise (fun x y => x.lft.toNat ≠ y.lft.toNat) := List.Pairwise.imp_of_mem (fun {x y} hx hy hxy => by
      have h1 := hg x (h.sub x hx)
      have h2 := hg y (h.sub y hy)
      omega) h.up
    show (ml.map _).Pairwise (fun x y => x ≠ y)
    rw [List.pairwise_map]
    exact h1
  rights := by
    rw [List.map_map]
    have h1 : ml.Pairwise (fun x y => x.rgt.toNat ≠ y.rgt.toNat) := List.Pairwise.imp_of_mem (fun {x y} hx hy hxy => by
      have h1 := hg x (h.sub x hx)
      have h2 := hg y (h.sub y hy)
      omega) h.apart
    show (ml.map _).Pairwise (fun x y => x ≠ y)
    rw [List.pairwise_map]
    exact h1
theorem Best.same {left right left2 right2 : Nat} {l ml l2 ml2 : List Edg} (h : Best left right l ml) (h2 : Best left2 right2 l2 ml2) (hg : OkGr left right l) (hg2 : OkGr left2 right2 l2) (he : ∀ x, x ∈ l ↔ x ∈ l2) : ml.length = ml2.length := by
  have tr : ∀ {l l2 : List Edg} {M : List (Nat × Nat)} {a b : Nat}, OkGr a b l → (∀ x ∈ l, x ∈ l2) → IsM (nbrs l) M → IsM (nbrs l2) M := fun hg hs hM => ⟨fun p hp => nbrs_mem (hs _ (nbrs_edge hg (hM.edge p hp))) rfl rfl, hM.lefts, hM.rights⟩
  have a1 := h2.most _ (tr hg (fun x hx => (he x).1 hx) (h.isM hg))
  have a2 := h.most _ (tr hg2 (fun x hx => (he x).2 hx) (h2.isM hg2))
  rw [List.length_map] at a1 a2
  omega
end Go.Proofs.YtoilcdgpeilgaaaGreat
