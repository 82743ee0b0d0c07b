/-
  Plain laws on ships: who serves whom; no program in sight.
-/
import Derived.Test.YtpodgidamoiakaaSpanA
namespace Go.Proofs.Ytpodgidamoiakaa

/-- The first of f 0, f 1, .. that is not 0. -/
def firstE (f : Nat → Int) : Nat → Int
  | 0 => 0
  | n + 1 => if firstE f n ≠ 0 then firstE f n else f n
theorem firstE_at {f : Nat → Int} {k : Nat} (h0 : firstE f k = 0) (hk : f k ≠ 0) : ∀ {n : Nat}, k < n → firstE f n = f k
  | 0, h => absurd h (by omega)
  | n + 1, h => by
    unfold firstE
    by_cases he : k = n
    · subst he
      rw [if_neg (by simpa using h0)]
    · have := firstE_at h0 hk (n := n) (by omega)
      rw [this, if_pos hk]
theorem firstE_succ {f : Nat → Int} {k : Nat} (h0 : firstE f k = 0) (hk : f k = 0) : firstE f (k + 1) = 0 := by
  unfold firstE
  rw [if_neg (by simpa using h0), hk]
theorem firstE_congr {f g : Nat → Int} : ∀ {n : Nat}, (∀ i, i < n → f i = g i) → firstE f n = firstE g n
  | 0, _ => rfl
  | n + 1, h => by
    unfold firstE
    rw [firstE_congr (n := n) (fun i hi => h i (by omega)), h n (by omega)]
theorem firstE_zero {f : Nat → Int} : ∀ {n : Nat}, firstE f n = 0 → ∀ i, i < n → f i = 0
  | 0, _ => fun i hi => absurd hi (by omega)
  | n + 1, h => fun i hi => by
    unfold firstE at h
    by_cases h1 : firstE f n ≠ 0
    · rw [if_pos h1] at h; exact absurd h h1
    · rw [if_neg h1] at h
      by_cases he : i = n
      · subst he; exact h
      · exact firstE_zero (by simpa using h1) i (by omega)

theorem getD_far {α : Type} {C : List α} {b : Nat} {d : α} (h : C.length ≤ b) : C.getD b d = d := by
  rw [List.getD_eq_getElem?_getD, List.getElem?_eq_none h]; rfl
theorem getD_at {α : Type} {C : List α} {b : Nat} {d : α} (h : b < C.length) : C.getD b d = C[b] := by
  rw [List.getD_eq_getElem?_getD, List.getElem?_eq_getElem h]; rfl
/-- a stands straight above b. -/
def Up (C : List (List Int)) (b a : Nat) : Prop := (a : Int) ∈ C.getD b []
instance (C : List (List Int)) (b a : Nat) : Decidable (Up C b a) := by unfold Up; exact inferInstance
/-- a serves b, but by being it. -/
def Srv (C : List (List Int)) (a b : Nat) : Prop := Relation.TransGen (Up C) b a
def OkC (C : List (List Int)) : Prop := ∀ c ∈ C, ∀ h ∈ c, 0 ≤ h ∧ h < C.length

theorem Up.lt {C : List (List Int)} {a b : Nat} (h : Up C b a) : b < C.length := by
  unfold Up at h
  by_cases hb : b < C.length
  · exact hb
  · rw [getD_far (by omega)] at h; simp at h
theorem OkC.getD {C : List (List Int)} (ho : OkC C) {b : Nat} {h : Int} (hh : h ∈ C.getD b []) : 0 ≤ h ∧ h < C.length := by
  by_cases hb : b < C.length
  · rw [getD_at hb] at hh
    exact ho _ (List.getElem_mem hb) _ hh
  · rw [getD_far (by omega)] at hh; simp at hh
theorem Up.lt' {C : List (List Int)} (ho : OkC C) {a b : Nat} (h : Up C b a) : a < C.length := by
  have := (ho.getD h).2; omega
theorem Srv.lt {C : List (List Int)} (ho : OkC C) {a b : Nat} (h : Srv C a b) : a < C.length ∧ b < C.length := by
  unfold Srv at h
  induction h with
  | single h => exact ⟨h.lt' ho, h.lt⟩
  | tail _ h ih => exact ⟨h.lt' ho, ih.2⟩
theorem Srv.trans {C : List (List Int)} {a b c : Nat} (h : Srv C a b) (h2 : Srv C b c) : Srv C a c := by
  unfold Srv at *
  exact Relation.TransGen.trans h2 h

-- what is climbed
def zeros (m : List Int) : Nat := m.countP (fun x => decide (x ≤ 0))
theorem getD_set (m : List Int) (i j : Nat) (v : Int) (hi : i < m.length) : (m.set i v).getD j 0 = if i = j then v else m.getD j 0 := by
  simp only [List.getD_eq_getElem?_getD, List.getElem?_set]
  by_cases h : i = j
  · subst h; simp [hi]
  · simp [h]
theorem zeros_set : ∀ (m : List Int) (i : Nat) (v : Int), i < m.length → 0 < v → zeros (m.set i v) + (if m.getD i 0 ≤ 0 then 1 else 0) = zeros m
  | [], i, v, h, _ => absurd h (by simp)
  | x :: m, 0, v, h, hv => by
    unfold zeros
    simp only [List.set_cons_zero, List.countP_cons, List.getD_cons_zero]
    have : ¬ v ≤ 0 := by omega
    by_cases hx : x ≤ 0 <;> simp [hx, this]
  | x :: m, i + 1, v, h, hv => by
    have := zeros_set m i v (by simpa using h) hv
    unfold zeros at *
    simp only [List.set_cons_succ, List.countP_cons, List.getD_cons_succ]
    omega

/-- What climbing to hs, children of n, has done. M: more than each has; k: how many of n's were taken. -/
structure Cl (C : List (List Int)) (M n k : Nat) (hs m m' : List Int) : Prop where
  len : m'.length = m.length
  mono : ∀ x, 0 < m.getD x 0 → 0 < m'.getD x 0
  kids : ∀ h ∈ hs, 0 < m'.getD h.toNat 0
  shut : ∀ y, 0 < m'.getD y 0 → ¬ 0 < m.getD y 0 → (∀ h ∈ C.getD y [], 0 < m'.getD h.toNat 0)
  real : ∀ y, 0 < m'.getD y 0 → 0 < m.getD y 0 ∨ Srv C y n
  zer : zeros m' ≤ zeros m
  low : (∀ x, 0 ≤ m.getD x 0) → ∀ x, 0 ≤ m'.getD x 0
  bnd : ∀ (c : Int), (∀ x, m.getD x 0 ≤ c) → ∀ x, m'.getD x 0 ≤ c + k + M * ((zeros m : Int) - zeros m')

theorem Cl.refl (C : List (List Int)) (M n : Nat) (m : List Int) : Cl C M n 0 [] m m where
  len := rfl
  mono := fun _ h => h
  kids := fun h hh => absurd hh (by simp)
  shut := fun y h h2 => absurd h h2
  real := fun y h => .inl h
  zer := Nat.le_refl _
  low := fun h => h
  bnd := fun c h x => by have := h x; rw [Int.sub_self, Int.mul_zero]; omega

theorem Cl.le {C : List (List Int)} {M n k k' : Nat} {hs m m' : List Int} (c : Cl C M n k hs m m') (h : k ≤ k') : Cl C M n k' hs m m' :=
  { c with bnd := fun b hb x => by have := c.bnd b hb x; omega }

/-- A child that was met before. -/
theorem Cl.old {C : List (List Int)} {M n k : Nat} {hs m m1 : List Int} (c : Cl C M n k hs m m1) (i : Nat) (hi : i < m1.length) (hp : 0 < m1.getD i 0) : Cl C M n (k + 1) (hs ++ [(i : Int)]) m (m1.set i (m1.getD i 0 + 1)) := by
  have hg := fun j => getD_set m1 i j (m1.getD i 0 + 1) hi
  have hpos : ∀ x, 0 < (m1.set i (m1.getD i 0 + 1)).getD x 0 ↔ 0 < m1.getD x 0 := fun x => by
    rw [hg]; by_cases h : i = x
    · subst h; rw [if_pos rfl]; omega
    · rw [if_neg h]
  have hz : zeros (m1.set i (m1.getD i 0 + 1)) = zeros m1 := by
    have := zeros_set m1 i (m1.getD i 0 + 1) hi (by omega)
    rw [if_neg (by omega)] at this; omega
  refine ⟨by rw [List.length_set]; exact c.len, fun x h => (hpos x).2 (c.mono x h), fun h hh => ?_, fun y h h2 hh hhh => (hpos _).2 (c.shut y ((hpos y).1 h) h2 hh hhh), fun y h => c.real y ((hpos y).1 h), by rw [hz]; exact c.zer, fun h x => ?_, fun b h x => ?_⟩
  · rcases List.mem_append.1 hh with h1 | h1
    · exact (hpos _).2 (c.kids h h1)
    · simp only [List.mem_singleton] at h1; subst h1; exact (hpos _).2 (by simpa using hp)
  · rw [hg]; have := c.low h x; split <;> omega
  · rw [hg, hz]
    have h1 := c.bnd b h x
    have h2 := c.bnd b h i
    split <;> omega

/-- A child that is new: it is climbed from. -/
theorem Cl.new {C : List (List Int)} {M n k : Nat} {hs m m1 m2 : List Int} (c : Cl C M n k hs m m1) (i : Nat) (hi : i < m1.length) (hp : m1.getD i 0 = 0) (hup : Up C n i)
    (c2 : Cl C M i M (C.getD i []) (m1.set i 1) m2) : Cl C M n (k + 1) (hs ++ [(i : Int)]) m m2 := by
  have hg := fun j => getD_set m1 i j 1 hi
  have hz : zeros (m1.set i 1) + 1 = zeros m1 := by
    have := zeros_set m1 i 1 hi (by omega)
    rw [if_pos (by omega)] at this; omega
  have hi1 : 0 < (m1.set i 1).getD i 0 := by rw [hg]; simp
  have hm12 : ∀ x, 0 < m1.getD x 0 → 0 < m2.getD x 0 := fun x h => c2.mono x (by rw [hg]; split <;> omega)
  refine ⟨by rw [c2.len, List.length_set]; exact c.len, fun x h => hm12 x (c.mono x h), fun h hh => ?_, fun y h h2 hh hhh => ?_, fun y h => ?_, ?_, fun h x => ?_, fun b h x => ?_⟩
  · rcases List.mem_append.1 hh with h1 | h1
    · exact hm12 _ (c.kids h h1)
    · simp only [List.mem_singleton] at h1; subst h1; exact c2.mono _ (by simpa using hi1)
  · by_cases h3 : 0 < (m1.set i 1).getD y 0
    · by_cases h4 : i = y
      · subst h4; exact c2.kids hh hhh
      · rw [hg, if_neg h4] at h3
        exact hm12 _ (c.shut y h3 h2 hh hhh)
    · exact c2.shut y h h3 hh hhh
  · rcases c2.real y h with h1 | h1
    · rw [hg] at h1
      by_cases h4 : i = y
      · subst h4; exact .inr (.single hup)
      · rw [if_neg h4] at h1; exact c.real y h1
    · exact .inr (Srv.trans h1 (.single hup))
  · have := c.zer; have := c2.zer; omega
  · refine c2.low (fun x => ?_) x
    rw [hg]; have := c.low h x; split <;> omega
  · have h1 := c.bnd b h
    have hb := c2.bnd (b + (k + 1 : Nat) + M * ((zeros m : Int) - zeros m1)) (fun x => by
      rw [hg]; have h2 := h1 x; have h3 := h1 i
      split
      · rw [hp] at h3; push_cast; omega
      · push_cast; omega) x
    have e : (M : Int) * ((zeros m : Int) - zeros m1) + M + M * ((zeros (m1.set i 1) : Int) - zeros m2) = M * ((zeros m : Int) - zeros m2) := by
      have : (zeros m1 : Int) = zeros (m1.set i 1) + 1 := by omega
      rw [this]
      have h5 : (M : Int) = M * 1 := by omega
      calc (M : Int) * ((zeros m : Int) - ((zeros (m1.set i 1) : Int) + 1)) + M + M * ((zeros (m1.set i 1) : Int) - zeros m2)
          = M * ((zeros m : Int) - ((zeros (m1.set i 1) : Int) + 1)) + M * 1 + M * ((zeros (m1.set i 1) : Int) - zeros m2) := by rw [← h5]
        _ = M * (((zeros m : Int) - ((zeros (m1.set i 1) : Int) + 1)) + 1 + ((zeros (m1.set i 1) : Int) - zeros m2)) := by rw [Int.mul_add, Int.mul_add]
        _ = _ := by congr 1; omega
    omega

theorem above_srv {C : List (List Int)} {M b k : Nat} {N : Nat} {m : List Int} (c : Cl C M b k (C.getD b []) (List.replicate N 0) m) (x : Nat) : 0 < m.getD x 0 ↔ Srv C x b := by
  have h0 : ∀ x, (List.replicate N (0 : Int)).getD x 0 = 0 := fun x => by
    simp only [List.getD_eq_getElem?_getD, List.getElem?_replicate]; split <;> rfl
  constructor
  · intro h
    rcases c.real x h with h1 | h1
    · rw [h0] at h1; omega
    · exact h1
  · intro h
    unfold Srv at h
    induction h with
    | single h => simpa using c.kids _ h
    | tail _ h ih => simpa using c.shut _ ih (by rw [h0]; omega) _ h

-- the table
def tabF (C : List (List Int)) : Nat → Nat → Nat → Bool
  | 0, a, b => decide ((a : Int) ∈ C.getD b [])
  | m + 1, a, b => tabF C m a b || (tabF C m a m && tabF C m m b)
theorem tab_real {C : List (List Int)} : ∀ (m a b : Nat), tabF C m a b = true → Srv C a b
  | 0, a, b, h => .single (by unfold tabF at h; exact of_decide_eq_true h)
  | m + 1, a, b, h => by
    unfold tabF at h
    rw [Bool.or_eq_true, Bool.and_eq_true] at h
    rcases h with h | ⟨h, h2⟩
    · exact tab_real m a b h
    · exact (tab_real m a m h).trans (tab_real m m b h2)
theorem tab_step {C : List (List Int)} {m a b : Nat} (h : tabF C m a b = true) : tabF C (m + 1) a b = true := by
  show (tabF C m a b || (tabF C m a m && tabF C m m b)) = true
  rw [h]; rfl
theorem tab_le {C : List (List Int)} {m a b : Nat} (h : tabF C m a b = true) : ∀ n, m ≤ n → tabF C n a b = true
  | 0, hn => by obtain rfl : m = 0 := by omega
                exact h
  | n + 1, hn => by
    by_cases he : m = n + 1
    · subst he; exact h
    · exact tab_step (tab_le h n (by omega))
theorem tab_thru {C : List (List Int)} : ∀ (m k a b : Nat), k < m → tabF C m a k = true → tabF C m k b = true → tabF C m a b = true
  | 0, _, _, _, h, _, _ => absurd h (by omega)
  | m + 1, k, a, b, hk, h1, h2 => by
    have hs : ∀ a b, tabF C (m + 1) a b = true ↔ (tabF C m a b = true ∨ (tabF C m a m = true ∧ tabF C m m b = true)) := fun a b => by
      show (tabF C m a b || (tabF C m a m && tabF C m m b)) = true ↔ _
      rw [Bool.or_eq_true, Bool.and_eq_true]
    rw [hs] at h1 h2 ⊢
    by_cases he : k = m
    · subst he
      exact .inr ⟨h1.elim id And.left, h2.elim id And.right⟩
    · have ih := fun a b => tab_thru (C := C) m k a b (by omega)
      rcases h1 with h1 | ⟨h1, h1'⟩ <;> rcases h2 with h2 | ⟨h2, h2'⟩
      · exact .inl (ih _ _ h1 h2)
      · exact .inr ⟨ih _ _ h1 h2, h2'⟩
      · exact .inr ⟨h1, ih _ _ h1' h2⟩
      · exact .inr ⟨h1, h2'⟩
theorem tab_srv {C : List (List Int)} (a b : Nat) : tabF C C.length a b = true ↔ Srv C a b := by
  constructor
  · exact tab_real _ _ _
  · intro h
    unfold Srv at h
    induction h with
    | single h => exact tab_le (m := 0) (by unfold tabF; exact decide_eq_true h) _ (by omega)
    | tail _ h ih => exact tab_thru _ _ _ _ h.lt (tab_le (m := 0) (by unfold tabF; exact decide_eq_true h) _ (by omega)) ih
/-- While the m-th is done, what stands in its row and its column stays. -/
theorem tab_col (C : List (List Int)) (m a : Nat) : tabF C (m + 1) a m = tabF C m a m := by
  show (tabF C m a m || (tabF C m a m && tabF C m m m)) = _
  cases tabF C m a m <;> simp
theorem tab_row (C : List (List Int)) (m b : Nat) : tabF C (m + 1) m b = tabF C m m b := by
  show (tabF C m m b || (tabF C m m m && tabF C m m b)) = _
  cases tabF C m m b <;> simp

instance (C : List (List Int)) (a b : Nat) : Decidable (Srv C a b) := decidable_of_iff _ (tab_srv a b)

theorem Srv.more {C D : List (List Int)} (hl : ∀ b h, h ∈ C.getD b [] → h ∈ D.getD b []) {a b : Nat} (h : Srv C a b) : Srv D a b := by
  unfold Srv at *
  induction h with
  | single h => exact .single (hl _ _ h)
  | tail _ h ih => exact .tail ih (hl _ _ h)
end Go.Proofs.Ytpodgidamoiakaa
