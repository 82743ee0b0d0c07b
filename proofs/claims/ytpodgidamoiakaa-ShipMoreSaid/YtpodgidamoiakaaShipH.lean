/-
  Plain laws on ships: their categories in order; no program in sight.
-/
import Derived.Test.YtpodgidamoiakaaShipG
namespace Go.Proofs.Ytpodgidamoiakaa

theorem countP_lt {α : Type} {p q : α → Bool} : ∀ {l : List α}, (∀ x ∈ l, p x = true → q x = true) → ∀ x ∈ l, q x = true → p x = false → l.countP p < l.countP q
  | [], _, x, hx, _, _ => absurd hx (by simp)
  | y :: l, h, x, hx, h1, h2 => by
    have hle : l.countP p ≤ l.countP q := List.countP_mono_left (fun z hz => h z (by simp [hz]))
    rw [List.countP_cons, List.countP_cons]
    rcases List.mem_cons.1 hx with rfl | hx'
    · rw [h1, h2]; simp; omega
    · have ih := countP_lt (l := l) (fun z hz => h z (by simp [hz])) x hx' h1 h2
      have := h y (by simp)
      cases hp : p y
      · rw [if_neg (by simp)]; omega
      · rw [this hp]; simp; omega

theorem nat_out : ∀ (n : Nat) (out : List Int), (∀ i : Nat, i < n → (i : Int) ∈ out) → n ≤ out.length
  | 0, _, _ => Nat.zero_le _
  | n + 1, out, h => by
    have h1 := h n (by omega)
    have := nat_out n (out.erase (n : Int)) (fun i hi => (List.mem_erase_of_ne (by omega)).2 (h i (by omega)))
    rw [List.length_erase_of_mem h1] at this
    have : 0 < out.length := List.length_pos_of_mem h1
    omega

def okO (C : List (List Int)) (out : List Int) (i : Nat) : Bool := !out.contains (i : Int) && (C.getD i []).all (fun h => out.contains h)
theorem okO_iff {C : List (List Int)} {out : List Int} {i : Nat} : okO C out i = true ↔ ((i : Int) ∉ out ∧ ∀ h ∈ C.getD i [], h ∈ out) := by
  unfold okO
  simp [List.all_eq_true]
def nextO (C : List (List Int)) (out : List Int) : Option Nat := (List.range C.length).find? (okO C out)
def ordF (C : List (List Int)) : Nat → List Int
  | 0 => []
  | k + 1 => ordF C k ++ [(((nextO C (ordF C k)).getD 0 : Nat) : Int)]
theorem ordF_len (C : List (List Int)) : ∀ k, (ordF C k).length = k
  | 0 => rfl
  | k + 1 => by unfold ordF; rw [List.length_append, ordF_len C k]; rfl

def rk (C : List (List Int)) (i : Nat) : Nat := (List.range C.length).countP (fun a => decide (Srv C a i))
theorem rk_lt {C : List (List Int)} (ho : OkC C) (ha : ∀ x, ¬ Srv C x x) {i h : Nat} (hu : Up C i h) : rk C h < rk C i := by
  refine countP_lt (fun x _ hx => decide_eq_true (Srv.trans (of_decide_eq_true hx) (.single hu))) h (List.mem_range.2 (hu.lt' ho)) (decide_eq_true (.single hu)) (decide_eq_false (ha h))

theorem some_ok {C : List (List Int)} (ho : OkC C) (ha : ∀ x, ¬ Srv C x x) (out : List Int) : ∀ (r i : Nat), i < C.length → (i : Int) ∉ out → rk C i ≤ r → ∃ j, j < C.length ∧ okO C out j = true := by
  intro r
  induction r with
  | zero =>
    intro i hi hn hr
    refine ⟨i, hi, okO_iff.2 ⟨hn, fun h hh => ?_⟩⟩
    have h1 := ho.getD hh
    have hu : Up C i h.toNat := by unfold Up; rw [Int.toNat_of_nonneg h1.1]; exact hh
    have := rk_lt ho ha hu
    omega
  | succ r ih =>
    intro i hi hn hr
    by_cases hall : ∀ h ∈ C.getD i [], h ∈ out
    · exact ⟨i, hi, okO_iff.2 ⟨hn, hall⟩⟩
    · simp only [Classical.not_forall] at hall
      obtain ⟨h, hh, hno⟩ := hall
      have h1 := ho.getD hh
      have hu : Up C i h.toNat := by unfold Up; rw [Int.toNat_of_nonneg h1.1]; exact hh
      have := rk_lt ho ha hu
      exact ih h.toNat (by omega) (by rw [Int.toNat_of_nonneg h1.1]; exact hno) (by omega)

theorem next_some {C : List (List Int)} (ho : OkC C) (ha : ∀ x, ¬ Srv C x x) {out : List Int} (hl : out.length < C.length) : ∃ i, nextO C out = some i := by
  have h1 : ∃ i : Nat, i < C.length ∧ (i : Int) ∉ out := by
    refine Classical.byContradiction fun h => ?_
    have := nat_out C.length out (fun i hi => Classical.byContradiction fun h2 => h ⟨i, hi, h2⟩)
    omega
  obtain ⟨i, hi, hn⟩ := h1
  obtain ⟨j, hj, hok⟩ := some_ok ho ha out _ i hi hn (Nat.le_refl _)
  unfold nextO
  cases hf : (List.range C.length).find? (okO C out) with
  | some x => exact ⟨x, rfl⟩
  | none =>
    rw [List.find?_eq_none] at hf
    exact absurd hok (hf j (List.mem_range.2 hj))
theorem find_range {p : Nat → Bool} : ∀ {n i : Nat}, (List.range n).find? p = some i ↔ (i < n ∧ p i = true ∧ ∀ j, j < i → p j = false)
  | n, i => by
    rw [List.find?_eq_some_iff_getElem]
    constructor
    · rintro ⟨hp, k, hk, he, hb⟩
      simp only [List.length_range] at hk
      simp only [List.getElem_range] at he
      subst he
      exact ⟨hk, hp, fun j hj => by simpa using hb j hj⟩
    · rintro ⟨hi, hp, hb⟩
      exact ⟨hp, i, by simpa using hi, by simp, fun j hj => by simpa using hb j hj⟩
theorem next_iff {C : List (List Int)} {out : List Int} {i : Nat} : nextO C out = some i ↔ (i < C.length ∧ okO C out i = true ∧ ∀ j, j < i → okO C out j = false) := find_range

/-- What has been laid in order: whole upwards. -/
structure Laid (C : List (List Int)) (out : List Int) : Prop where
  inC : ∀ x ∈ out, 0 ≤ x ∧ x < C.length
  nod : out.Nodup
  shut : ∀ x ∈ out, ∀ h ∈ C.getD x.toNat [], h ∈ out
theorem Laid.nil (C : List (List Int)) : Laid C [] := ⟨by simp, by simp, by simp⟩
theorem Laid.snoc {C : List (List Int)} {out : List Int} (h : Laid C out) {i : Nat} (hi : i < C.length) (hok : okO C out i = true) : Laid C (out ++ [(i : Int)]) := by
  obtain ⟨h1, h2⟩ := okO_iff.1 hok
  refine ⟨fun x hx => ?_, ?_, fun x hx y hy => ?_⟩
  · rcases List.mem_append.1 hx with hx | hx
    · exact h.inC x hx
    · simp only [List.mem_singleton] at hx; omega
  · rw [List.nodup_append]
    refine ⟨h.nod, by simp, fun a ha b hb => ?_⟩
    simp only [List.mem_singleton] at hb
    rintro rfl; subst hb; exact h1 ha
  · rcases List.mem_append.1 hx with hx | hx
    · exact List.mem_append_left _ (h.shut x hx y hy)
    · simp only [List.mem_singleton] at hx
      subst hx
      exact List.mem_append_left _ (h2 y (by simpa using hy))
theorem Laid.up {C : List (List Int)} {out : List Int} (h : Laid C out) {a b : Nat} (hb : (b : Int) ∈ out) (hs : Srv C a b) : (a : Int) ∈ out := by
  unfold Srv at hs
  induction hs with
  | single hu => exact h.shut _ hb _ (by rw [Int.toNat_natCast]; exact hu)
  | tail _ hu ih => exact h.shut _ ih _ (by rw [Int.toNat_natCast]; exact hu)
theorem okO_srv {C : List (List Int)} {out : List Int} (h : Laid C out) {i : Nat} (hok : ∀ x ∈ C.getD i [], x ∈ out) {a : Nat} (hs : Srv C a i) : (a : Int) ∈ out := by
  unfold Srv at hs
  induction hs with
  | single hu => exact hok _ hu
  | tail _ hu ih => exact h.shut _ ih _ (by rw [Int.toNat_natCast]; exact hu)
/-- As the document says it: all that serve it are there. -/
theorem okO_tab {C : List (List Int)} {out : List Int} (h : Laid C out) (ho : OkC C) (i : Nat) : okO C out i = true ↔ ((i : Int) ∉ out ∧ ∀ a, a < C.length → tabF C C.length a i = true → (a : Int) ∈ out) := by
  rw [okO_iff]
  refine and_congr_right fun _ => ⟨fun h1 a _ ht => okO_srv h h1 ((tab_srv a i).1 ht), fun h1 x hx => ?_⟩
  have h2 := ho.getD hx
  have hu : Up C i x.toNat := by unfold Up; rw [Int.toNat_of_nonneg h2.1]; exact hx
  have := h1 x.toNat (by omega) ((tab_srv _ _).2 (.single hu))
  rwa [Int.toNat_of_nonneg h2.1] at this

theorem ord_laid {C : List (List Int)} (ho : OkC C) (ha : ∀ x, ¬ Srv C x x) : ∀ k, k ≤ C.length → Laid C (ordF C k)
  | 0, _ => Laid.nil C
  | k + 1, hk => by
    obtain ⟨i, hi⟩ := next_some ho ha (out := ordF C k) (by rw [ordF_len]; omega)
    obtain ⟨h1, h2, _⟩ := next_iff.1 hi
    have := (ord_laid ho ha k (by omega)).snoc h1 h2
    unfold ordF
    rw [hi]
    exact this
theorem ord_next {C : List (List Int)} (ho : OkC C) (ha : ∀ x, ¬ Srv C x x) {k : Nat} (hk : k < C.length) : ∃ i, i < C.length ∧ ordF C (k + 1) = ordF C k ++ [(i : Int)] ∧ okO C (ordF C k) i = true ∧ ∀ j, j < i → okO C (ordF C k) j = false := by
  obtain ⟨i, hi⟩ := next_some ho ha (out := ordF C k) (by rw [ordF_len]; omega)
  obtain ⟨h1, h2, h3⟩ := next_iff.1 hi
  exact ⟨i, h1, by rw [ordF, hi]; rfl, h2, h3⟩
theorem ord_pre (C : List (List Int)) {k : Nat} : ∀ {n : Nat}, k ≤ n → ∀ x ∈ ordF C k, x ∈ ordF C n
  | 0, h, x, hx => by obtain rfl : k = 0 := by omega
                      exact hx
  | n + 1, h, x, hx => by
    by_cases he : k = n + 1
    · subst he; exact hx
    · exact List.mem_append_left _ (ord_pre C (by omega) x hx)
theorem ord_at (C : List (List Int)) {i : Nat} : ∀ {n : Nat}, i < n → (ordF C n)[i]? = (ordF C (i + 1))[i]?
  | 0, h => absurd h (by omega)
  | n + 1, h => by
    by_cases he : i = n
    · subst he; rfl
    · rw [ordF, List.getElem?_append_left (by rw [ordF_len]; omega)]
      exact ord_at C (by omega)
/-- Of two in order the later one does not serve the earlier one. -/
theorem ord_apart {C : List (List Int)} (ho : OkC C) (ha : ∀ x, ¬ Srv C x x) {i k : Nat} (hik : i < k) (hk : k < C.length) :
    ∃ a b : Nat, a < C.length ∧ b < C.length ∧ (ordF C C.length)[i]? = some (a : Int) ∧ (ordF C C.length)[k]? = some (b : Int) ∧ a ≠ b ∧ ¬ Srv C b a := by
  obtain ⟨a, ha1, he1, hok1, _⟩ := ord_next ho ha (k := i) (by omega)
  obtain ⟨b, hb1, he2, hok2, _⟩ := ord_next ho ha (k := k) hk
  have hb2 := (okO_iff.1 hok2).1
  have hai : (a : Int) ∈ ordF C (i + 1) := by rw [he1]; simp
  refine ⟨a, b, ha1, hb1, ?_, ?_, ?_, ?_⟩
  · rw [ord_at C (by omega), he1, List.getElem?_append_right (by rw [ordF_len]; omega)]; simp [ordF_len]
  · rw [ord_at C hk, he2, List.getElem?_append_right (by rw [ordF_len]; omega)]; simp [ordF_len]
  · rintro rfl; exact hb2 (ord_pre C (by omega) _ hai)
  · intro hs
    exact hb2 (ord_pre C (by omega) _ (okO_srv (ord_laid ho ha i (by omega)) (okO_iff.1 hok1).2 hs))
end Go.Proofs.Ytpodgidamoiakaa
