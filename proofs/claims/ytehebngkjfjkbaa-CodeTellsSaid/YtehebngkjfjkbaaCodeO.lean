/-
  Requests: plain laws on what the reference reads.
-/
import Derived.Test.YtehebngkjfjkbaaCodeL
import Derived.Test.YtehebngkjfjkbaaCodeM
namespace Go.Proofs.Ytehebngkjfjkbaa
open Go.RowKit Go.Shelf

theorem names_C9 {k : Int} {c : UInt8} (h : c ∈ namesS k) : c ∈ C9 := by
  have key : ∀ c ∈ namesS k, c ∈ C9 := by
    unfold namesS
    repeat' split
    all_goals decide
  exact key c h
theorem C9_ok {c : UInt8} (h : c ∈ C9) : okIx (partOf c).ix := by
  have key : ∀ c ∈ C9, (partOf c).ix = 2 ∨ (partOf c).ix = 3 ∨ (partOf c).ix = 4 ∨ (partOf c).ix = 5 ∨ (partOf c).ix = 6 ∨ (partOf c).ix = 7 ∨ (partOf c).ix = 8 ∨ (partOf c).ix = 9 ∨ (partOf c).ix = 10 := by decide
  exact key c h
theorem C9_inj : ∀ c ∈ C9, ∀ d ∈ C9, (partOf c).ix = (partOf d).ix → c = d := by decide
theorem C9_all : ∀ i : Nat, (i = 2 ∨ i = 3 ∨ i = 4 ∨ i = 5 ∨ i = 6 ∨ i = 7 ∨ i = 8 ∨ i = 9 ∨ i = 10) → ∃ c ∈ C9, (partOf c).ix = i := by
  intro i hi
  rcases hi with rfl | rfl | rfl | rfl | rfl | rfl | rfl | rfl | rfl <;> decide

/-- The document's test is the code's. -/
theorem askR_code (x : Ask) : askR x = codeE x := by
  have hlet : C9.all (letB x) = bareB x := by
    rw [Bool.eq_iff_iff, bare_iff, List.all_eq_true]
    constructor
    · intro h i hi hn
      obtain ⟨c, hc, rfl⟩ := C9_all i hi
      have := h c hc
      unfold letB at this
      rw [Bool.or_eq_true] at this
      rcases this with h1 | h1
      · obtain ⟨d, hd, he⟩ := List.any_eq_true.1 h1
        obtain rfl : d = c := by simpa using he
        exact absurd (List.mem_map_of_mem (f := Part.ix) (names_mem hd)) hn
      · simpa using h1
    · intro h c hc
      unfold letB
      rw [Bool.or_eq_true]
      by_cases hm : (partOf c).ix ∈ (partsL x.kind).map Part.ix
      · left
        obtain ⟨p, hp, he⟩ := List.mem_map.1 hm
        rw [← names_parts] at hp
        obtain ⟨d, hd, rfl⟩ := List.mem_map.1 hp
        have := C9_inj d (names_C9 hd) c hc he
        subst this
        exact List.any_eq_true.2 ⟨d, hd, by simp⟩
      · right
        simpa using h _ (C9_ok hc) hm
  have hval : (namesS x.kind).all (valB x) = (partsL x.kind).all (partOk x) := by
    rw [← names_parts, List.all_map, Bool.eq_iff_iff, List.all_eq_true, List.all_eq_true]
    have hone : ∀ c ∈ namesS x.kind, (valB x c = true ↔ (partOk x ∘ partOf) c = true) := fun c hc => by
      show betB (fld x (partOf c).ix) 0 (partOf c).most = true ↔ betB (memF x 0 (partOf c).ix) 0 (partOf c).most = true
      rcases part_cases (names_mem hc) with e | e | e | e | e | e | e | e | e
      all_goals rw [e]
      all_goals first
        | exact Iff.rfl
        | (refine ⟨fun _ => rfl, fun _ => ?_⟩
           show betB (if x.level then (1 : Int) else 0) 0 1 = true
           cases x.level <;> decide)
    exact ⟨fun h c hc => (hone c hc).1 (h c hc), fun h c hc => (hone c hc).2 (h c hc)⟩
  unfold askR codeE
  rw [hlet, hval]

/-- Who reads too little stays short. -/
theorem short_stays (l : List Part) : ∀ d : Dec, d.2.2.2 = true → (decL l d).2.2.2 = true := by
  induction l with
  | nil => intro d h; exact h
  | cons p l ih =>
    intro d h
    rw [decL_cons]
    refine ih _ ?_
    show (readN d.2.2 p.bytes.toNat).2.2 = true
    unfold readN
    split
    · rfl
    · exact h
theorem decV_short {s : List UInt8} (h : (decD s).2.2.2 = true) : decV s = (ask0, 1) := by
  unfold decV
  rw [if_pos]
  unfold decBad
  rw [h]; simp
theorem decL_app (l m : List Part) (d : Dec) : decL (l ++ m) d = decL m (decL l d) := by simp [decL]
theorem decV_short_at {s : List UInt8} {k : Nat} (h : (decL ((partsL (dec0 s).1.kind).take k) (dec0 s)).2.2.2 = true) : decV s = (ask0, 1) := by
  refine decV_short ?_
  have : decD s = decL ((partsL (dec0 s).1.kind).drop k) (decL ((partsL (dec0 s).1.kind).take k) (dec0 s)) := by
    rw [← decL_app, List.take_append_drop]; rfl
  rw [this]
  exact short_stays _ _ h
theorem decV_kind {s : List UInt8} (h : betB (dec0 s).1.kind 1 8 = false) : decV s = (ask0, 1) := by
  unfold decV
  rw [if_pos]
  unfold decBad
  rw [h]; rfl
theorem decV_few {s : List UInt8} (h : s.length < 3) : decV s = (ask0, 1) := by
  refine decV_short_at (k := 0) ?_
  show (readN (readN (s, false) 1).2 2).2.2 = true
  by_cases h1 : s.length < 1
  · have : readN (s, false) 1 = (0, ([], true)) := if_pos h1
    rw [this]; rfl
  · have : readN (s, false) 1 = (numOf (s.take 1), (s.drop 1, false)) := if_neg h1
    rw [this]
    have h2 : readN (s.drop 1, false) 2 = (0, ([], true)) := if_pos (by simp; omega)
    rw [h2]
theorem decV_lev {s : List UInt8} {k : Nat} (h : 1 < (decL ((partsL (dec0 s).1.kind).take k) (dec0 s)).2.1) (h4 : 4 ∉ ((partsL (dec0 s).1.kind).drop k).map Part.ix) : decV s = (ask0, 1) := by
  unfold decV
  rw [if_pos]
  have e : decD s = decL ((partsL (dec0 s).1.kind).drop k) (decL ((partsL (dec0 s).1.kind).take k) (dec0 s)) := by
    rw [← decL_app, List.take_append_drop]; rfl
  have := decL_other (i := 4) (by simp [okIx]) ((partsL (dec0 s).1.kind).drop k) (decL ((partsL (dec0 s).1.kind).take k) (dec0 s)) h4
  rw [← e] at this
  have h2 : (decD s).2.1 = (decL ((partsL (dec0 s).1.kind).take k) (dec0 s)).2.1 := this
  unfold decBad
  rw [h2]
  simp [h]
theorem decV_more {s : List UInt8} (h : (decD s).2.2.1 ≠ []) : decV s = (ask0, 1) := by
  unfold decV
  rw [if_pos]
  unfold decBad
  simp [h]
theorem decV_good {s : List UInt8} (h1 : betB (dec0 s).1.kind 1 8 = true) (h2 : (decD s).2.2 = ([], false)) (h3 : (decD s).2.1 ≤ 1) : decV s = if codeE (decX (decD s)) ≠ 0 then (ask0, codeE (decX (decD s))) else (decX (decD s), 0) := by
  have hb : ¬ decBad (decD s) (dec0 s).1.kind = true := by
    unfold decBad
    rw [h1, h2]
    simp
    omega
  unfold decV
  rw [if_neg hb]
theorem nodup_drop {l : List Part} {k : Nat} {p : Part} (hn : (l.map Part.ix).Nodup) (h : l[k]? = some p) : p.ix ∉ (l.drop (k + 1)).map Part.ix := by
  induction l generalizing k with
  | nil => simp at h
  | cons q l ih =>
    rw [List.map_cons, List.nodup_cons] at hn
    cases k with
    | zero =>
      simp only [List.getElem?_cons_zero, Option.some.injEq] at h
      subst h
      simpa using hn.1
    | succ k => exact ih hn.2 (by simpa using h)
theorem dec0_three {a b c : UInt8} {r : List UInt8} : dec0 (a :: b :: c :: r) = (⟨256 * (b.toNat : Int) + (c.toNat : Int), (a.toNat : Int), 0, 0, false, 0, 0, 0, 0, 0, 0⟩, 0, (r, false)) := by
  have h1 : readN (a :: b :: c :: r, false) 1 = ((a.toNat : Int), (b :: c :: r, false)) := by
    unfold readN; rw [if_neg (by simp)]; simp [numOf]
  have h2 : readN (b :: c :: r, false) 2 = (256 * (b.toNat : Int) + (c.toNat : Int), (r, false)) := by
    unfold readN; rw [if_neg (by simp)]; simp [numOf]
  unfold dec0
  rw [h1, h2]
end Go.Proofs.Ytehebngkjfjkbaa
