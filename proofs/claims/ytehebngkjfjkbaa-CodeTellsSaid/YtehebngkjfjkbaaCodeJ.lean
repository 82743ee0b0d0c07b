/-
  Requests: what is encoded is decoded as it was, and nothing else is: plain laws, no program in sight.
-/
import Derived.Test.YtehebngkjfjkbaaCodeI
namespace Go.Proofs.Ytehebngkjfjkbaa
open Go.RowKit Go.Shelf

theorem numOf_bytesL (m : Nat) : ∀ n : Int, 0 ≤ n → n < 256 ^ m → numOf (bytesL n m) = n := by
  induction m with
  | zero => intro n h0 h1; simp at h1; have : n = 0 := by omega
            subst this; rfl
  | succ m ih =>
    intro n h0 h1
    rw [Int.pow_succ] at h1
    rw [bytesL, numOf_snoc, ih (n / 256) (by omega) (by omega)]
    have := byte_of (n := n)
    omega
theorem bytesL_numOf (n : Nat) : ∀ l : List UInt8, l.length = n → bytesL (numOf l) n = l := by
  induction n with
  | zero => intro l h; obtain rfl : l = [] := List.length_eq_zero_iff.1 h; rfl
  | succ n ih =>
    intro l h
    rcases List.eq_nil_or_concat l with rfl | ⟨l', c, rfl⟩
    · simp at h
    · rw [List.concat_eq_append] at h ⊢
      have hc := c.toNat_lt
      rw [numOf_snoc, bytesL, show (256 * numOf l' + (c.toNat : Int)) / 256 = numOf l' by omega, show (256 * numOf l' + (c.toNat : Int)) % 256 = (c.toNat : Int) by omega, ih l' (by simp at h; omega)]
      simp
theorem rd_some {v : Int} {m : Nat} (rest : List UInt8) (sh : Bool) (h0 : 0 ≤ v) (h1 : v < 256 ^ m) : readN (bytesL v m ++ rest, sh) m = (v, (rest, sh)) := by
  unfold readN
  have hl := bytesL_length m v
  rw [if_neg (by rw [List.length_append, hl]; omega)]
  simp only [List.take_left' hl, List.drop_left' hl, numOf_bytesL m v h0 h1]
theorem rd_back {r : List UInt8 × Bool} {m : Nat} (h : (readN r m).2.2 = false) : r.2 = false ∧ r.1 = bytesL (readN r m).1 m ++ (readN r m).2.1 ∧ 0 ≤ (readN r m).1 := by
  unfold readN at h ⊢
  by_cases hl : r.1.length < m
  · rw [if_pos hl] at h; simp at h
  · rw [if_neg hl] at h ⊢
    refine ⟨h, ?_, (numOf_bd _).1⟩
    simp only
    rw [bytesL_numOf m (r.1.take m) (by rw [List.length_take]; omega), List.take_append_drop]

theorem flat_congr {α β : Type} {f g : α → List β} {l : List α} (h : ∀ p ∈ l, f p = g p) : l.flatMap f = l.flatMap g := by
  induction l with
  | nil => rfl
  | cons p l ih => rw [List.flatMap_cons, List.flatMap_cons, h p (List.mem_cons_self ..), ih fun q hq => h q (List.mem_cons_of_mem _ hq)]
def okIx (i : Nat) : Prop := i = 2 ∨ i = 3 ∨ i = 4 ∨ i = 5 ∨ i = 6 ∨ i = 7 ∨ i = 8 ∨ i = 9 ∨ i = 10
theorem mem_same {x : Ask} {lev v : Int} {i : Nat} (h : okIx i) : memF (setF x i v) (levF lev i v) i = v := by
  rcases h with rfl | rfl | rfl | rfl | rfl | rfl | rfl | rfl | rfl <;> rfl
theorem mem_other {x : Ask} {lev v : Int} {i j : Nat} (h : okIx i) (hj : i ≠ j) : memF (setF x j v) (levF lev j v) i = memF x lev i := by
  rcases h with rfl | rfl | rfl | rfl | rfl | rfl | rfl | rfl | rfl <;> simp [memF, fld, setF, levF] <;> exact fun e => absurd e.symm hj
theorem decL_cons (p : Part) (l : List Part) (d : Dec) : decL (p :: l) d = decL l (decStep d p) := rfl
theorem decL_other {i : Nat} (hi : okIx i) (l : List Part) : ∀ (d : Dec), i ∉ l.map Part.ix → memF (decL l d).1 (decL l d).2.1 i = memF d.1 d.2.1 i := by
  induction l with
  | nil => intro d _; rfl
  | cons p l ih =>
    intro d h
    rw [List.map_cons, List.mem_cons, not_or] at h
    rw [decL_cons, ih _ h.2]
    exact mem_other hi h.1
theorem decL_back (l : List Part) : ∀ (d : Dec), (∀ p ∈ l, okIx p.ix) → (l.map Part.ix).Nodup → (decL l d).2.2.2 = false →
    d.2.2.2 = false ∧ d.2.2.1 = l.flatMap (fun p => bytesL (memF (decL l d).1 (decL l d).2.1 p.ix) p.bytes.toNat) ++ (decL l d).2.2.1 ∧ ∀ p ∈ l, 0 ≤ memF (decL l d).1 (decL l d).2.1 p.ix := by
  induction l with
  | nil => intro d _ _ h; exact ⟨h, by simp [decL], by simp⟩
  | cons p l ih =>
    intro d hok hnd h
    rw [List.map_cons, List.nodup_cons] at hnd
    rw [decL_cons] at h ⊢
    obtain ⟨h1, h2, h3⟩ := ih (decStep d p) (fun q hq => hok q (List.mem_cons_of_mem _ hq)) hnd.2 h
    obtain ⟨h4, h5, h6⟩ := rd_back (r := d.2.2) (m := p.bytes.toNat) h1
    have hp := hok p (List.mem_cons_self ..)
    have hm : memF (decL l (decStep d p)).1 (decL l (decStep d p)).2.1 p.ix = (readN d.2.2 p.bytes.toNat).1 := by
      rw [decL_other hp l _ hnd.1]; exact mem_same hp
    refine ⟨h4, ?_, fun q hq => ?_⟩
    · rw [List.flatMap_cons, hm, List.append_assoc, ← h2]; exact h5
    · rcases List.mem_cons.1 hq with rfl | hq
      · rw [hm]; exact h6
      · exact h3 q hq
theorem decL_some (x : Ask) (l : List Part) : ∀ (d : Dec) (rest : List UInt8) (sh : Bool), (∀ p ∈ l, okIx p.ix) → (l.map Part.ix).Nodup → (∀ p ∈ l, 0 ≤ fld x p.ix ∧ fld x p.ix < 256 ^ p.bytes.toNat) →
    d.2.2 = (l.flatMap (partS x) ++ rest, sh) → (decL l d).2.2 = (rest, sh) ∧ ∀ p ∈ l, memF (decL l d).1 (decL l d).2.1 p.ix = fld x p.ix := by
  induction l with
  | nil => intro d rest sh _ _ _ h; exact ⟨by simpa [decL] using h, by simp⟩
  | cons p l ih =>
    intro d rest sh hok hnd hr h
    rw [List.map_cons, List.nodup_cons] at hnd
    have hp := hr p (List.mem_cons_self ..)
    have hq : readN d.2.2 p.bytes.toNat = (fld x p.ix, (l.flatMap (partS x) ++ rest, sh)) := by
      rw [h, List.flatMap_cons, List.append_assoc]; exact rd_some _ _ hp.1 hp.2
    rw [decL_cons]
    obtain ⟨h1, h2⟩ := ih (decStep d p) rest sh (fun q hq => hok q (List.mem_cons_of_mem _ hq)) hnd.2 (fun q hq => hr q (List.mem_cons_of_mem _ hq)) (by unfold decStep; rw [hq])
    refine ⟨h1, fun q hq' => ?_⟩
    rcases List.mem_cons.1 hq' with rfl | hq'
    · have hp := hok q (List.mem_cons_self ..)
      rw [decL_other hp l _ hnd.1]
      show memF (setF _ _ _) (levF _ _ _) _ = _
      rw [mem_same hp, hq]
    · exact h2 q hq'
theorem parts_ok (k : Int) : (∀ p ∈ partsL k, okIx p.ix) ∧ ((partsL k).map Part.ix).Nodup := by
  refine ⟨fun p hp => ?_, ?_⟩
  · rcases part_cases hp with rfl | rfl | rfl | rfl | rfl | rfl | rfl | rfl | rfl <;> simp [okIx, pId, pGuests, pLevel, pCabin, pCategory, pFrom, pTo, pTil, pAmount]
  · unfold partsL
    repeat' split
    all_goals decide
theorem part_most {k : Int} {p : Part} (hp : p ∈ partsL k) : p.most < 256 ^ p.bytes.toNat := by
  rcases part_cases hp with rfl | rfl | rfl | rfl | rfl | rfl | rfl | rfl | rfl <;> decide

/-- Requests are the same if all is. -/
theorem ask_ext {x y : Ask} (h0 : x.number = y.number) (h1 : x.kind = y.kind) (h : ∀ i, okIx i → fld x i = fld y i) : x = y := by
  have e2 := h 2 (by simp [okIx])
  have e3 := h 3 (by simp [okIx])
  have e4 := h 4 (by simp [okIx])
  have e5 := h 5 (by simp [okIx])
  have e6 := h 6 (by simp [okIx])
  have e7 := h 7 (by simp [okIx])
  have e8 := h 8 (by simp [okIx])
  have e9 := h 9 (by simp [okIx])
  have e10 := h 10 (by simp [okIx])
  obtain ⟨a0, a1, a2, a3, a4, a5, a6, a7, a8, a9, a10⟩ := x
  obtain ⟨b0, b1, b2, b3, b4, b5, b6, b7, b8, b9, b10⟩ := y
  simp [fld] at h0 h1 e2 e3 e4 e5 e6 e7 e8 e9 e10
  simp only [Ask.mk.injEq]
  refine ⟨h0, h1, e2, e3, ?_, e5, e6, e7, e8, e9, e10⟩
  cases a4 <;> cases b4 <;> simp_all
theorem zf_mem (l : List Part) : ∀ (x : Ask) (i : Nat), okIx i → i ≠ 4 → fld (zf l x) i = if i ∈ l.map Part.ix then 0 else fld x i := by
  induction l with
  | nil => intro x i _ _; simp [zf]
  | cons p l ih =>
    intro x i hi h4
    show fld (zf l (setF x p.ix 0)) i = _
    rw [ih _ i hi h4]
    by_cases h : i ∈ l.map Part.ix
    · rw [if_pos h, List.map_cons, if_pos (List.mem_cons_of_mem _ h)]
    · rw [if_neg h, List.map_cons]
      by_cases e : i = p.ix
      · rw [if_pos (by rw [← e]; exact List.mem_cons_self ..), ← e]
        rcases hi with rfl | rfl | rfl | rfl | rfl | rfl | rfl | rfl | rfl <;> first | rfl | exact absurd rfl h4
      · rw [if_neg (by rw [List.mem_cons, not_or]; exact ⟨e, h⟩)]
        have := mem_other (x := x) (lev := 0) (v := 0) hi e
        simpa [memF, h4] using this
/-- What a kind does not name is nothing. -/
theorem bare_iff {x : Ask} : bareB x = true ↔ ∀ i, okIx i → i ∉ (partsL x.kind).map Part.ix → fld x i = 0 := by
  unfold bareB
  rw [decide_eq_true_eq]
  have h4 : ((partsL x.kind).any (fun p => p.ix == 4) = true) ↔ 4 ∈ (partsL x.kind).map Part.ix := by
    rw [List.any_eq_true, List.mem_map]
    constructor
    · rintro ⟨p, h, e⟩; exact ⟨p, h, by simpa using e⟩
    · rintro ⟨p, h, e⟩; exact ⟨p, h, by simpa using e⟩
  have hz := zf_same (partsL x.kind) x
  have hf : ∀ i, okIx i → fld (bareAsk x) i = if i ∈ (partsL x.kind).map Part.ix then 0 else fld x i := fun i hi => by
    by_cases e4 : i = 4
    · subst e4
      have : fld (bareAsk x) 4 = if (bareAsk x).level then 1 else 0 := rfl
      rw [this]
      have h5 : fld x 4 = if x.level then 1 else 0 := rfl
      rw [h5]
      unfold bareAsk
      by_cases h : 4 ∈ (partsL x.kind).map Part.ix
      · rw [if_pos h, if_pos (h4.2 h)]; rfl
      · rw [if_neg h, if_neg (fun e => h (h4.1 e))]
    · rw [← zf_mem _ x i hi e4]
      unfold bareAsk
      rcases hi with rfl | rfl | rfl | rfl | rfl | rfl | rfl | rfl | rfl <;> first | rfl | exact absurd rfl e4
  constructor
  · intro h i hi hn
    have := hf i hi
    rw [h, if_neg hn] at this
    rw [← this]
    rcases hi with rfl | rfl | rfl | rfl | rfl | rfl | rfl | rfl | rfl <;> rfl
  · intro h
    refine ask_ext hz.2.1 hz.2.2 fun i hi => ?_
    rw [hf i hi]
    have e0 : fld ({ (default : Ask) with number := x.number, kind := x.kind }) i = 0 := by
      rcases hi with rfl | rfl | rfl | rfl | rfl | rfl | rfl | rfl | rfl <;> rfl
    rw [e0]
    by_cases e : i ∈ (partsL x.kind).map Part.ix
    · rw [if_pos e]
    · rw [if_neg e]; exact h i hi e

structure CodeOk (x : Ask) : Prop where
  kind : 1 ≤ x.kind ∧ x.kind ≤ 8
  number : 1 ≤ x.number ∧ x.number ≤ 65535
  bare : bareB x = true
  parts : ∀ p ∈ partsL x.kind, 0 ≤ memF x 0 p.ix ∧ memF x 0 p.ix ≤ p.most
theorem code_ok {x : Ask} (h : codeE x = 0) : CodeOk x := by
  unfold codeE at h
  by_cases h1 : betB x.kind 1 8 = false
  · rw [if_pos h1] at h; omega
  rw [if_neg h1] at h
  by_cases h2 : betB x.number 1 65535 = false
  · rw [if_pos h2] at h; omega
  rw [if_neg h2] at h
  by_cases h3 : bareB x = false
  · rw [if_pos h3] at h; omega
  rw [if_neg h3] at h
  by_cases h4 : (partsL x.kind).all (partOk x) = true
  · exact ⟨betB_iff.1 (by simpa using h1), betB_iff.1 (by simpa using h2), by simpa using h3, fun p hp => betB_iff.1 (List.all_eq_true.1 h4 p hp)⟩
  · rw [if_neg h4] at h; omega
theorem code_val {x : Ask} (h : CodeOk x) {p : Part} (hp : p ∈ partsL x.kind) : 0 ≤ fld x p.ix ∧ fld x p.ix ≤ p.most := by
  have hm := h.parts p hp
  rcases part_cases hp with rfl | rfl | rfl | rfl | rfl | rfl | rfl | rfl | rfl
  all_goals first
    | exact hm
    | (show 0 ≤ (if x.level then (1 : Int) else 0) ∧ (if x.level then (1 : Int) else 0) ≤ 1
       split <;> omega)
theorem fld_decX {d : Dec} (h0 : 0 ≤ d.2.1) (h1 : d.2.1 ≤ 1) {i : Nat} (hi : okIx i) : fld (decX d) i = memF d.1 d.2.1 i := by
  rcases hi with rfl | rfl | rfl | rfl | rfl | rfl | rfl | rfl | rfl
  all_goals first
    | rfl
    | (show (if (d.2.1 == 1) = true then (1 : Int) else 0) = d.2.1
       by_cases e : d.2.1 = 1
       · rw [if_pos (by simpa using e), e]
       · rw [if_neg (by simpa using e)]; omega)
theorem decX_same (d : Dec) : (decX d).number = d.1.number ∧ (decX d).kind = d.1.kind := ⟨rfl, rfl⟩
theorem decL_number (l : List Part) : ∀ d, (decL l d).1.number = d.1.number := by
  induction l with
  | nil => intro d; rfl
  | cons p l ih => intro d; rw [decL_cons, ih]; rfl

/-- WHAT IS ENCODED IS DECODED AS IT WAS. -/
theorem dec_enc {x : Ask} (h : codeE x = 0) : decV (encS x) = (x, 0) := by
  have ho := code_ok h
  have hp := parts_ok x.kind
  have h0 : dec0 (encS x) = (⟨x.number, x.kind, 0, 0, false, 0, 0, 0, 0, 0, 0⟩, 0, ((partsL x.kind).flatMap (partS x), false)) := by
    unfold dec0 encS headS
    rw [List.append_assoc, rd_some _ _ (by have := ho.kind; omega) (by have := ho.kind; simp; omega)]
    simp only
    rw [rd_some _ _ (by have := ho.number; omega) (by have := ho.number; simp; omega)]
  have hd : decD (encS x) = decL (partsL x.kind) (⟨x.number, x.kind, 0, 0, false, 0, 0, 0, 0, 0, 0⟩, 0, ((partsL x.kind).flatMap (partS x), false)) := by unfold decD; rw [h0]
  obtain ⟨d, hdd⟩ : ∃ d, d = decD (encS x) := ⟨_, rfl⟩
  obtain ⟨h1, h2⟩ := decL_some x (partsL x.kind) (⟨x.number, x.kind, 0, 0, false, 0, 0, 0, 0, 0, 0⟩, 0, ((partsL x.kind).flatMap (partS x), false)) [] false hp.1 hp.2
    (fun p hpp => ⟨(code_val ho hpp).1, Int.lt_of_le_of_lt (code_val ho hpp).2 (part_most hpp)⟩) (by simp)
  have hk := decL_kind (partsL x.kind) (⟨x.number, x.kind, 0, 0, false, 0, 0, 0, 0, 0, 0⟩, 0, ((partsL x.kind).flatMap (partS x), false))
  have hn := decL_number (partsL x.kind) (⟨x.number, x.kind, 0, 0, false, 0, 0, 0, 0, 0, 0⟩, 0, ((partsL x.kind).flatMap (partS x), false))
  have hmem : ∀ i, okIx i → memF d.1 d.2.1 i = fld x i := fun i hi => by
    rw [hdd, hd]
    by_cases e : i ∈ (partsL x.kind).map Part.ix
    · obtain ⟨p, hpp, rfl⟩ := List.mem_map.1 e
      exact h2 p hpp
    · rw [decL_other hi _ _ e, bare_iff.1 ho.bare i hi e]
      rcases hi with rfl | rfl | rfl | rfl | rfl | rfl | rfl | rfl | rfl <;> rfl
  rw [← hd, ← hdd] at h1 hk hn
  have hlev : d.2.1 = fld x 4 := hmem 4 (by simp [okIx])
  have hl01 : 0 ≤ d.2.1 ∧ d.2.1 ≤ 1 := by
    rw [hlev]; show 0 ≤ (if x.level then (1 : Int) else 0) ∧ (if x.level then (1 : Int) else 0) ≤ 1
    split <;> omega
  have hx : decX d = x := ask_ext hn hk fun i hi => by rw [fld_decX hl01.1 hl01.2 hi, hmem i hi]
  unfold decV
  rw [← hdd, hx, if_neg, if_neg (by rw [h]; simp)]
  unfold decBad
  rw [h0, h1]
  have := betB_true ho.kind.1 ho.kind.2
  simp [this]; omega

/-- AND NOTHING ELSE IS. -/
theorem enc_dec {s : List UInt8} (h : (decV s).2 = 0) : codeE (decV s).1 = 0 ∧ encS (decV s).1 = s := by
  unfold decV at h ⊢
  by_cases hb : decBad (decD s) (dec0 s).1.kind = true
  · rw [if_pos hb] at h; simp at h
  rw [if_neg hb] at h ⊢
  by_cases hc : codeE (decX (decD s)) ≠ 0
  · rw [if_pos hc] at h; exact absurd h hc
  rw [if_neg hc] at ⊢
  have hc0 : codeE (decX (decD s)) = 0 := by omega
  refine ⟨hc0, ?_⟩
  have hp := parts_ok (dec0 s).1.kind
  unfold decBad at hb
  simp only [Bool.or_eq_true, not_or, beq_iff_eq, decide_eq_true_eq, Bool.not_eq_true] at hb
  obtain ⟨⟨⟨hk, hsh⟩, hr⟩, hl⟩ := hb
  obtain ⟨h1, h2, h3⟩ := decL_back (partsL (dec0 s).1.kind) (dec0 s) hp.1 hp.2 hsh
  have hr' : (decD s).2.2.1 = [] := by simpa using hr
  rw [show decL (partsL (dec0 s).1.kind) (dec0 s) = decD s from rfl] at h2 h3
  have hl01 : 0 ≤ (decD s).2.1 ∧ (decD s).2.1 ≤ 1 := by
    refine ⟨?_, by omega⟩
    by_cases e : 4 ∈ (partsL (dec0 s).1.kind).map Part.ix
    · obtain ⟨p, hpp, he⟩ := List.mem_map.1 e
      have := h3 p hpp
      rw [he] at this; exact this
    · have := decL_other (i := 4) (by simp [okIx]) (partsL (dec0 s).1.kind) (dec0 s) e
      have h0 : memF (dec0 s).1 (dec0 s).2.1 4 = 0 := rfl
      rw [h0] at this
      have e2 : memF (decD s).1 (decD s).2.1 4 = (decD s).2.1 := rfl
      rw [← e2]
      show 0 ≤ memF (decL (partsL (dec0 s).1.kind) (dec0 s)).1 (decL (partsL (dec0 s).1.kind) (dec0 s)).2.1 4
      rw [this]; omega
  have hkind : (decX (decD s)).kind = (dec0 s).1.kind := decL_kind _ _
  have hnum : (decX (decD s)).number = (dec0 s).1.number := decL_number _ _
  have hfl : (partsL (dec0 s).1.kind).flatMap (partS (decX (decD s))) = (dec0 s).2.2.1 := by
    rw [h2, hr', List.append_nil]
    refine flat_congr fun p hpp => ?_
    unfold partS
    rw [fld_decX hl01.1 hl01.2 (hp.1 p hpp)]
  obtain ⟨g1, g2, _⟩ := rd_back (r := (readN (s, false) 1).2) (m := 2) h1
  obtain ⟨_, g4, _⟩ := rd_back (r := (s, false)) (m := 1) g1
  unfold encS headS
  rw [hkind, hnum, hfl, List.append_assoc]
  show bytesL (readN (s, false) 1).1 1 ++ (bytesL (readN (readN (s, false) 1).2 2).1 2 ++ (readN (readN (s, false) 1).2 2).2.1) = s
  rw [← g2]
  exact g4.symm
theorem dec_none {s : List UInt8} (h : (decV s).2 ≠ 0) : (decV s).1 = ask0 := by
  unfold decV at h ⊢
  by_cases hb : decBad (decD s) (dec0 s).1.kind = true
  · rw [if_pos hb]
  rw [if_neg hb] at h ⊢
  by_cases hc : codeE (decX (decD s)) ≠ 0
  · rw [if_pos hc]
  · rw [if_neg hc] at h; exact absurd rfl h
end Go.Proofs.Ytehebngkjfjkbaa
