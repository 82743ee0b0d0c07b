/-
  Folios: the contract of Cancel.
-/
import Derived.Test.YtehebngkjfjkbaaFolioE
namespace Go.Proofs.Ytehebngkjfjkbaa
open Go.RowKit Go.Shelf

/-- One entry more, if its amount is not 0. -/
def putL (l : List Entry) (d k m : Int) : List Entry := if m = 0 then l else l ++ [⟨d, k, m⟩]
def cancelL (l : List Entry) (d p : Int) : List Entry :=
  putL (putL (putL l d 4 (-faresOf l)) d 3 p) d 4 (max 0 (-dueOf (putL (putL l d 4 (-faresOf l)) d 3 p)))
/-- What Cancel answers. -/
def cancelE (l : List Entry) (d p : Int) : Int :=
  if checkFolio l ≠ 0 then checkFolio l else if p < 0 ∨ 100000000 < p then 3 else checkFolio (cancelL l d p)

theorem check_amounts {l : List Entry} (h : checkFolio l = 0) : ∀ x ∈ l, -100000000 ≤ x.amount ∧ x.amount ≤ 100000000 := by
  have hl := check_len h
  have h0 : firstErr (errAt l) l.length = 0 := by
    unfold checkFolio at h
    rw [if_neg (by omega)] at h
    by_cases e : firstErr (errAt l) l.length = 0
    · exact e
    · rw [if_pos e] at h; exact absurd h e
  have hall : ∀ n, firstErr (errAt l) n = 0 → ∀ i, i < n → errAt l i = 0 := by
    intro n
    induction n with
    | zero => intro _ i hi; omega
    | succ n ih =>
      intro h i hi
      simp only [firstErr] at h
      by_cases e : firstErr (errAt l) n = 0
      · rw [if_pos e] at h
        by_cases e2 : i = n
        · rw [e2]; exact h
        · exact ih e i (by omega)
      · rw [if_neg e] at h; exact absurd h e
  intro x hx
  obtain ⟨i, hi, rfl⟩ := List.getElem_of_mem hx
  have := hall _ h0 i hi
  unfold errAt at this
  have he : entryE (l[i]?.getD default) = 0 := by
    by_cases e : entryE (l[i]?.getD default) = 0
    · exact e
    · rw [if_pos e] at this; exact this
  rw [List.getElem?_eq_getElem hi, Option.getD_some] at he
  exact amountB_of_entry he

theorem sumBy_bd8 (p : Int → Bool) (l : List Entry) (h : ∀ x ∈ l, -100000000 ≤ x.amount ∧ x.amount ≤ 100000000) : -100000000 * (l.length : Int) ≤ sumBy p l ∧ sumBy p l ≤ 100000000 * (l.length : Int) := by
  induction l with
  | nil => simp [sumBy]
  | cons x l ih =>
    have h1 := h x (by simp)
    have h2 := ih fun y hy => h y (by simp [hy])
    simp only [sumBy, List.filter_cons] at h2 ⊢
    by_cases hp : p x.kind <;> simp [hp] <;> omega
theorem check_sum {l : List Entry} (h : checkFolio l = 0) (p : Int → Bool) : -1200000000 ≤ sumBy p l ∧ sumBy p l ≤ 1200000000 := by
  have := sumBy_bd8 p l (check_amounts h)
  have := check_len h
  omega

theorem putL_length (l : List Entry) (d k m : Int) : (putL l d k m).length ≤ l.length + 1 := by
  unfold putL; split <;> simp
theorem putL_small {l : List Entry} {d k m : Int} (h : ∀ x ∈ l, -10000000000 ≤ x.amount ∧ x.amount ≤ 10000000000) (h1 : -10000000000 ≤ m) (h2 : m ≤ 10000000000) : ∀ x ∈ putL l d k m, -10000000000 ≤ x.amount ∧ x.amount ≤ 10000000000 := by
  unfold putL
  split
  · exact h
  · intro x hx
    rcases List.mem_append.1 hx with hx | hx
    · exact h x hx
    · simp at hx; subst hx; exact ⟨h1, h2⟩

/-- The state of 'out' and 'day' between two calls of 'put'. -/
structure Puts (w : World) (O D : Nat) (d : Int) (l : List Entry) (W : World) (A : Option Addr) (n cap : Nat) (xs : List Value) : Prop where
  o : W.heap[O]? = some (.cells #[.slice A n cap] 22 (0, 0))
  d : W.heap[D]? = some (.cells #[.int .i64 d] 3 (0, 0))
  own : Own entryC 3 24 W w.heap.size (.slice A n cap) l xs
  ne : (Value.slice A n cap).ownBlock ≠ some O
  neD : (Value.slice A n cap).ownBlock ≠ some D
  od : O ≠ D
  b : Below w.heap.size w W
  le : w.heap.size ≤ O
  len : l.length ≤ 1000

theorem own_setCell_flat {c : Cod Entry} (hf : Flat c) {size : Nat} {e : TypeId} {w : World} {base : Nat} {v : Value} {l : List Entry} {xs : List Value} (h : Own c size e w base v l xs) {a : Addr} (ha : v.ownBlock ≠ some a.block) (u : Value) : Own c size e (w.setCell a u) base v l xs :=
  ⟨ownsRow_setCell_other h.row ha u, fun i x hx => by
    obtain ⟨cs, hc, r⟩ := h.el i x hx
    exact ⟨cs, hf _ _ _ _ _ _ hc, r⟩⟩

set_option maxHeartbeats 1000000 in
theorem put_any (w : World) (O D : Nat) (d : Int) (l : List Entry) (W : World) (A : Option Addr) (n cap : Nat) (xs : List Value) (k m : Int) (h : Puts w O D d l W A n cap xs) (hd : InI d) (hk : InI k) (hm : InI m) (hl : l.length ≤ 100) :
    Calls Try.prog 55 #[.int .i64 k, .int .i64 m, .pointer (some ⟨O, 0, none⟩), .pointer (some ⟨D, 0, none⟩)] W fun e W' => e = .returned (.tuple #[]) ∧ ∃ A' n' cap' xs', Puts w O D d (putL l d k m) W' A' n' cap' xs' := by
  have ho := cell_of_one h.o
  have hfo := free_of_one h.o
  have hdd := cell_of_one h.d
  have hO := lt_of_block h.o
  have hD := lt_of_block h.d
  by_cases hm0 : m = 0
  · subst hm0
    go_enter Try.func55, Try.ntmps55
    go_wp2_with fail
    go_end0
    exact ⟨rfl, A, n, cap, xs, h⟩
  · have hm1 : (m != 0) = true := by simpa using hm0
    have HL := Lib.hid hl
    have HP := Lib.hid (show putL l d k m = l ++ [⟨d, k, m⟩] from if_neg hm0)
    clear hm0 hl
    go_enter Try.func55, Try.ntmps55
    have hown := h.own.below entryC_good ((Below.refl W.heap.size W).alloc (Nat.le_refl _) (.cells #[.int .i64 d, .int .i64 k, .int .i64 m] 24))
    have hle := h.b.size
    go_wp2_with (at_builtin; refine list_app (t := 22) (e := 24) (bytes := 24) rfl (.tmp 8) (.tmp 13) rfl entry_elem entryC_good rfl hown rfl (sl_entry W All d k m 24 hd hk hm trivial) (fun _ _ hc => hc) (by have := HL.out; omega) (by omega) (by simp; omega) ?_; intro v2 w2 xs2 hown2 hg2 hat2; obtain ⟨A2, n2, cap2, rfl, hsl2⟩ := hown2.sl entryC_good; have hO2 := hg2.block O (by simp; omega) (fun e => h.ne e.symm); have hD2 := hg2.block D (by simp; omega) (fun e => h.neD e.symm); rw [Below.heap_alloc _ _ _ hO, h.o] at hO2; rw [Below.heap_alloc _ _ _ hD, h.d] at hD2; have ho2 := cell_of_one hO2; have hf2 := free_of_one hO2)
    go_end0
    rw [HP.out]
    have hz : W.heap.size < w2.heap.size := by have := hg2.size; simp at this; omega
    have hb2 : Below w.heap.size w w2 := (h.b.alloc hle _).grown hg2 (by simp; omega) (fun j hj => (h.own.lt j hj).1)
    have hne : (Value.slice A2 n2 cap2).ownBlock ≠ some O := by
      rcases hat2 with e | e <;> rw [e]
      · exact h.ne
      · intro he; injection he with he; simp at he; omega
    have hneD : (Value.slice A2 n2 cap2).ownBlock ≠ some D := by
      rcases hat2 with e | e <;> rw [e]
      · exact h.neD
      · intro he; injection he with he; simp at he; omega
    refine ⟨rfl, A2, n2, cap2, xs2, ⟨one_setCell hO2, ?_, own_setCell_flat entryC_flat hown2 hne _, hne, hneD, h.od, hb2.setCell (p := ⟨O, 0, none⟩) h.le _, h.le, ?_⟩⟩
    · exact (Below.heap_setCell _ _ _ _ (fun e => h.od e.symm)).trans hD2
    · rw [List.length_append]; have := HL.out; simp; omega

theorem sl_of_puts {w W : World} {O D : Nat} {d : Int} {l : List Entry} {A : Option Addr} {n cap : Nat} {xs : List Value} (h : Puts w O D d l W A n cap xs) : Sl entryC 3 W All A n cap l := by
  obtain ⟨A2, n2, cap2, he, hsl⟩ := h.own.sl entryC_good
  injection he with e1 e2 e3
  subst e1 e2 e3
  exact hsl.all entryC_good (by omega)

theorem Puts.below {w W W' : World} {O D : Nat} {d : Int} {l : List Entry} {A : Option Addr} {n cap : Nat} {xs : List Value} (h : Puts w O D d l W A n cap xs) (hb : Below W.heap.size W W') : Puts w O D d l W' A n cap xs :=
  ⟨(hb.block O (lt_of_block h.o)).trans h.o, (hb.block D (lt_of_block h.d)).trans h.d, h.own.below entryC_good hb, h.ne, h.neD, h.od, h.b.trans (hb.mono h.b.size), h.le, h.len⟩

set_option maxHeartbeats 4000000 in
theorem Cancel_any (A : Option Addr) (n cap : Nat) (l : List Entry) (d p : Int) (w : World) (h : Sl entryC 3 w All A n cap l) (hd : InI d) (hp : InI p) :
    Calls Try.prog 15 #[.slice A n cap, .int .i64 d, .int .i64 p] w fun e w' => ∃ v xs, e = .returned (.tuple #[v, .int .i64 (cancelE l d p)]) ∧
      Own entryC 3 24 w' w.heap.size v (okL (cancelE l d p) (cancelL l d p)) xs ∧ Below w.heap.size w w' := by
  have hb0 : Below w.heap.size w (w.alloc (.cells #[.int .i64 d] 3)) := (Below.refl _ _).alloc (Nat.le_refl _) _
  have hck := Check_any A n cap l _ (h.below entryC_good (by omega) hb0)
  have hlen := h.len
  obtain ⟨r, hr⟩ : ∃ r, r = checkFolio l := ⟨_, rfl⟩
  obtain ⟨ra, hra⟩ : ∃ ra, ra = cancelE l d p := ⟨_, rfl⟩
  rw [← hr] at hck
  rw [← hra]
  have HK := Lib.hid hck
  clear hck
  by_cases hr0 : r = 0
  · subst hr0
    have hl := check_len hr.symm
    by_cases hpr : p < 0 ∨ 100000000 < p
    · have he : ra = 3 := by rw [hra]; unfold cancelE; rw [if_neg (by rw [← hr]; simp), if_pos hpr]
      subst he
      clear hr hra hlen
      rcases hpr with hpr | hpr
      · go_enter Try.func15, Try.ntmps15
        go_wp2_with (go_at_call 20; refine HK.out.mono ?_; rintro e w' ⟨rfl, hb1⟩)
        go_ret2
        exact ⟨_, _, rfl, Own.nil _ _ _ _ _, hb0.trans (hb1.mono hb0.size)⟩
      · have hpr2 : ¬ p < 0 := by omega
        go_enter Try.func15, Try.ntmps15
        go_wp2_with (go_at_call 20; refine HK.out.mono ?_; rintro e w' ⟨rfl, hb1⟩)
        go_ret2
        exact ⟨_, _, rfl, Own.nil _ _ _ _ _, hb0.trans (hb1.mono hb0.size)⟩
    · have hp1 : 0 ≤ p := by omega
      have hp2 : p ≤ 100000000 := by omega
      have he : ra = checkFolio (cancelL l d p) := by rw [hra]; unfold cancelE; rw [if_neg (by rw [← hr]; simp), if_neg hpr]
      have HE := Lib.hid he
      have hsm := check_small hr.symm
      have hsum := check_sum hr.symm isFare
      have ham := check_amounts hr.symm
      have HL := Lib.hid (show cancelL l d p = putL (putL (putL l d 4 (-faresOf l)) d 3 p) d 4 (max 0 (-dueOf (putL (putL l d 4 (-faresOf l)) d 3 p))) from rfl)
      rw [show sumBy isFare l = faresOf l from rfl] at hsum
      have hn12 : n ≤ 12 := by omega
      have HLEN := Lib.hid hlen
      have HAM := Lib.hid ham
      have HL12 := Lib.hid hl
      clear hr hra he hlen hl hpr ham
      go_enter Try.func15, Try.ntmps15
      go_wp2_with fail
      refine HK.out.mono ?_
      rintro e w1 ⟨rfl, hb1⟩
      have hbb : Below w.heap.size w w1 := hb0.trans (hb1.mono hb0.size)
      have hD1 : w1.heap[w.heap.size]? = some (.cells #[.int .i64 d] 3 (0, 0)) := (hb1.block _ (by simp)).trans (heap_alloc_new w _)
      have hlt1 := lt_of_block hD1
      clear hb1
      go_wp2_with fail
      refine (Clone_entry _ _ _ l _ (h.below entryC_good (by omega) hbb) (by omega)).mono ?_
      rintro e w2 ⟨v, xs, rfl, hown, hb2⟩
      obtain ⟨A2, n2, cap2, rfl, hsl2⟩ := hown.sl entryC_good
      have hb2' := hbb.trans (hb2.mono hbb.size)
      have hz2 := hb2.size
      have hP : Puts w w2.heap.size w.heap.size d l (w2.alloc (.cells #[.slice A2 n2 cap2] 22)) A2 n2 cap2 xs :=
        ⟨heap_alloc_new _ _, (Below.heap_alloc _ _ _ (by omega)).trans ((hb2.block _ hlt1).trans hD1), (hown.mono entryC_good hbb.size).below entryC_good ((Below.refl _ _).alloc (Nat.le_refl _) _),
          fun e => by have := (hown.lt _ e).2; omega, fun e => by have := (hown.lt _ e).1; omega, by omega, hb2'.alloc hb2'.size _, by omega, by have := HL12.out; omega⟩
      clear hown hb2 hsl2 hb2'
      go_wp2_with fail
      refine (Fares_any _ _ _ l _ ((h.below entryC_good (by omega) hP.b)) hsm).mono ?_
      rintro e w3 ⟨rfl, hb3⟩
      have hP3 := hP.below hb3
      clear hP hb3
      go_wp2_with fail
      refine (put_any w _ _ d l _ _ _ _ _ 4 (-faresOf l) hP3 hd (.of (by omega) (by omega)) (.of (by omega) (by omega)) (by have := HL12.out; omega)).mono ?_
      rintro e w4 ⟨rfl, A4, n4, cap4, xs4, hP4⟩
      obtain ⟨l4, hl4⟩ : ∃ l4, l4 = putL l d 4 (-faresOf l) := ⟨_, rfl⟩
      rw [← hl4] at hP4
      have hlen4 : l4.length ≤ 13 := by have := putL_length l d 4 (-faresOf l); have := HL12.out; rw [hl4]; omega
      have hsm4 : ∀ x ∈ l4, -10000000000 ≤ x.amount ∧ x.amount ≤ 10000000000 := by rw [hl4]; exact putL_small (fun x hx => by have := HAM.out x hx; omega) (by omega) (by omega)
      have HL4 := Lib.hid hl4
      have HS4 := Lib.hid hsm4
      clear hl4 hsm4 hP3
      go_wp2_with fail
      refine (put_any w _ _ d l4 _ _ _ _ _ 3 p hP4 hd (.of (by omega) (by omega)) hp (by omega)).mono ?_
      rintro e w5 ⟨rfl, A5, n5, cap5, xs5, hP5⟩
      obtain ⟨l5, hl5⟩ : ∃ l5, l5 = putL l4 d 3 p := ⟨_, rfl⟩
      rw [← hl5] at hP5
      have hlen5 : l5.length ≤ 14 := by have := putL_length l4 d 3 p; rw [hl5]; omega
      have hsm5 : Small l5 := ⟨by omega, by rw [hl5]; exact putL_small HS4.out (by omega) (by omega)⟩
      have hdue : -10000000000000 ≤ dueOf l5 ∧ dueOf l5 ≤ 10000000000000 := hsm5.sum _
      have HL5 := Lib.hid hl5
      clear hl5 hP4 hlen4 HS4
      have ho5 := cell_of_one hP5.o
      go_wp2_with fail
      refine (Due_any _ _ _ l5 _ (sl_of_puts hP5) hsm5).mono ?_
      rintro e w6 ⟨rfl, hb6⟩
      have hP6 := hP5.below hb6
      clear hb6 hP5 ho5
      have Fin := Lib.hid (show ∀ q, q = max 0 (-dueOf l5) → putL l5 d 4 q = cancelL l d p from fun q hq => by rw [hq, HL.out, ← HL4.out, ← HL5.out])
      go_wp2_with fail
      all_goals
        refine (put_any w _ _ d l5 _ _ _ _ _ 4 _ hP6 hd (.of (by omega) (by omega)) (.of (by omega) (by omega)) (by omega)).mono ?_
        rintro e w7 ⟨rfl, A7, n7, cap7, xs7, hP7⟩
        have hP8 : Puts w w2.heap.size w.heap.size d (cancelL l d p) w7 A7 n7 cap7 xs7 := by
          first
            | (rw [← Fin.out 0 (by omega)]; exact hP7)
            | (rw [← Fin.out (-dueOf l5) (by omega)]; exact hP7)
        have ho8 := cell_of_one hP8.o
        have hlen8 := hP8.len
        have hsl8 := sl_of_puts hP8
        have hn8 := hsl8.len
        have hb8 := hP8.b
        have hn8' : n7 ≤ 1000000 := by omega
        have hW := With_any _ _ _ (cancelL l d p) none 0 0 [] w7 hsl8 (Sl.nil _ _ _ _) hn8' (by omega)
        rw [List.append_nil, ← HE.out] at hW
        have HW := Lib.hid hW
        clear hW hn8 hlen8 hP7 hP8 hP6 Fin
        go_wp2_with fail
        refine HW.out.mono ?_
        rintro e w9 ⟨v, xs, rfl, hown, hb9⟩
        go_wp2_with fail
        go_ret2
        exact ⟨_, _, rfl, hown.mono entryC_good hb8.size, hb8.trans (hb9.mono hb8.size)⟩
  · have hr' : (r != 0) = true := by simpa using hr0
    have hr2 : (r == 0) = false := by simpa using hr0
    have he : ra = r := by rw [hra]; unfold cancelE; rw [if_pos (by rw [← hr]; exact hr0)]; exact hr.symm
    subst he
    have HR := Lib.hid hr0
    clear hr hra hr0 hlen
    go_enter Try.func15, Try.ntmps15
    go_wp2_with (go_at_call 20; refine HK.out.mono ?_; rintro e w' ⟨rfl, hb1⟩)
    go_ret2
    exact ⟨_, _, rfl, by rw [okL_ne HR.out]; exact Own.nil _ _ _ _ _, hb0.trans (hb1.mono hb0.size)⟩
end Go.Proofs.Ytehebngkjfjkbaa
