/-
  Words, laws and contracts: FolioE, FolioF, FolioG, FolioH, SpanB.
-/
import Derived.Test.YtlablioefblmkaaGreatBun3
import Derived.LoopN
/-
  Folios: the contracts of Owed, With, Add.
-/
namespace Go.Proofs.YtlablioefblmkaaGreat
open Go.RowKit Go.Shelf

theorem sl_entry (w : World) (S : Nat → Prop) (d k m : Int) (t : TypeId) (hd : InI d) (hk : InI k) (hm : InI m) (hS : S w.heap.size) :
    Sl entryC 3 (w.alloc (.cells #[.int .i64 d, .int .i64 k, .int .i64 m] t)) S (some ⟨w.heap.size, 0, none⟩) 1 1 [⟨d, k, m⟩] :=
  Sl.lit1 w S t (⟨d, k, m⟩ : Entry) [.int .i64 d, .int .i64 k, .int .i64 m] ⟨rfl, hd, hk, hm⟩ hS

/-- A folio that Check lets by has few entries, none of which is great. -/
theorem check_len {l : List Entry} (h : checkFolio l = 0) : l.length ≤ 12 := by
  unfold checkFolio at h
  by_cases e : 12 < l.length
  · rw [if_pos e] at h; omega
  · omega
theorem check_small {l : List Entry} (h : checkFolio l = 0) : Small l := by
  have hl := check_len h
  refine small_of_check hl ?_
  unfold checkFolio at h
  rw [if_neg (by omega)] at h
  by_cases e : firstErr (errAt l) l.length = 0
  · exact e
  · rw [if_pos e] at h; exact absurd h e

theorem Owed_any (A : Option Addr) (n cap : Nat) (l : List Entry) (w : World) (h : Sl entryC 3 w All A n cap l) :
    Calls Tryz.prog 43 #[.slice A n cap] w fun e w' => e = .returned (.tuple #[.int .i64 (okI (checkFolio l) (dueOf l)), .int .i64 (checkFolio l)]) ∧ Below w.heap.size w w' := by
  have hck := Check_any A n cap l w h
  have hsm := check_small (l := l)
  generalize checkFolio l = r at *
  have HK := Lib.hid hck
  have HS := Lib.hid hsm
  clear hck hsm
  by_cases hr : r = 0
  · subst hr
    have hsm := HS.out rfl
    go_enter Tryz.func43, Tryz.ntmps43
    go_wp2_with (first | (go_at_call 107; refine HK.out.mono ?_; rintro e w' ⟨rfl, hb1⟩) | (go_at_call 96; refine (Due_any _ _ _ l _ (h.below entryC_good (by omega) hb1) hsm).mono ?_; rintro e w' ⟨rfl, hb2⟩))
    go_ret2
    exact ⟨rfl, hb1.trans (hb2.mono hb1.size)⟩
  · have hr' : (r != 0) = true := by simpa using hr
    have HR := Lib.hid hr
    clear hr
    go_enter Tryz.func43, Tryz.ntmps43
    go_wp2_with (go_at_call 107; refine HK.out.mono ?_; rintro e w' ⟨rfl, hb1⟩)
    go_ret2
    exact ⟨by rw [okI_ne HR.out]; rfl, hb1⟩

set_option maxHeartbeats 1000000 in
theorem With_any (A : Option Addr) (n cap : Nat) (l : List Entry) (B : Option Addr) (m cap2 : Nat) (l2 : List Entry) (w : World) (h : Sl entryC 3 w All A n cap l) (h2 : Sl entryC 3 w All B m cap2 l2) (hn : n ≤ 1000000) (hm : m ≤ 1000000) :
    Calls Tryz.prog 163 #[.slice A n cap, .slice B m cap2] w fun e w' => ∃ v xs, e = .returned (.tuple #[v, .int .i64 (checkFolio (l ++ l2))]) ∧
      Own entryC 3 77 w' w.heap.size v (okL (checkFolio (l ++ l2)) (l ++ l2)) xs ∧ Below w.heap.size w w' := by
  have hlen := Lib.hid h.len
  have hck := fun (W : World) (A : Option Addr) (n cap : Nat) => Check_any A n cap (l ++ l2) W
  generalize checkFolio (l ++ l2) = r at *
  have HK := Lib.hid hck
  clear hck
  go_enter Tryz.func163, Tryz.ntmps163
  go_wp2_with fail
  refine (Clone_entry _ _ _ l _ h (by omega)).mono ?_
  rintro e w1 ⟨v1, xs1, rfl, hown1, hb1⟩
  go_wp2_with (at_builtin; refine list_app (t := 40) (e := 77) (bytes := 24) rfl (.tmp 9) (.tmp 10) rfl entry_elem entryC_good rfl hown1 rfl (h2.below entryC_good (by omega) hb1) (fun _ _ hc => hc) (by rw [hlen.out]; omega) (by omega) hb1.size ?_; intro v2 w2 xs2 hown2 hg2 _; obtain ⟨A2, n2, cap3, rfl, hsl2⟩ := hown2.sl entryC_good)
  have hb2 : Below w.heap.size w w2 := below_app hb1 hown1 hg2 hb1.size
  have hsl3 := hsl2.all entryC_good (by omega)
  clear hg2 hsl2 hb1
  by_cases hr : r = 0
  · subst hr
    go_wp2_with (go_at_call 107; refine (HK.out _ _ _ _ hsl3).mono ?_; rintro e w' ⟨rfl, hb3⟩)
    go_ret2
    exact ⟨_, _, rfl, hown2.below entryC_good hb3, hb2.trans (hb3.mono hb2.size)⟩
  · have hr' : (r != 0) = true := by simpa using hr
    have HR := Lib.hid hr
    clear hr
    go_wp2_with (go_at_call 107; refine (HK.out _ _ _ _ hsl3).mono ?_; rintro e w' ⟨rfl, hb3⟩)
    go_ret2
    exact ⟨_, _, rfl, by rw [okL_ne HR.out]; exact Own.nil _ _ _ _ _, hb2.trans (hb3.mono hb2.size)⟩

/-- What Add answers. -/
def addE (l : List Entry) (x : Entry) : Int := if checkFolio l = 0 then checkFolio (l ++ [x]) else checkFolio l

set_option maxHeartbeats 1000000 in
theorem Add_any (A : Option Addr) (n cap : Nat) (l : List Entry) (d k m : Int) (w : World) (h : Sl entryC 3 w All A n cap l) (hd : InI d) (hk : InI k) (hm : InI m) :
    Calls Tryz.prog 97 #[.slice A n cap, .agg #[.int .i64 d, .int .i64 k, .int .i64 m]] w fun e w' => ∃ v xs, e = .returned (.tuple #[v, .int .i64 (addE l ⟨d, k, m⟩)]) ∧
      Own entryC 3 77 w' w.heap.size v (okL (addE l ⟨d, k, m⟩) (l ++ [⟨d, k, m⟩])) xs ∧ Below w.heap.size w w' := by
  have hb0 : Below w.heap.size w (w.alloc (.cells #[.int .i64 d, .int .i64 k, .int .i64 m] 77)) := (Below.refl _ _).alloc (Nat.le_refl _) _
  have hck := Check_any A n cap l _ (h.below entryC_good (by omega) hb0)
  have hlen := h.len
  obtain ⟨r, hr⟩ : ∃ r, r = checkFolio l := ⟨_, rfl⟩
  obtain ⟨ra, hra⟩ : ∃ ra, ra = addE l ⟨d, k, m⟩ := ⟨_, rfl⟩
  rw [← hr] at hck
  rw [← hra]
  have HK := Lib.hid hck
  clear hck
  by_cases hr0 : r = 0
  · subst hr0
    have hl := check_len hr.symm
    have he : ra = checkFolio (l ++ [⟨d, k, m⟩]) := by rw [hra]; unfold addE; rw [if_pos hr.symm]
    have HE := Lib.hid he
    have hn12 : n ≤ 12 := by omega
    clear hr hra he hlen hl
    go_enter Tryz.func97, Tryz.ntmps97
    go_wp2_with fail
    refine HK.out.mono ?_
    rintro e w1 ⟨rfl, hb1⟩
    have hx0 : w1.cell? ⟨w.heap.size, 0, none⟩ = some (.int .i64 d) := (hb1.cell (p := ⟨w.heap.size, 0, none⟩) (by simp)).trans (by simp)
    have hx1 : w1.cell? ⟨w.heap.size, 1, none⟩ = some (.int .i64 k) := (hb1.cell (p := ⟨w.heap.size, 1, none⟩) (by simp)).trans (by simp)
    have hx2 : w1.cell? ⟨w.heap.size, 2, none⟩ = some (.int .i64 m) := (hb1.cell (p := ⟨w.heap.size, 2, none⟩) (by simp)).trans (by simp)
    have hbb : Below w.heap.size w w1 := hb0.trans (hb1.mono hb0.size)
    clear hb1
    go_wp2_with fail
    have hW := With_any _ _ _ l _ _ _ [⟨d, k, m⟩] _ (h.below entryC_good (by omega) (hbb.alloc hbb.size _)) (sl_entry w1 All d k m 77 hd hk hm trivial) (by omega) (by omega)
    rw [← HE.out] at hW
    refine hW.mono ?_
    rintro e w2 ⟨v, xs, rfl, hown, hb2⟩
    have hb3 := (hbb.alloc hbb.size (.cells #[.int .i64 d, .int .i64 k, .int .i64 m] 77))
    go_wp2_with fail
    go_ret2
    exact ⟨_, _, rfl, hown.mono entryC_good hb3.size, hb3.trans (hb2.mono hb3.size)⟩
  · have hr' : (r != 0) = true := by simpa using hr0
    have he : ra = r := by rw [hra]; unfold addE; rw [if_neg (by rw [← hr]; exact hr0)]; exact hr.symm
    subst he
    have HR := Lib.hid hr0
    clear hr hra hr0 hlen
    go_enter Tryz.func97, Tryz.ntmps97
    go_wp2_with (go_at_call 107; refine HK.out.mono ?_; rintro e w' ⟨rfl, hb1⟩)
    go_ret2
    exact ⟨_, _, rfl, by rw [okL_ne HR.out]; exact Own.nil _ _ _ _ _, hb0.trans (hb1.mono hb0.size)⟩
end Go.Proofs.YtlablioefblmkaaGreat
/-
  Folios: the contract of Cancel.
-/
namespace Go.Proofs.YtlablioefblmkaaGreat
open Go.RowKit Go.Shelf

/-- One entry more, if its amount is not 0. -/
def putL (l : List Entry) (d k m : Int) : List Entry := if m = 0 then l else l ++ [⟨d, k, m⟩]
def cancelL (l : List Entry) (d p : Int) : List Entry :=
  putL (putL (putL l d 4 (-faresOf l)) d 3 p) d 4 (max 0 (-dueOf (putL (putL l d 4 (-faresOf l)) d 3 p)))
/-- What Cancel answers. -/
def cancelE (l : List Entry) (d p : Int) : Int :=
  if checkFolio l ≠ 0 then checkFolio l else if p < 0 ∨ 100000000 < p then 3 else checkFolio (cancelL l d p)

theorem check_amounts {l : List Entry} (h : checkFolio l = 0) : ∀ x ∈ l, -100000000 ≤ x.amount ∧ x.amount ≤ 100000000 := by
  have hl := check_len h
  have h0 : firstErr (errAt l) l.length = 0 := by
    unfold checkFolio at h
    rw [if_neg (by omega)] at h
    by_cases e : firstErr (errAt l) l.length = 0
    · exact e
    · rw [if_pos e] at h; exact absurd h e
  have hall : ∀ n, firstErr (errAt l) n = 0 → ∀ i, i < n → errAt l i = 0 := by
    intro n
    induction n with
    | zero => intro _ i hi; omega
    | succ n ih =>
      intro h i hi
      simp only [firstErr] at h
      by_cases e : firstErr (errAt l) n = 0
      · rw [if_pos e] at h
        by_cases e2 : i = n
        · rw [e2]; exact h
        · exact ih e i (by omega)
      · rw [if_neg e] at h; exact absurd h e
  intro x hx
  obtain ⟨i, hi, rfl⟩ := List.getElem_of_mem hx
  have := hall _ h0 i hi
  unfold errAt at this
  have he : entryE (l[i]?.getD default) = 0 := by
    by_cases e : entryE (l[i]?.getD default) = 0
    · exact e
    · rw [if_pos e] at this; exact this
  rw [List.getElem?_eq_getElem hi, Option.getD_some] at he
  exact amountB_of_entry he

theorem sumBy_bd8 (p : Int → Bool) (l : List Entry) (h : ∀ x ∈ l, -100000000 ≤ x.amount ∧ x.amount ≤ 100000000) : -100000000 * (l.length : Int) ≤ sumBy p l ∧ sumBy p l ≤ 100000000 * (l.length : Int) := by
  induction l with
  | nil => simp [sumBy]
  | cons x l ih =>
    have h1 := h x (by simp)
    have h2 := ih fun y hy => h y (by simp [hy])
    simp only [sumBy, List.filter_cons] at h2 ⊢
    by_cases hp : p x.kind <;> simp [hp] <;> omega
theorem check_sum {l : List Entry} (h : checkFolio l = 0) (p : Int → Bool) : -1200000000 ≤ sumBy p l ∧ sumBy p l ≤ 1200000000 := by
  have := sumBy_bd8 p l (check_amounts h)
  have := check_len h
  omega

theorem putL_length (l : List Entry) (d k m : Int) : (putL l d k m).length ≤ l.length + 1 := by
  unfold putL; split <;> simp
theorem putL_small {l : List Entry} {d k m : Int} (h : ∀ x ∈ l, -10000000000 ≤ x.amount ∧ x.amount ≤ 10000000000) (h1 : -10000000000 ≤ m) (h2 : m ≤ 10000000000) : ∀ x ∈ putL l d k m, -10000000000 ≤ x.amount ∧ x.amount ≤ 10000000000 := by
  unfold putL
  split
  · exact h
  · intro x hx
    rcases List.mem_append.1 hx with hx | hx
    · exact h x hx
    · simp at hx; subst hx; exact ⟨h1, h2⟩

/-- The state of 'out' and 'day' between two calls of 'put'. -/
structure Puts (w : World) (O D : Nat) (d : Int) (l : List Entry) (W : World) (A : Option Addr) (n cap : Nat) (xs : List Value) : Prop where
  o : W.heap[O]? = some (.cells #[.slice A n cap] 40 (0, 0))
  d : W.heap[D]? = some (.cells #[.int .i64 d] 3 (0, 0))
  own : Own entryC 3 77 W w.heap.size (.slice A n cap) l xs
  ne : (Value.slice A n cap).ownBlock ≠ some O
  neD : (Value.slice A n cap).ownBlock ≠ some D
  od : O ≠ D
  b : Below w.heap.size w W
  le : w.heap.size ≤ O
  len : l.length ≤ 1000

set_option maxHeartbeats 1000000 in
theorem put_any (w : World) (O D : Nat) (d : Int) (l : List Entry) (W : World) (A : Option Addr) (n cap : Nat) (xs : List Value) (k m : Int) (h : Puts w O D d l W A n cap xs) (hd : InI d) (hk : InI k) (hm : InI m) (hl : l.length ≤ 100) :
    Calls Tryz.prog 169 #[.int .i64 k, .int .i64 m, .pointer (some ⟨O, 0, none⟩), .pointer (some ⟨D, 0, none⟩)] W fun e W' => e = .returned (.tuple #[]) ∧ ∃ A' n' cap' xs', Puts w O D d (putL l d k m) W' A' n' cap' xs' := by
  have ho := cell_of_one h.o
  have hfo := free_of_one h.o
  have hdd := cell_of_one h.d
  have hO := lt_of_block h.o
  have hD := lt_of_block h.d
  by_cases hm0 : m = 0
  · subst hm0
    go_enter Tryz.func169, Tryz.ntmps169
    go_wp2_with fail
    go_end0
    exact ⟨rfl, A, n, cap, xs, h⟩
  · have hm1 : (m != 0) = true := by simpa using hm0
    have HL := Lib.hid hl
    have HP := Lib.hid (show putL l d k m = l ++ [⟨d, k, m⟩] from if_neg hm0)
    clear hm0 hl
    go_enter Tryz.func169, Tryz.ntmps169
    have hown := h.own.below entryC_good ((Below.refl W.heap.size W).alloc (Nat.le_refl _) (.cells #[.int .i64 d, .int .i64 k, .int .i64 m] 77))
    have hle := h.b.size
    go_wp2_with (at_builtin; refine list_app (t := 40) (e := 77) (bytes := 24) rfl (.tmp 8) (.tmp 13) rfl entry_elem entryC_good rfl hown rfl (sl_entry W All d k m 77 hd hk hm trivial) (fun _ _ hc => hc) (by have := HL.out; omega) (by omega) (by simp; omega) ?_; intro v2 w2 xs2 hown2 hg2 hat2; obtain ⟨A2, n2, cap2, rfl, hsl2⟩ := hown2.sl entryC_good; have hO2 := hg2.block O (by simp; omega) (fun e => h.ne e.symm); have hD2 := hg2.block D (by simp; omega) (fun e => h.neD e.symm); rw [Below.heap_alloc _ _ _ hO, h.o] at hO2; rw [Below.heap_alloc _ _ _ hD, h.d] at hD2; have ho2 := cell_of_one hO2; have hf2 := free_of_one hO2)
    go_end0
    rw [HP.out]
    have hz : W.heap.size < w2.heap.size := by have := hg2.size; simp at this; omega
    have hb2 : Below w.heap.size w w2 := (h.b.alloc hle _).grown hg2 (by simp; omega) (fun j hj => (h.own.lt j hj).1)
    have hne : (Value.slice A2 n2 cap2).ownBlock ≠ some O := by
      rcases hat2 with e | e <;> rw [e]
      · exact h.ne
      · intro he; injection he with he; simp at he; omega
    have hneD : (Value.slice A2 n2 cap2).ownBlock ≠ some D := by
      rcases hat2 with e | e <;> rw [e]
      · exact h.neD
      · intro he; injection he with he; simp at he; omega
    refine ⟨rfl, A2, n2, cap2, xs2, ⟨one_setCell hO2, ?_, own_setCell_flat entryC_flat hown2 hne _, hne, hneD, h.od, hb2.setCell (p := ⟨O, 0, none⟩) h.le _, h.le, ?_⟩⟩
    · exact (Below.heap_setCell _ _ _ _ (fun e => h.od e.symm)).trans hD2
    · rw [List.length_append]; have := HL.out; simp; omega

theorem sl_of_puts {w W : World} {O D : Nat} {d : Int} {l : List Entry} {A : Option Addr} {n cap : Nat} {xs : List Value} (h : Puts w O D d l W A n cap xs) : Sl entryC 3 W All A n cap l := by
  obtain ⟨A2, n2, cap2, he, hsl⟩ := h.own.sl entryC_good
  injection he with e1 e2 e3
  subst e1 e2 e3
  exact hsl.all entryC_good (by omega)

theorem Puts.below {w W W' : World} {O D : Nat} {d : Int} {l : List Entry} {A : Option Addr} {n cap : Nat} {xs : List Value} (h : Puts w O D d l W A n cap xs) (hb : Below W.heap.size W W') : Puts w O D d l W' A n cap xs :=
  ⟨(hb.block O (lt_of_block h.o)).trans h.o, (hb.block D (lt_of_block h.d)).trans h.d, h.own.below entryC_good hb, h.ne, h.neD, h.od, h.b.trans (hb.mono h.b.size), h.le, h.len⟩

set_option maxHeartbeats 4000000 in
theorem Cancel_any (A : Option Addr) (n cap : Nat) (l : List Entry) (d p : Int) (w : World) (h : Sl entryC 3 w All A n cap l) (hd : InI d) (hp : InI p) :
    Calls Tryz.prog 106 #[.slice A n cap, .int .i64 d, .int .i64 p] w fun e w' => ∃ v xs, e = .returned (.tuple #[v, .int .i64 (cancelE l d p)]) ∧
      Own entryC 3 77 w' w.heap.size v (okL (cancelE l d p) (cancelL l d p)) xs ∧ Below w.heap.size w w' := by
  have hb0 : Below w.heap.size w (w.alloc (.cells #[.int .i64 d] 3)) := (Below.refl _ _).alloc (Nat.le_refl _) _
  have hck := Check_any A n cap l _ (h.below entryC_good (by omega) hb0)
  have hlen := h.len
  obtain ⟨r, hr⟩ : ∃ r, r = checkFolio l := ⟨_, rfl⟩
  obtain ⟨ra, hra⟩ : ∃ ra, ra = cancelE l d p := ⟨_, rfl⟩
  rw [← hr] at hck
  rw [← hra]
  have HK := Lib.hid hck
  clear hck
  by_cases hr0 : r = 0
  · subst hr0
    have hl := check_len hr.symm
    by_cases hpr : p < 0 ∨ 100000000 < p
    · have he : ra = 3 := by rw [hra]; unfold cancelE; rw [if_neg (by rw [← hr]; simp), if_pos hpr]
      subst he
      clear hr hra hlen
      rcases hpr with hpr | hpr
      · go_enter Tryz.func106, Tryz.ntmps106
        go_wp2_with (go_at_call 107; refine HK.out.mono ?_; rintro e w' ⟨rfl, hb1⟩)
        go_ret2
        exact ⟨_, _, rfl, Own.nil _ _ _ _ _, hb0.trans (hb1.mono hb0.size)⟩
      · have hpr2 : ¬ p < 0 := by omega
        go_enter Tryz.func106, Tryz.ntmps106
        go_wp2_with (go_at_call 107; refine HK.out.mono ?_; rintro e w' ⟨rfl, hb1⟩)
        go_ret2
        exact ⟨_, _, rfl, Own.nil _ _ _ _ _, hb0.trans (hb1.mono hb0.size)⟩
    · have hp1 : 0 ≤ p := by omega
      have hp2 : p ≤ 100000000 := by omega
      have he : ra = checkFolio (cancelL l d p) := by rw [hra]; unfold cancelE; rw [if_neg (by rw [← hr]; simp), if_neg hpr]
      have HE := Lib.hid he
      have hsm := check_small hr.symm
      have hsum := check_sum hr.symm isFare
      have ham := check_amounts hr.symm
      have HL := Lib.hid (show cancelL l d p = putL (putL (putL l d 4 (-faresOf l)) d 3 p) d 4 (max 0 (-dueOf (putL (putL l d 4 (-faresOf l)) d 3 p))) from rfl)
      rw [show sumBy isFare l = faresOf l from rfl] at hsum
      have hn12 : n ≤ 12 := by omega
      have HLEN := Lib.hid hlen
      have HAM := Lib.hid ham
      have HL12 := Lib.hid hl
      clear hr hra he hlen hl hpr ham
      go_enter Tryz.func106, Tryz.ntmps106
      go_wp2_with fail
      refine HK.out.mono ?_
      rintro e w1 ⟨rfl, hb1⟩
      have hbb : Below w.heap.size w w1 := hb0.trans (hb1.mono hb0.size)
      have hD1 : w1.heap[w.heap.size]? = some (.cells #[.int .i64 d] 3 (0, 0)) := (hb1.block _ (by simp)).trans (heap_alloc_new w _)
      have hlt1 := lt_of_block hD1
      clear hb1
      go_wp2_with fail
      refine (Clone_entry _ _ _ l _ (h.below entryC_good (by omega) hbb) (by omega)).mono ?_
      rintro e w2 ⟨v, xs, rfl, hown, hb2⟩
      obtain ⟨A2, n2, cap2, rfl, hsl2⟩ := hown.sl entryC_good
      have hb2' := hbb.trans (hb2.mono hbb.size)
      have hz2 := hb2.size
      have hP : Puts w w2.heap.size w.heap.size d l (w2.alloc (.cells #[.slice A2 n2 cap2] 40)) A2 n2 cap2 xs :=
        ⟨heap_alloc_new _ _, (Below.heap_alloc _ _ _ (by omega)).trans ((hb2.block _ hlt1).trans hD1), (hown.mono entryC_good hbb.size).below entryC_good ((Below.refl _ _).alloc (Nat.le_refl _) _),
          fun e => by have := (hown.lt _ e).2; omega, fun e => by have := (hown.lt _ e).1; omega, by omega, hb2'.alloc hb2'.size _, by omega, by have := HL12.out; omega⟩
      clear hown hb2 hsl2 hb2'
      go_wp2_with fail
      refine (Fares_any _ _ _ l _ ((h.below entryC_good (by omega) hP.b)) hsm).mono ?_
      rintro e w3 ⟨rfl, hb3⟩
      have hP3 := hP.below hb3
      clear hP hb3
      go_wp2_with fail
      refine (put_any w _ _ d l _ _ _ _ _ 4 (-faresOf l) hP3 hd (.of (by omega) (by omega)) (.of (by omega) (by omega)) (by have := HL12.out; omega)).mono ?_
      rintro e w4 ⟨rfl, A4, n4, cap4, xs4, hP4⟩
      obtain ⟨l4, hl4⟩ : ∃ l4, l4 = putL l d 4 (-faresOf l) := ⟨_, rfl⟩
      rw [← hl4] at hP4
      have hlen4 : l4.length ≤ 13 := by have := putL_length l d 4 (-faresOf l); have := HL12.out; rw [hl4]; omega
      have hsm4 : ∀ x ∈ l4, -10000000000 ≤ x.amount ∧ x.amount ≤ 10000000000 := by rw [hl4]; exact putL_small (fun x hx => by have := HAM.out x hx; omega) (by omega) (by omega)
      have HL4 := Lib.hid hl4
      have HS4 := Lib.hid hsm4
      clear hl4 hsm4 hP3
      go_wp2_with fail
      refine (put_any w _ _ d l4 _ _ _ _ _ 3 p hP4 hd (.of (by omega) (by omega)) hp (by omega)).mono ?_
      rintro e w5 ⟨rfl, A5, n5, cap5, xs5, hP5⟩
      obtain ⟨l5, hl5⟩ : ∃ l5, l5 = putL l4 d 3 p := ⟨_, rfl⟩
      rw [← hl5] at hP5
      have hlen5 : l5.length ≤ 14 := by have := putL_length l4 d 3 p; rw [hl5]; omega
      have hsm5 : Small l5 := ⟨by omega, by rw [hl5]; exact putL_small HS4.out (by omega) (by omega)⟩
      have hdue : -10000000000000 ≤ dueOf l5 ∧ dueOf l5 ≤ 10000000000000 := hsm5.sum _
      have HL5 := Lib.hid hl5
      clear hl5 hP4 hlen4 HS4
      have ho5 := cell_of_one hP5.o
      go_wp2_with fail
      refine (Due_any _ _ _ l5 _ (sl_of_puts hP5) hsm5).mono ?_
      rintro e w6 ⟨rfl, hb6⟩
      have hP6 := hP5.below hb6
      clear hb6 hP5 ho5
      have Fin := Lib.hid (show ∀ q, q = max 0 (-dueOf l5) → putL l5 d 4 q = cancelL l d p from fun q hq => by rw [hq, HL.out, ← HL4.out, ← HL5.out])
      go_wp2_with fail
      all_goals
        refine (put_any w _ _ d l5 _ _ _ _ _ 4 _ hP6 hd (.of (by omega) (by omega)) (.of (by omega) (by omega)) (by omega)).mono ?_
        rintro e w7 ⟨rfl, A7, n7, cap7, xs7, hP7⟩
        have hP8 : Puts w w2.heap.size w.heap.size d (cancelL l d p) w7 A7 n7 cap7 xs7 := by
          first
            | (rw [← Fin.out 0 (by omega)]; exact hP7)
            | (rw [← Fin.out (-dueOf l5) (by omega)]; exact hP7)
        have ho8 := cell_of_one hP8.o
        have hlen8 := hP8.len
        have hsl8 := sl_of_puts hP8
        have hn8 := hsl8.len
        have hb8 := hP8.b
        have hn8' : n7 ≤ 1000000 := by omega
        have hW := With_any _ _ _ (cancelL l d p) none 0 0 [] w7 hsl8 (Sl.nil _ _ _ _) hn8' (by omega)
        rw [List.append_nil, ← HE.out] at hW
        have HW := Lib.hid hW
        clear hW hn8 hlen8 hP7 hP8 hP6 Fin
        go_wp2_with fail
        refine HW.out.mono ?_
        rintro e w9 ⟨v, xs, rfl, hown, hb9⟩
        go_wp2_with fail
        go_ret2
        exact ⟨_, _, rfl, hown.mono entryC_good hb8.size, hb8.trans (hb9.mono hb8.size)⟩
  · have hr' : (r != 0) = true := by simpa using hr0
    have hr2 : (r == 0) = false := by simpa using hr0
    have he : ra = r := by rw [hra]; unfold cancelE; rw [if_pos (by rw [← hr]; exact hr0)]; exact hr.symm
    subst he
    have HR := Lib.hid hr0
    clear hr hra hr0 hlen
    go_enter Tryz.func106, Tryz.ntmps106
    go_wp2_with (go_at_call 107; refine HK.out.mono ?_; rintro e w' ⟨rfl, hb1⟩)
    go_ret2
    exact ⟨_, _, rfl, by rw [okL_ne HR.out]; exact Own.nil _ _ _ _ _, hb0.trans (hb1.mono hb0.size)⟩
end Go.Proofs.YtlablioefblmkaaGreat
/-
  Folios: the references SumOf, CheckFolio, SameFolio.
-/
namespace Go.Proofs.YtlablioefblmkaaGreat
open Go.RowKit Go.Shelf

/-- Entries of a kind (0: all). -/
def kindB (k : Int) (x : Int) : Bool := k == 0 || x == k
def sumOfK (l : List Entry) (k : Int) : Int := sumBy (kindB k) l
theorem sumOfK_zero (l : List Entry) : sumOfK l 0 = dueOf l := by unfold sumOfK dueOf; congr 1

theorem Sl.takeTo {α : Type} {c : Cod α} {size : Nat} {w : World} {S : Nat → Prop} {A : Option Addr} {n cap : Nat} {l : List α} (h : Sl c size w S A n cap l) {i : Nat} (hi : i ≤ n) : Sl c size w S A i cap (l.take i) := by
  have := h.len
  have := h.le
  refine ⟨by rw [List.length_take]; omega, by omega, h.max, fun j x hx => ?_⟩
  have hj : j < i := by
    rcases Nat.lt_or_ge j i with h1 | h1
    · exact h1
    · rw [List.getElem?_eq_none (by rw [List.length_take]; omega)] at hx; cases hx
  rw [List.getElem?_take, if_pos hj] at hx
  exact h.rd j x hx

set_option maxHeartbeats 1000000 in
theorem SumOf_any (A : Option Addr) (n cap : Nat) (l : List Entry) (q : Int) (w : World) (h : Sl entryC 3 w All A n cap l) (hs : Small l) :
    Calls Tryz.prog 103 #[.slice A n cap, .int .i64 q] w fun e w' => e = .returned (.int .i64 (sumOfK l q)) ∧ w = w' := by
  have hbd := h.bd
  go_enter Tryz.func103, Tryz.ntmps103
  go_wp2_with fail
  go_loopg [5, 6] n (fun gk s i wr => ∃ k : Nat, k ≤ n ∧ n - k ≤ gk ∧ i = .int .i64 k ∧ s = .int .i64 (sumOfK (l.take k) q) ∧ wr = w)
  case atStart => exact ⟨0, Nat.zero_le _, by omega, rfl, rfl, rfl⟩
  case round =>
    obtain ⟨k, hk, hgk, rfl, rfl, rfl⟩ := hrel
    by_cases hlt : k < n
    · obtain ⟨b, off, x, c0, c1, c2, rfl, hx, ⟨hc, b0, b1, b2⟩, g0, g1, g2⟩ := h.at3 hlt
      simp only [List.cons.injEq, and_true] at hc
      obtain ⟨rfl, rfl, rfl⟩ := hc
      have s1 : -10000000000000 ≤ sumOfK (l.take k) q ∧ sumOfK (l.take k) q ≤ 10000000000000 := hs.take k (kindB q)
      have HS : Hid (sumOfK (l.take (k + 1)) q = sumOfK (l.take k) q + if kindB q x.kind then x.amount else 0) := by
        have := sumBy_snoc (kindB q) (l.take k) x
        rw [← take_snoc hx] at this
        exact this
      have s3 := hs.2 x (List.mem_of_getElem? hx)
      clear hx
      by_cases hq : q = 0
      · subst hq
        go_wp2_with fail
        go_roundg (n - (k + 1))
        case measure => omega
        case rel => exact ⟨k + 1, by omega, by omega, by go_num, by rw [HS.out]; rfl, rfl⟩
      · have hq' : (q == 0) = false := by simpa using hq
        by_cases hkd : x.kind = q
        · have hkd' : (x.kind == q) = true := by simpa using hkd
          have HB : Hid (kindB q x.kind = true) := by show kindB q x.kind = true; unfold kindB; rw [hq', hkd']; rfl
          clear hkd
          go_wp2_with fail
          go_roundg (n - (k + 1))
          case measure => omega
          case rel => exact ⟨k + 1, by omega, by omega, by go_num, by rw [HS.out, HB.out]; rfl, rfl⟩
        · have hkd' : (x.kind == q) = false := by simpa using hkd
          have HB : Hid (kindB q x.kind = false) := by show kindB q x.kind = false; unfold kindB; rw [hq', hkd']; rfl
          clear hkd
          go_wp2_with fail
          go_roundg (n - (k + 1))
          case measure => omega
          case rel => exact ⟨k + 1, by omega, by omega, by go_num, by rw [HS.out, HB.out]; simp, rfl⟩
    · obtain rfl : k = n := by omega
      have HT := Lib.hid (List.take_of_length_le (Nat.le_of_eq h.len))
      go_wp2_with fail
      go_ret
      exact ⟨retI (by rw [HT.out]), rfl⟩

theorem entry_under : Tryz.prog.underlying 77 = some (.struct (Tryz.prog.fieldsOf 77)) := by kernel_rfl
theorem entry_stood : Tryz.prog.stoodInHeld 77 = false := by kernel_rfl
theorem entry_guard : Tryz.prog.eqGuardType Tryz.prog.depth 77 = false := by kernel_rfl
theorem neq_entry (a b c d e f : Int) (w : World) : (binOp .neq 77 (.agg #[.int .i64 a, .int .i64 b, .int .i64 c]) (.agg #[.int .i64 d, .int .i64 e, .int .i64 f])).run Tryz.prog w = .ok (.bool (!(a == d && b == e && c == f))) w := by
  have u3 := Tryz.underlying3
  have a3 := Tryz.isAgg3
  have z3 := Tryz.sizeOf3
  rw [run_neq_struct, run_equalIn_agg (P := Tryz.prog) w 9999 77 _ _ entry_under entry_stood]
  simp only [Program.fieldsOf, Tryz.underlying77]
  go_simp
  by_cases h1 : a = d <;> by_cases h2 : b = e <;> by_cases h3 : c = f <;> simp [h1, h2, h3]

theorem entry_ne {x y : Entry} (h : ¬ x = y) : (!(x.day == y.day && x.kind == y.kind && x.amount == y.amount)) = true := by
  rcases x with ⟨a, b, c⟩
  rcases y with ⟨d, e, f⟩
  simp at h ⊢
  omega

set_option maxHeartbeats 1000000 in
theorem SameFolio_any (A B : Option Addr) (n cap m cap2 : Nat) (l l2 : List Entry) (w : World) (h : Sl entryC 3 w All A n cap l) (h2 : Sl entryC 3 w All B m cap2 l2) :
    Calls Tryz.prog 113 #[.slice A n cap, .slice B m cap2] w fun e w' => e = .returned (.bool (decide (l = l2))) ∧ ∃ q, w' = w.drewN q := by
  have hbd := h.bd
  have hlen := Lib.hid h.len
  have hlen2 := Lib.hid h2.len
  by_cases hnm : n = m
  · subst hnm
    go_enter Tryz.func113, Tryz.ntmps113
    go_wp2_with fail
    go_loopg [5] n (fun gk i wr => ∃ k q : Nat, k ≤ n ∧ n - k ≤ gk ∧ i = .int .i64 k ∧ Aside (∀ j, j < k → l[j]? = l2[j]?) ∧ wr = w.drewN q)
    case atStart => exact ⟨0, 0, Nat.zero_le _, by omega, rfl, fun j hj => absurd hj (by omega), rfl⟩
    case round =>
      obtain ⟨k, q, hk, hgk, rfl, HE, rfl⟩ := hrel
      by_cases hlt : k < n
      · obtain ⟨b, off, x, c0, c1, c2, rfl, hx, ⟨hc, b0, b1, b2⟩, g0, g1, g2⟩ := h.at3 hlt
        simp only [List.cons.injEq, and_true] at hc
        obtain ⟨rfl, rfl, rfl⟩ := hc
        obtain ⟨b', off', y, d0, d1, d2, rfl, hy, ⟨hd, b0', b1', b2'⟩, g0', g1', g2'⟩ := h2.at3 hlt
        simp only [List.cons.injEq, and_true] at hd
        obtain ⟨rfl, rfl, rfl⟩ := hd
        have HX := Lib.hid hx
        have HY := Lib.hid hy
        clear hx hy
        have q1 := entry_guard
        have q2 := neq_entry
        by_cases hxy : x = y
        · have he : (!(x.day == y.day && x.kind == y.kind && x.amount == y.amount)) = false := by subst hxy; simp
          have HXY := Lib.hid hxy
          clear hxy
          go_wp2_with fail
          go_quiet (fail)
          go_wp2_with fail
          go_roundg (n - (k + 1))
          case measure => omega
          case rel =>
            refine ⟨k + 1, _, by omega, by omega, by go_num, (show Aside _ from fun j hj => ?_), rfl⟩
            by_cases e : j = k
            · subst e; rw [HX.out, HY.out, HXY.out]
            · exact HE.out j (by omega)
        · have he : (!(x.day == y.day && x.kind == y.kind && x.amount == y.amount)) = true := by
            exact entry_ne hxy
          have HXY := Lib.hid hxy
          clear hxy
          go_wp2_with fail
          go_quiet (fail)
          go_wp2_with fail
          go_ret
          refine ⟨retB ?_, _, World.drewN_drewN _ _ _⟩
          symm
          rw [decide_eq_false_iff_not]
          intro hll
          subst hll
          rw [HX.out] at HY
          exact HXY.out (by have := HY.out; injection this)
      · obtain rfl : k = n := by omega
        have hll : l = l2 := by
          apply List.ext_getElem?
          intro j
          by_cases hj : j < k
          · exact HE.out j hj
          · rw [List.getElem?_eq_none (by rw [hlen.out]; omega), List.getElem?_eq_none (by rw [hlen2.out]; omega)]
        have HLL := Lib.hid hll
        clear hll
        go_wp2_with fail
        go_ret
        exact ⟨retB (by rw [decide_eq_true HLL.out]), _, rfl⟩
  · have hnm' : ((n : Int) != (m : Int)) = true := by simp; omega
    have hll : ¬ l = l2 := fun e => hnm (by rw [← hlen.out, ← hlen2.out, e])
    have HLL := Lib.hid hll
    clear hll hnm
    go_enter Tryz.func113, Tryz.ntmps113
    go_wp2_with fail
    go_ret
    exact ⟨retB (by rw [decide_eq_false HLL.out]), 0, rfl⟩

end Go.Proofs.YtlablioefblmkaaGreat
/-
  Folios: the reference CheckFolio.
-/
namespace Go.Proofs.YtlablioefblmkaaGreat
open Go.RowKit Go.Shelf

theorem entryE_7 {x : Entry} (h : x.kind < 1 ∨ 4 < x.kind) : entryE x = 7 := if_pos h
theorem entryE_3 {x : Entry} (h : ¬ (x.kind < 1 ∨ 4 < x.kind)) (h2 : x.day < 0 ∨ 9999 < x.day ∨ x.amount < -100000000 ∨ 100000000 < x.amount) : entryE x = 3 := by
  unfold entryE; rw [if_neg h, if_pos h2]
theorem entryE_4 {x : Entry} (h : ¬ (x.kind < 1 ∨ 4 < x.kind)) (h2 : ¬ (x.day < 0 ∨ 9999 < x.day ∨ x.amount < -100000000 ∨ 100000000 < x.amount))
    (h3 : x.amount < 0 ∧ (x.kind = 1 ∨ x.kind = 3) ∨ 0 < x.amount ∧ x.kind = 2) : entryE x = 4 := by
  unfold entryE; rw [if_neg h, if_neg h2, if_pos h3]
theorem entryE_0 {x : Entry} (h : ¬ (x.kind < 1 ∨ 4 < x.kind)) (h2 : ¬ (x.day < 0 ∨ 9999 < x.day ∨ x.amount < -100000000 ∨ 100000000 < x.amount))
    (h3 : ¬ (x.amount < 0 ∧ (x.kind = 1 ∨ x.kind = 3) ∨ 0 < x.amount ∧ x.kind = 2)) : entryE x = 0 := by
  unfold entryE; rw [if_neg h, if_neg h2, if_neg h3]

set_option maxRecDepth 100000 in
set_option maxHeartbeats 4000000 in
theorem CheckFolio_any (A : Option Addr) (n cap : Nat) (l : List Entry) (w : World) (h : Sl entryC 3 w All A n cap l) :
    Calls Tryz.prog 76 #[.slice A n cap] w fun e w' => e = .returned (.int .i64 (checkFolio l)) ∧ Below w.heap.size w w' := by
  have hbd := h.bd
  have hlen := Lib.hid h.len
  by_cases hn : 12 < n
  · have hn' : (12 : Int) < (n : Int) := by omega
    go_enter Tryz.func76, Tryz.ntmps76
    go_wp2_with fail
    go_ret
    exact ⟨retI (by unfold checkFolio; rw [hlen.out, if_pos hn]), Below.refl _ _⟩
  · have hn' : ¬ (12 : Int) < (n : Int) := by omega
    go_enter Tryz.func76, Tryz.ntmps76
    go_wp2_with fail
    go_loopg [3] n (fun gk i wr => ∃ k : Nat, k ≤ n ∧ n - k ≤ gk ∧ i = .int .i64 k ∧ Aside (firstErr (errAt l) k = 0) ∧ Below w.heap.size w wr)
    case atStart => exact ⟨0, Nat.zero_le _, by omega, rfl, rfl, Below.refl _ _⟩
    case round =>
      obtain ⟨k, hk, hgk, rfl, HE, hb⟩ := hrel
      by_cases hlt : k < n
      · obtain ⟨b, off, x, c0, c1, c2, rfl, hx, ⟨hc, b0, b1, b2⟩, g0, g1, g2⟩ := (h.below entryC_good (by omega) hb).at3 hlt
        simp only [List.cons.injEq, and_true] at hc
        obtain ⟨rfl, rfl, rfl⟩ := hc
        have HX := Lib.hid hx
        have hb1 := hb.alloc hb.size (.cells #[.int .i64 x.day, .int .i64 x.kind, .int .i64 x.amount] 77)
        have fin : ∀ r : Int, errAt l k = r → r ≠ 0 → r = checkFolio l := fun r h1 h2 => by
          unfold checkFolio
          rw [hlen.out, if_neg hn]
          have := firstErr_at (n := n) HE.out (by rw [h1]; exact h2) hlt
          rw [this, h1, if_pos h2]
        have Fin := Lib.hid fin
        have herr : (∀ y, l[k - 1]? = some y → 0 < k → entryE x = 0 → errAt l k = if x.day < y.day then 4 else 0) := fun y hy h0 hr => by
          unfold errAt
          rw [HX.out, Option.getD_some, hr, if_neg (by simp), hy, Option.getD_some]
          by_cases e : x.day < y.day
          · rw [if_pos ⟨h0, e⟩, if_pos e]
          · rw [if_neg (fun h => e h.2), if_neg e]
        have herr0 : k = 0 → entryE x = 0 → errAt l k = 0 := fun h0 hr => by
          unfold errAt
          rw [HX.out, Option.getD_some, hr, if_neg (by simp), if_neg (by omega)]
        have herr1 : entryE x ≠ 0 → errAt l k = entryE x := fun hr => by
          unfold errAt
          rw [HX.out, Option.getD_some, if_pos hr]
        have Herr := Lib.hid herr
        have Herr0 := Lib.hid herr0
        have Herr1 := Lib.hid herr1
        clear fin herr herr0 herr1 hx
        by_cases c1 : x.kind < 1 ∨ 4 < x.kind
        · have HZ := Lib.hid (entryE_7 c1)
          have t1 := betB_false c1
          clear c1
          go_wp2_with (go_at_call 72; refine (between_any _ _ _ _).mono ?_; rintro e w' ⟨rfl, rfl⟩)
          all_goals
            go_ret
            exact ⟨retI (Fin.out 7 ((Herr1.out (by rw [HZ.out]; omega)).trans HZ.out) (by omega)), hb1⟩
        · have t1 : betB x.kind 1 4 = true := betB_true (by omega) (by omega)
          by_cases c2 : x.day < 0 ∨ 9999 < x.day ∨ x.amount < -100000000 ∨ 100000000 < x.amount
          · have HZ := Lib.hid (entryE_3 c1 c2)
            by_cases c2d : x.day < 0 ∨ 9999 < x.day
            · have t2 := betB_false c2d
              clear c1 c2 c2d
              go_wp2_with (go_at_call 72; refine (between_any _ _ _ _).mono ?_; rintro e w' ⟨rfl, rfl⟩)
              all_goals
                go_ret
                exact ⟨retI (Fin.out 3 ((Herr1.out (by rw [HZ.out]; omega)).trans HZ.out) (by omega)), hb1⟩
            · have t2 : betB x.day 0 9999 = true := betB_true (by omega) (by omega)
              have t3 : betB x.amount (-100000000) 100000000 = false := betB_false (by omega)
              clear c1 c2 c2d
              go_wp2_with (go_at_call 72; refine (between_any _ _ _ _).mono ?_; rintro e w' ⟨rfl, rfl⟩)
              all_goals
                go_ret
                exact ⟨retI (Fin.out 3 ((Herr1.out (by rw [HZ.out]; omega)).trans HZ.out) (by omega)), hb1⟩
          · have t2 : betB x.day 0 9999 = true := betB_true (by omega) (by omega)
            have t3 : betB x.amount (-100000000) 100000000 = true := betB_true (by omega) (by omega)
            by_cases c3 : x.amount < 0 ∧ (x.kind = 1 ∨ x.kind = 3) ∨ 0 < x.amount ∧ x.kind = 2
            · have HZ := Lib.hid (entryE_4 c1 c2 c3)
              go_wp2_with (go_at_call 72; refine (between_any _ _ _ _).mono ?_; rintro e w' ⟨rfl, rfl⟩)
              all_goals
                go_ret
                exact ⟨retI (Fin.out 4 ((Herr1.out (by rw [HZ.out]; omega)).trans HZ.out) (by omega)), hb.alloc hb.size _⟩
            · have HZ := Lib.hid (entryE_0 c1 c2 c3)
              rcases k with _ | k
              · simp only [Nat.zero_mul, Nat.add_zero] at g0 g1 g2
                go_wp2_with (go_at_call 72; refine (between_any _ _ _ _).mono ?_; rintro e w' ⟨rfl, rfl⟩)
                all_goals
                  go_quiet (fail)
                  go_wp2_with fail
                  go_roundg (n - 1)
                  case measure => omega
                  case rel => exact ⟨1, by omega, by omega, rfl, (show Aside _ from (firstErr_succ HE.out).trans (Herr0.out (by trivial) HZ.out)), below_drewN (hb.alloc hb.size _) _⟩
              · obtain ⟨b2, off2, y, d0, d1, d2, hA2, hy, ⟨hc2, y0, y1, y2⟩, e0, e1, e2⟩ := (h.below entryC_good (by omega) hb).at3 (show k < n by omega)
                injection hA2 with hA2
                injection hA2 with hb2 ho2 _
                subst hb2 ho2
                simp only [List.cons.injEq, and_true] at hc2
                obtain ⟨rfl, rfl, rfl⟩ := hc2
                have Hy := Lib.hid hy
                have hblt : b < wr.heap.size := cell_lt e0
                clear hy e1 e2
                have hw : IntKind.i64.wrap (k : Int) = k := IntWalk.i64_in _ (by omega)
                have hgt : decide ((0 : Int) < (k : Int) + 1) = true := decide_eq_true (by omega)
                by_cases hd : x.day < y.day
                · go_wp2_with (go_at_call 72; refine (between_any _ _ _ _).mono ?_; rintro e w' ⟨rfl, rfl⟩)
                  all_goals
                    go_quiet (fail)
                    go_wp2_with fail
                    go_ret
                    exact ⟨retI (Fin.out 4 (by rw [Herr.out y (by simpa using Hy.out) (by omega) HZ.out, if_pos hd]) (by omega)), below_drewN (hb.alloc hb.size _) _⟩
                · go_wp2_with (go_at_call 72; refine (between_any _ _ _ _).mono ?_; rintro e w' ⟨rfl, rfl⟩)
                  all_goals
                    go_quiet (fail)
                    go_wp2_with fail
                    go_roundg (n - (k + 1 + 1))
                    case measure => omega
                    case rel => exact ⟨k + 1 + 1, by omega, by omega, by go_num, (show Aside _ from (firstErr_succ HE.out).trans (by rw [Herr.out y (by simpa using Hy.out) (by omega) HZ.out, if_neg (by omega)])), below_drewN (hb.alloc hb.size _) _⟩
      · obtain rfl : k = n := by omega
        have hsm := small_of_check (l := l) (by rw [hlen.out]; omega) (by rw [hlen.out]; exact HE.out)
        have hcap := h.le
        go_wp2_with fail
        go_loopg [5] k (fun gk i wr => ∃ j : Nat, j ≤ k ∧ k - j ≤ gk ∧ i = .int .i64 ((j : Int) + 1) ∧ Aside (firstErr (sumErr l) j = 0) ∧ Below w.heap.size w wr)
        case atStart => exact ⟨0, Nat.zero_le _, by omega, rfl, rfl, hb⟩
        case round =>
          obtain ⟨j, hj, hgj, rfl, HJ, hbj⟩ := hrel
          by_cases hlt2 : j < k
          · obtain ⟨b, off, x, c0, c1, c2, rfl, hx, ⟨hc, b0, b1, b2⟩, g0, g1, g2⟩ := h.at3 hlt2
            clear hc b0 b1 b2 g0 g1 g2 hx
            have hbound : j + 1 ≤ cap := by omega
            have htk := (h.below entryC_good (by omega) hbj).takeTo (i := j + 1) (by omega)
            have hsmt : Small (l.take (j + 1)) := ⟨by rw [List.length_take]; have := hsm.1; omega, fun y hy => hsm.2 y (List.mem_of_mem_take hy)⟩
            go_wp2_with fail
            refine (SumOf_any _ _ _ (l.take (j + 1)) 0 _ htk hsmt).mono ?_
            rintro e w1 ⟨rfl, rfl⟩
            have hbt := between_any (sumOfK (l.take (j + 1)) 0) (-100000000) 100000000 wr
            have hse : sumErr l j = if betB (sumOfK (l.take (j + 1)) 0) (-100000000) 100000000 then 0 else 3 := by unfold sumErr; rw [sumOfK_zero]; rfl
            generalize betB (sumOfK (l.take (j + 1)) 0) (-100000000) 100000000 = bb at *
            have HB := Lib.hid hbt
            have HSE := Lib.hid hse
            clear hbt hse
            cases bb
            · go_wp2_with (go_at_call 72; refine HB.out.mono ?_; rintro e w' ⟨rfl, rfl⟩)
              go_ret
              exact ⟨retI (by rw [checkFolio_sums (by rw [hlen.out]; exact hn) (by rw [hlen.out]; exact HE.out), hlen.out, firstErr_at HJ.out (by rw [HSE.out]; decide) hlt2, HSE.out]; rfl), hbj⟩
            · go_wp2_with (go_at_call 72; refine HB.out.mono ?_; rintro e w' ⟨rfl, rfl⟩)
              go_roundg (k - (j + 1))
              case measure => omega
              case rel => exact ⟨j + 1, by omega, by omega, by go_num, (show Aside _ from (firstErr_succ HJ.out).trans HSE.out), hbj⟩
          · obtain rfl : j = k := by omega
            have hge : ¬ ((j : Int) + 1 ≤ (j : Int)) := by omega
            go_wp2_with fail
            go_ret
            exact ⟨retI (by rw [checkFolio_sums (by rw [hlen.out]; exact hn) (by rw [hlen.out]; exact HE.out), hlen.out, HJ.out]), hbj⟩
end Go.Proofs.YtlablioefblmkaaGreat
/-
  Spans: Meet, Meets, calendar, ready, Gaps, Free.
-/
namespace Go.Proofs.YtlablioefblmkaaGreat
open Go.RowKit Go.Shelf

instance spanK : CodK spanC 2 := ⟨spanC_good, by omega⟩
theorem span_elem : ElemOf Tryz.prog 48 39 2 16 := .mk' Tryz.underlying48 (z := .agg #[.int .i64 0, .int .i64 0]) (by kernel_rfl) rfl (by omega)
theorem sl_span (w : World) (S : Nat → Prop) (a b : Int) (t : TypeId) (ha : InI a) (hb : InI b) (hS : S w.heap.size) : Sl spanC 2 (w.alloc (.cells #[.int .i64 a, .int .i64 b] t)) S (some ⟨w.heap.size, 0, none⟩) 1 1 [⟨a, b⟩] :=
  Sl.lit1 w S t (⟨a, b⟩ : Span) [.int .i64 a, .int .i64 b] ⟨rfl, ha, hb⟩ hS

/-- Have two spans a leg in common? -/
def meetB (a b : Span) : Bool := decide (a.frm < b.upto) && decide (b.frm < a.upto)
theorem Meet_any (a b c d : Int) (w : World) : Calls Tryz.prog 91 #[.agg #[.int .i64 a, .int .i64 b], .agg #[.int .i64 c, .int .i64 d]] w fun e w' => e = .returned (.bool (meetB ⟨a, b⟩ ⟨c, d⟩)) ∧ Below w.heap.size w w' := by
  by_cases h1 : a < d
  · by_cases h2 : c < b
    · have HM := Lib.hid (show meetB ⟨a, b⟩ ⟨c, d⟩ = true by simp [meetB, h1, h2])
      go_enter Tryz.func91, Tryz.ntmps91
      go_wp2_with fail
      go_ret
      exact ⟨retB (by rw [HM.out]), bel2 _ _ _⟩
    · have HM := Lib.hid (show meetB ⟨a, b⟩ ⟨c, d⟩ = false by simp [meetB]; omega)
      go_enter Tryz.func91, Tryz.ntmps91
      go_wp2_with fail
      go_ret
      exact ⟨retB (by rw [HM.out]), bel2 _ _ _⟩
  · have HM := Lib.hid (show meetB ⟨a, b⟩ ⟨c, d⟩ = false by simp [meetB]; omega)
    go_enter Tryz.func91, Tryz.ntmps91
    go_wp2_with fail
    go_ret
    exact ⟨retB (by rw [HM.out]), bel2 _ _ _⟩

/-- What is wrong with two spans of any voyage. -/
def meetsE (a b : Span) : Int := if spanE a 7 ≠ 0 then spanE a 7 else spanE b 7
set_option maxHeartbeats 2000000 in
theorem Meets_any (a b c d : Int) (w : World) (ia : InI a) (ib : InI b) (ic : InI c) (id : InI d) : Calls Tryz.prog 31 #[.agg #[.int .i64 a, .int .i64 b], .agg #[.int .i64 c, .int .i64 d]] w fun e w' =>
    e = .returned (.tuple #[.bool (okB (meetsE ⟨a, b⟩ ⟨c, d⟩) (meetB ⟨a, b⟩ ⟨c, d⟩)), .int .i64 (meetsE ⟨a, b⟩ ⟨c, d⟩)]) ∧ Below w.heap.size w w' := by
  obtain ⟨r, hr⟩ : ∃ r, r = meetsE ⟨a, b⟩ ⟨c, d⟩ := ⟨_, rfl⟩
  rw [← hr]
  obtain ⟨L, hL⟩ : ∃ L : List Span, L = [⟨a, b⟩, ⟨c, d⟩] := ⟨_, rfl⟩
  have HE := Lib.hid (show r = firstErr (fun i => spanE (L[i]?.getD default) 7) 2 by
    rw [hr, hL]; unfold meetsE; simp [firstErr])
  have HL := Lib.hid hL
  clear hL
  clear hr
  go_enter Tryz.func31, Tryz.ntmps31
  go_upto_region 0 with (fail)
  go_cut [2, 3] (fun x y wx => x = .pointer (some ⟨w.heap.size, 0, none⟩) ∧ y = .pointer (some ⟨w.heap.size + 1, 0, none⟩) ∧ SpanAt wx w.heap.size a b ∧ SpanAt wx (w.heap.size + 1) c d ∧ Below w.heap.size w wx)
  case first => as_aux_lemma =>
    go_wp2_with fail
    go_meet
    exact ⟨rfl, rfl, blk2_0 _ _ _, blk2_1 _ _ _, bel2 _ _ _⟩
  obtain ⟨rfl, rfl, hA, hB, hb0⟩ := hcut
  obtain ⟨W0, rfl⟩ : ∃ W0, W0 = wc := ⟨_, rfl⟩
  have a0 := hA.c0
  have a1 := hA.c1
  have b0 := hB.c0
  have b1 := hB.c1
  have hsl := Sl.ofBlk (c := spanC) (size := 2) (S := All) (Blk.new W0 #[.int .i64 a, .int .i64 b, .int .i64 c, .int .i64 d] 39) [⟨a, b⟩, ⟨c, d⟩] (by simp) trivial fun i x hx => by
    rcases i with _ | _ | i
    · simp at hx; subst hx
      exact ⟨_, ⟨rfl, ia, ib⟩, rfl, fun j u hu => by rcases j with _ | _ | j <;> simp_all⟩
    · simp at hx; subst hx
      exact ⟨_, ⟨rfl, ic, id⟩, rfl, fun j u hu => by rcases j with _ | _ | j <;> simp_all⟩
    · simp at hx
  simp only [List.length_cons, List.length_nil] at hsl
  rw [← HL.out] at hsl
  have hbl := bel1 W0 (.cells #[.int .i64 a, .int .i64 b, .int .i64 c, .int .i64 d] 39)
  go_wp2_with fail
  go_loopg [13] 2 (fun gk i wr => ∃ k : Nat, k ≤ 2 ∧ 2 - k ≤ gk ∧ i = .int .i64 k ∧ Aside (firstErr (fun i => spanE (L[i]?.getD default) 7) k = 0) ∧ Below (W0.alloc (.cells #[.int .i64 a, .int .i64 b, .int .i64 c, .int .i64 d] 39)).heap.size (W0.alloc (.cells #[.int .i64 a, .int .i64 b, .int .i64 c, .int .i64 d] 39)) wr)
  case atStart => exact ⟨0, Nat.zero_le _, by omega, rfl, rfl, Below.refl _ _⟩
  case round =>
    obtain ⟨k, hk, hgk, rfl, HZ, hb⟩ := hrel
    have hbw := hbl.trans (hb.mono hbl.size)
    by_cases hlt : k < 2
    · obtain ⟨b2, off, x, c0, c1, hAA, hx, ⟨hc, x0, x1⟩, g0, g1⟩ := (hsl.bel hb).at2 hlt
      injection hAA with hAA
      injection hAA with e1 e2 _
      subst e1 e2
      simp only [List.cons.injEq, and_true] at hc
      obtain ⟨rfl, rfl⟩ := hc
      have HX := Lib.hid hx
      clear hx
      simp only [Nat.zero_add] at g0 g1
      go_wp2_with fail
      refine (spanCheck_any x.frm x.upto 7 _).mono ?_
      rintro e w2 ⟨rfl, hb2⟩
      obtain ⟨q, hq⟩ : ∃ q, q = spanE ⟨x.frm, x.upto⟩ 7 := ⟨_, rfl⟩
      rw [← hq]
      have HQ := Lib.hid hq
      clear hq
      have hbA := (hbw.alloc hbw.size (.cells #[.int .i64 x.frm, .int .i64 x.upto] 39))
      have hbB := hb.alloc hb.size (.cells #[.int .i64 x.frm, .int .i64 x.upto] 39)
      replace hbB := hbB.trans (hb2.mono hbB.size)
      by_cases h0 : q = 0
      · subst h0
        go_wp2_with fail
        go_roundg (2 - (k + 1))
        case measure => omega
        case rel => exact ⟨k + 1, by omega, by omega, by go_num, (show Aside _ from (firstErr_succ HZ).trans (by rw [HX.out]; exact HQ.out.symm)), hbB⟩
      · have h0' : (q != 0) = true := by simpa using h0
        have hrq : r = q := by rw [HE.out, firstErr_at (n := 2) HZ (by rw [HX.out]; intro e; exact h0 (HQ.out.trans e)) hlt, HX.out]; exact HQ.out.symm
        subst hrq
        have H0 := Lib.hid h0
        clear h0
        go_wp2_with fail
        go_ret2
        exact ⟨by rw [okB_ne H0.out]; rfl, hb0.trans ((hbl.trans (hbB.mono hbl.size)).mono hb0.size)⟩
    · obtain rfl : k = 2 := by omega
      obtain rfl : r = 0 := by rw [HE.out]; exact HZ
      replace a0 := (hA.below hbw).c0
      replace a1 := (hA.below hbw).c1
      replace b0 := (hB.below hbw).c0
      replace b1 := (hB.below hbw).c1
      go_wp2_with fail
      refine (Meet_any a b c d _).mono ?_
      rintro e w2 ⟨rfl, hb2⟩
      go_wp2_with fail
      go_ret2
      exact ⟨rfl, hb0.trans ((hbw.trans (hb2.mono hbw.size)).mono hb0.size)⟩

/-- What is wrong with a calendar. -/
def calErr (l : List Span) (legs : Int) (i : Nat) : Int :=
  if spanE (l[i]?.getD default) legs ≠ 0 then spanE (l[i]?.getD default) legs else if 0 < i ∧ (l[i]?.getD default).frm < (l[i - 1]?.getD default).upto then 4 else 0
def calE (l : List Span) (legs : Int) : Int := if legsB legs = false then 3 else firstErr (calErr l legs) l.length

def readySpE (l : List Span) (legs : Int) (s : Span) : Int := if calE l legs ≠ 0 then calE l legs else spanE s legs
end Go.Proofs.YtlablioefblmkaaGreat
