/-
  Words, laws and contracts: SpanB, SpanC, SpanS, SpanD, SpanE, SpanG, SpanH, SpanI, SpanJ, SpanL.
-/
import Derived.Test.YtoilcdgpeilgaaaGreatBun1
import Derived.LoopN
import Derived.Test.YtoilcdgpeilgaaaGreatSortSpan
import Derived.Deep.RegionLaw
import Derived.Deep.RegionWith
set_option linter.unusedSimpArgs false
set_option linter.unusedVariables false
namespace Go.Proofs.YtoilcdgpeilgaaaGreat
open Go.RowKit Go.Shelf
instance spanK : CodK spanC 2 := ⟨spanC_good, by omega⟩
theorem span_elem : ElemOf Tryz.prog 104 34 2 16 := .mk' Tryz.underlying104 (z := .agg #[.int .i64 0, .int .i64 0]) (by kernel_rfl) rfl (by omega)
theorem sl_span (w : World) (S : Nat → Prop) (a b : Int) (t : TypeId) (ha : InI a) (hb : InI b) (hS : S w.heap.size) : Sl spanC 2 (w.alloc (.cells #[.int .i64 a, .int .i64 b] t)) S (some ⟨w.heap.size, 0, none⟩) 1 1 [⟨a, b⟩] :=
  Sl.lit1 w S t (⟨a, b⟩ : Span) [.int .i64 a, .int .i64 b] ⟨rfl, ha, hb⟩ hS
def meetB (a b : Span) : Bool := decide (a.frm < b.upto) && decide (b.frm < a.upto)
theorem Meet_any (a b c d : Int) (w : World) : Calls Tryz.prog 224 #[.agg #[.int .i64 a, .int .i64 b], .agg #[.int .i64 c, .int .i64 d]] w fun e w' => e = .returned (.bool (meetB ⟨a, b⟩ ⟨c, d⟩)) ∧ Below w.heap.size w w' := by
  by_cases h1 : a < d
  · by_cases h2 : c < b
    · have HM := Lib.hid (show meetB ⟨a, b⟩ ⟨c, d⟩ = true by simp [meetB, h1, h2])
      go_enter Tryz.func224, Tryz.ntmps224
      go_wp2_with fail
      go_ret
      exact ⟨retB (by rw [HM.out]), bel2 _ _ _⟩
    · have HM := Lib.hid (show meetB ⟨a, b⟩ ⟨c, d⟩ = false by simp [meetB]; omega)
      go_enter Tryz.func224, Tryz.ntmps224
      go_wp2_with fail
      go_ret
      exact ⟨retB (by rw [HM.out]), bel2 _ _ _⟩
  · have HM := Lib.hid (show meetB ⟨a, b⟩ ⟨c, d⟩ = false by simp [meetB]; omega)
    go_enter Tryz.func224, Tryz.ntmps224
    go_wp2_with fail
    go_ret
    exact ⟨retB (by rw [HM.out]), bel2 _ _ _⟩
def calErr (l : List Span) (legs : Int) (i : Nat) : Int :=
  if spanE (l[i]?.getD default) legs ≠ 0 then spanE (l[i]?.getD default) legs else if 0 < i ∧ (l[i]?.getD default).frm < (l[i - 1]?.getD default).upto then 4 else 0
def calE (l : List Span) (legs : Int) : Int := if legsB legs = false then 3 else firstErr (calErr l legs) l.length
def readySpE (l : List Span) (legs : Int) (s : Span) : Int := if calE l legs ≠ 0 then calE l legs else spanE s legs
end Go.Proofs.YtoilcdgpeilgaaaGreat
namespace Go.Proofs.YtoilcdgpeilgaaaGreat
open Go.RowKit Go.Shelf
theorem firstErr_none {f : Nat → Int} : ∀ {n : Nat}, firstErr f n = 0 → ∀ i, i < n → f i = 0 := by
  intro n
  induction n with
  | zero => intro _ i hi; omega
  | succ n ih =>
    intro h i hi
    simp only [firstErr] at h
    by_cases e : firstErr f n = 0
    · rw [if_pos e] at h
      by_cases e2 : i = n
      · rw [e2]; exact h
      · exact ih e i (by omega)
    · rw [if_neg e] at h; exact absurd h e
theorem span_ok {s : Span} {legs : Int} (h : spanE s legs = 0) : 1 ≤ legs ∧ legs ≤ 7 ∧ 0 ≤ s.frm ∧ s.frm < s.upto ∧ s.upto ≤ legs := by
  unfold spanE at h
  by_cases e : legsB legs = false ∨ s.frm < 0 ∨ legs < s.upto
  · rw [if_pos e] at h; omega
  · rw [if_neg e] at h
    by_cases e2 : s.upto ≤ s.frm
    · rw [if_pos e2] at h; omega
    · have hl : betB legs 1 7 = true := by
        cases q : betB legs 1 7 with
        | true => rfl
        | false => exact absurd (.inl q) e
      have := betB_iff.1 hl
      omega
structure CalOk (l : List Span) (legs : Int) : Prop where
  lo : 1 ≤ legs
  hi : legs ≤ 7
  el : ∀ (i : Nat) (x : Span), l[i]? = some x → 0 ≤ x.frm ∧ x.frm < x.upto ∧ x.upto ≤ legs
  ord : ∀ (i : Nat) (x y : Span), l[i]? = some x → l[i + 1]? = some y → x.upto ≤ y.frm
theorem cal_ok {l : List Span} {legs : Int} (h : calE l legs = 0) : CalOk l legs := by
  unfold calE at h
  cases q : legsB legs with
  | false => rw [if_pos q] at h; omega
  | true =>
    rw [if_neg (by simp [q])] at h
    have hall := firstErr_none h
    have hl := betB_iff.1 q
    have one : ∀ (i : Nat) (x : Span), l[i]? = some x → spanE x legs = 0 ∧ ¬ (0 < i ∧ x.frm < (l[i - 1]?.getD default).upto) := fun i x hx => by
      have hi := hall i (List.getElem?_eq_some_iff.1 hx).1
      unfold calErr at hi
      rw [hx, Option.getD_some] at hi
      by_cases e1 : spanE x legs = 0
      · rw [if_neg (by simp [e1])] at hi
        refine ⟨e1, fun e2 => ?_⟩
        rw [if_pos e2] at hi; omega
      · rw [if_pos e1] at hi; exact absurd hi e1
    refine ⟨hl.1, hl.2, fun i x hx => ?_, fun i x y hx hy => ?_⟩
    · have := span_ok (one i x hx).1; omega
    · have := (one _ y hy).2
      rw [show i + 1 - 1 = i by omega, hx, Option.getD_some] at this
      omega
theorem CalOk.ge {l : List Span} {legs : Int} (h : CalOk l legs) : ∀ (i : Nat) (x : Span), l[i]? = some x → (i : Int) + 1 ≤ x.upto := by
  intro i
  induction i with
  | zero => intro x hx; have := h.el 0 x hx; omega
  | succ i ih =>
    intro y hy
    have hi : i < l.length := by have := (List.getElem?_eq_some_iff.1 hy).1; omega
    have h1 := ih _ (List.getElem?_eq_getElem hi)
    have h2 := h.ord i _ y (List.getElem?_eq_getElem hi) hy
    have h3 := h.el _ y hy
    omega
theorem CalOk.len {l : List Span} {legs : Int} (h : CalOk l legs) : (l.length : Int) ≤ legs := by
  rcases Nat.eq_zero_or_pos l.length with e | e
  · have := h.lo; omega
  · have h1 := h.ge (l.length - 1) _ (List.getElem?_eq_getElem (by omega))
    have h2 := h.el (l.length - 1) _ (List.getElem?_eq_getElem (by omega))
    omega
theorem CalOk.apart {l : List Span} {legs : Int} (h : CalOk l legs) : ∀ {i j : Nat} {x y : Span}, i < j → l[i]? = some x → l[j]? = some y → x.upto ≤ y.frm := by
  intro i j x y hij
  induction j generalizing y with
  | zero => omega
  | succ j ih =>
    intro hx hy
    by_cases e : i = j
    · subst e; exact h.ord _ x y hx hy
    · have hj : j < l.length := by have := (List.getElem?_eq_some_iff.1 hy).1; omega
      have h1 := ih (y := l[j]) (by omega) hx (List.getElem?_eq_getElem hj)
      have h2 := h.ord j _ y (List.getElem?_eq_getElem hj) hy
      have h3 := h.el j _ (List.getElem?_eq_getElem hj)
      omega
def gap (a b : Int) : List Span := if a < b then [⟨a, b⟩] else []
def gapF (acc : List Span × Int) (s : Span) : List Span × Int := (acc.1 ++ gap acc.2 s.frm, s.upto)
def gapsS (l : List Span) : List Span × Int := l.foldl gapF ([], 0)
def gapsL (l : List Span) (legs : Int) : List Span := (gapsS l).1 ++ gap (gapsS l).2 legs
theorem gapsS_snoc (l : List Span) (x : Span) : gapsS (l ++ [x]) = gapF (gapsS l) x := by simp [gapsS]
theorem gap_len (a b : Int) : (gap a b).length ≤ 1 := by unfold gap; split <;> simp
theorem gapsS_len (l : List Span) : (gapsS l).1.length ≤ l.length := by
  have key : ∀ (l : List Span) (acc : List Span × Int), (l.foldl gapF acc).1.length ≤ acc.1.length + l.length := by
    intro l
    induction l with
    | nil => intro acc; simp
    | cons x l ih =>
      intro acc
      rw [List.foldl_cons]
      have h1 := ih (gapF acc x)
      have h2 := gap_len acc.2 x.frm
      simp only [gapF, List.length_append, List.length_cons] at h1 ⊢
      omega
  have := key l ([], 0)
  simpa [gapsS] using this
theorem gapsS_in {l : List Span} (h : ∀ x ∈ l, InI x.upto) : InI (gapsS l).2 := by
  rcases List.eq_nil_or_concat l with rfl | ⟨l', x, rfl⟩
  · exact .of (by decide) (by decide)
  · rw [List.concat_eq_append, gapsS_snoc]; exact h x (by simp)
structure Gapw (w : World) (O D : Nat) (t : Int) (l : List Span) (W : World) (A : Option Addr) (n cap : Nat) (xs : List Value) : Prop where
  o : W.heap[O]? = some (.cells #[.slice A n cap] 104 (0, 0))
  d : W.heap[D]? = some (.cells #[.int .i64 t] 3 (0, 0))
  own : Own spanC 2 34 W w.heap.size (.slice A n cap) l xs
  ne : (Value.slice A n cap).ownBlock ≠ some O
  neD : (Value.slice A n cap).ownBlock ≠ some D
  od : O ≠ D
  b : Below w.heap.size w W
  le : w.heap.size ≤ O
  leD : w.heap.size ≤ D
  len : l.length ≤ 10000
def Gapped (w : World) (O D : Nat) (t : Int) (l : List Span) (W : World) (r : Option Nat) (W' : World) : Prop :=
  ∃ A n cap xs, Gapw w O D t l W' A n cap xs ∧ ∀ k, k < W.heap.size → k ≠ O → some k ≠ r → W'.heap[k]? = W.heap[k]?
set_option maxHeartbeats 1000000 in
theorem gap_any (w : World) (O D : Nat) (t : Int) (l : List Span) (W : World) (A : Option Addr) (n cap : Nat) (xs : List Value) (m : Int) (h : Gapw w O D t l W A n cap xs) (ht : InI t) (hm : InI m) (hl : l.length ≤ 9000) :
    Calls Tryz.prog 225 #[.int .i64 m, .pointer (some ⟨D, 0, none⟩), .pointer (some ⟨O, 0, none⟩)] W fun e W' => e = .returned (.tuple #[]) ∧ Gapped w O D t (l ++ gap t m) W (Value.slice A n cap).ownBlock W' := by
  have ho := cell_of_one h.o
  have hfo := free_of_one h.o
  have hdd := cell_of_one h.d
  have hO := lt_of_block h.o
  have hD := lt_of_block h.d
  by_cases hm0 : t < m
  · have HL := Lib.hid hl
    have HP := Lib.hid (show gap t m = [⟨t, m⟩] from if_pos hm0)
    clear hl
    go_enter Tryz.func225, Tryz.ntmps225
    have hown := h.own.below spanC_good ((Below.refl W.heap.size W).alloc (Nat.le_refl _) (.cells #[.int .i64 t, .int .i64 m] 34))
    have hle := h.b.size
    go_wp2_with (at_builtin; refine list_app (t := 104) (e := 34) (bytes := 16) rfl (.tmp 7) (.tmp 11) rfl span_elem spanC_good rfl hown rfl (sl_span W All t m 34 ht hm trivial) (fun _ _ hc => hc) (by have := HL.out; omega) (by omega) (by simp; omega) ?_; intro v2 w2 xs2 hown2 hg2 hat2; obtain ⟨A2, n2, cap2, rfl, hsl2⟩ := hown2.sl spanC_good; have hO2 := hg2.block O (by simp; omega) (fun e => h.ne e.symm); have hD2 := hg2.block D (by simp; omega) (fun e => h.neD e.symm); rw [Below.heap_alloc _ _ _ hO, h.o] at hO2; rw [Below.heap_alloc _ _ _ hD, h.d] at hD2; have ho2 := cell_of_one hO2; have hf2 := free_of_one hO2)
    go_end0
    rw [HP.out]
    have hz : W.heap.size < w2.heap.size := by have := hg2.size; simp at this; omega
    have hb2 : Below w.heap.size w w2 := (h.b.alloc hle _).grown hg2 (by simp; omega) (fun j hj => (h.own.lt j hj).1)
    have hne : (Value.slice A2 n2 cap2).ownBlock ≠ some O := by
      rcases hat2 with e | e <;> rw [e]
      · exact h.ne
      · intro he; injection he with he; simp at he; omega
    have hneD : (Value.slice A2 n2 cap2).ownBlock ≠ some D := by
      rcases hat2 with e | e <;> rw [e]
      · exact h.neD
      · intro he; injection he with he; simp at he; omega
    refine ⟨rfl, A2, n2, cap2, xs2, ⟨one_setCell hO2, ?_, own_setCell_flat spanC_flat hown2 hne _, hne, hneD, h.od, hb2.setCell (p := ⟨O, 0, none⟩) h.le _, h.le, h.leD, ?_⟩, fun k hk hkO hkv => ?_⟩
    · exact (Below.heap_setCell _ _ _ _ (fun e => h.od e.symm)).trans hD2
    · rw [List.length_append]; have := HL.out; simp; omega
    · exact (Below.heap_setCell _ _ _ _ hkO).trans ((hg2.block k (by simp; omega) hkv).trans (Below.heap_alloc _ _ _ hk))
  · have HP := Lib.hid (show gap t m = [] from if_neg hm0)
    go_enter Tryz.func225, Tryz.ntmps225
    go_wp2_with fail
    go_end0
    exact ⟨rfl, A, n, cap, xs, by rw [HP.out, List.append_nil]; exact h, fun _ _ _ _ => rfl⟩
theorem gapw_below {w W W' : World} {O D : Nat} {t : Int} {l : List Span} {A : Option Addr} {n cap : Nat} {xs : List Value} (h : Gapw w O D t l W A n cap xs) (hb : Below W.heap.size W W') : Gapw w O D t l W' A n cap xs :=
  ⟨(hb.block _ (lt_of_block h.o)).trans h.o, (hb.block _ (lt_of_block h.d)).trans h.d, h.own.bel hb, h.ne, h.neD, h.od, h.b.trans (hb.mono h.b.size), h.le, h.leD, h.len⟩
set_option maxHeartbeats 2000000 in
theorem Gaps_any (A : Option Addr) (n cap : Nat) (l : List Span) (legs : Int) (w : World) (h : Sl spanC 2 w All A n cap l) (hn : l.length ≤ 1000) (hi : InI legs) :
    Calls Tryz.prog 147 #[.slice A n cap, .int .i64 legs] w fun e w' => ∃ v xs, e = .returned v ∧ Own spanC 2 34 w' w.heap.size v (gapsL l legs) xs ∧ Below w.heap.size w w' := by
  have hbd := h.bd
  have HLN := Lib.hid h.len
  have eg := enters_of Tryz.func225 (by kernel_rfl) rfl
  have h0 : Gapw w w.heap.size (w.heap.size + 1) 0 [] ((w.alloc (.cells #[.slice none 0 0] 104)).alloc (.cells #[.int .i64 0] 3)) none 0 0 [] :=
    ⟨blk2_0 _ _ _, blk2_1 _ _ _, Own.nil _ _ _ _ _, by simp [Value.ownBlock], by simp [Value.ownBlock], by omega, bel2 _ _ _, Nat.le_refl _, by omega, by simp⟩
  have HN := Lib.hid hn
  clear hn
  go_enter Tryz.func147, Tryz.ntmps147
  go_wp2_with fail
  go_loopg [13] n (fun gk i wr => ∃ k : Nat, k ≤ n ∧ n - k ≤ gk ∧ i = .int .i64 k ∧ ∃ A' n' cap' xs', Gapw w w.heap.size (w.heap.size + 1) (gapsS (l.take k)).2 (gapsS (l.take k)).1 wr A' n' cap' xs')
  case atStart => exact ⟨0, Nat.zero_le _, by omega, rfl, _, _, _, _, h0⟩
  case round =>
    obtain ⟨k, hk, hgk, rfl, A', n', cap', xs', hG⟩ := hrel
    obtain ⟨t, ht⟩ : ∃ t, t = (gapsS (l.take k)).2 := ⟨_, rfl⟩
    obtain ⟨L, hL⟩ : ∃ L, L = (gapsS (l.take k)).1 := ⟨_, rfl⟩
    have hin : InI t := by
      rw [ht]
      refine gapsS_in fun x hx => ?_
      obtain ⟨i, hi⟩ := List.getElem?_of_mem (List.mem_of_mem_take hx)
      obtain ⟨_, _, _, _, _, hc, _⟩ := h.rd i x hi
      exact hc.2.2
    have hlen : L.length ≤ 1000 := by
      rw [hL]
      have h1 := gapsS_len (l.take k)
      have h2 : (l.take k).length ≤ l.length := List.length_take_le' _ _
      have := HN.out
      omega
    rw [← ht, ← hL] at hG
    have HT := Lib.hid ht
    have HL := Lib.hid hL
    clear ht hL
    by_cases hlt : k < n
    · obtain ⟨b, off, x, c0, c1, rfl, hx, ⟨hc, b0, b1⟩, g0, g1⟩ := (h.below spanC_good (by omega) hG.b).at2 hlt
      simp only [List.cons.injEq, and_true] at hc
      obtain ⟨rfl, rfl⟩ := hc
      have HS := Lib.hid (show gapsS (l.take (k + 1)) = (L ++ gap t x.frm, x.upto) by rw [take_snoc hx, gapsS_snoc, gapF, HT.out, HL.out])
      clear hx
      have hG2 := gapw_below hG (bel1 wr (.cells #[.int .i64 x.frm, .int .i64 x.upto] 34))
      have hX := SpanAt.new wr x.frm x.upto
      have hcall := gap_any w w.heap.size (w.heap.size + 1) t L _ A' n' cap' xs' x.frm hG2 hin b0 (by omega)
      have hsz := hG.b.size
      have hown := hG.own.lt
      have HC := Lib.hid hcall
      clear hcall
      have HX := Lib.hid hX
      clear hX
      have HO := Lib.hid hown
      clear hown
      have HSZ := Lib.hid hG.o
      have HG := Lib.hid hG
      clear hG hG2
      go_wp2_with fail
      refine HC.out.mono ?_
      rintro e w2 ⟨rfl, A2, n2, cap2, xs2, hG3, hK⟩
      have e1 := hK wr.heap.size (by simp) (by have := lt_of_block HSZ.out; omega) (by intro e; have := (HO.out _ e.symm).2; omega)
      clear hK
      have x1 := cell_of_blk (e1.trans HX.out) (j := 1) rfl
      clear e1
      have hd3 := cell_of_one hG3.d
      have hf3 := free_of_one hG3.d
      have HG3 := Lib.hid hG3
      clear hG3
      go_wp2_with fail
      go_roundg (n - (k + 1))
      case measure => omega
      case rel =>
        refine ⟨k + 1, by omega, by omega, by go_num, A2, n2, cap2, xs2, ?_⟩
        rw [HS.out]
        have g := HG3.out
        exact ⟨(Below.heap_setCell _ _ _ _ g.od).trans g.o, one_setCell g.d, own_setCell_flat spanC_flat g.own g.neD _, g.ne, g.neD, g.od, g.b.setCell (p := ⟨w.heap.size + 1, 0, none⟩) g.leD _, g.le, g.leD, g.len⟩
    · obtain rfl : k = n := by omega
      have HF := Lib.hid (List.take_of_length_le (Nat.le_of_eq HLN.out))
      have hcall := gap_any w w.heap.size (w.heap.size + 1) t L _ A' n' cap' xs' legs hG hin hi (by omega)
      have HC := Lib.hid hcall
      clear hcall
      have HV := Lib.hid (show gapsL l legs = L ++ gap t legs by unfold gapsL; rw [HT.out, HL.out, HF.out])
      go_wp2_with fail
      refine HC.out.mono ?_
      rintro e w2 ⟨rfl, A2, n2, cap2, xs2, hG3, hK⟩
      clear hK
      have ho3 := cell_of_one hG3.o
      have HG3 := Lib.hid hG3
      clear hG3
      go_wp2_with fail
      go_ret
      exact ⟨_, _, rfl, by rw [HV.out]; exact HG3.out.own, HG3.out.b⟩
end Go.Proofs.YtoilcdgpeilgaaaGreat
namespace Go.Proofs.YtoilcdgpeilgaaaGreat
open Go.RowKit Go.Shelf Go.Lib
open Go.Sort hiding Below
def encSp (x : Span) : List Value := [.int .i64 x.frm, .int .i64 x.upto]
abbrev SmSpan := { x : Span // -1000 ≤ x.frm ∧ x.frm ≤ 1000 }
instance : Inhabited SmSpan := ⟨⟨⟨0, 0⟩, by decide, by decide⟩⟩
def encSm (x : SmSpan) : List Value := encSp x.1
def cmpSm (x y : SmSpan) : Int := x.1.frm - y.1.frm
theorem swoSm : Go.Sort.SWO (ltOf cmpSm) := ⟨fun x => by simp [ltOf, cmpSm], fun x y z h1 h2 => by
  have h1 : cmpSm x y < 0 := of_decide_eq_true h1
  have h2 : cmpSm y z < 0 := of_decide_eq_true h2
  refine decide_eq_true ?_
  unfold cmpSm at *
  omega, fun x y z h1 h2 => by
  have h1 : ¬ cmpSm x y < 0 := of_decide_eq_false h1
  have h2 : ¬ cmpSm y z < 0 := of_decide_eq_false h2
  refine decide_eq_false ?_
  unfold cmpSm at *
  omega⟩
section
variable {α : Type} [Inhabited α] {enc : α → List Value} {k : Nat} {w : World} {blk n j : Nat} {d' : Array α} {os : Array Obj}
theorem sortWorld_old (hj : j < w.heap.size) (hne : j ≠ blk) : (sortWorldK enc k w blk 0 n d' os).heap[j]? = w.heap[j]? := by
  have h1 : (w.heap.modify blk (Go.Sort.onCells (Go.Sort.putCells id 0 (flatK enc k d')))).size = w.heap.size := by simp
  unfold sortWorldK Go.Sort.grow putRowK Go.Sort.putRow Go.Sort.mapBlock Go.Sort.ahead
  simp only
  rw [Array.getElem?_append_left (by rw [h1]; exact hj), Array.getElem?_modify, if_neg (fun e => hne e.symm)]
theorem sortWorld_at {cur : Array Value} {e : TypeId} (h : w.heap[blk]? = some (.cells cur e (0, 0))) : (sortWorldK enc k w blk 0 n d' os).heap[blk]? = some (.cells (Go.Sort.putCells id 0 (flatK enc k d') cur) e (0, 0)) := by
  have h1 : (w.heap.modify blk (Go.Sort.onCells (Go.Sort.putCells id 0 (flatK enc k d')))).size = w.heap.size := by simp
  unfold sortWorldK Go.Sort.grow putRowK Go.Sort.putRow Go.Sort.mapBlock Go.Sort.ahead
  simp only
  rw [Array.getElem?_append_left (by rw [h1]; exact (Array.getElem?_eq_some_iff.1 h).1), Array.getElem?_modify, if_pos rfl, h]
  rfl
theorem sortWorld_size : w.heap.size ≤ (sortWorldK enc k w blk 0 n d' os).heap.size := by
  unfold sortWorldK Go.Sort.grow putRowK Go.Sort.putRow Go.Sort.mapBlock Go.Sort.ahead
  simp
theorem sortWorld_kept : Kept (fun j => j = blk) w (sortWorldK enc k w blk 0 n d' os) := ⟨rfl, rfl, rfl, sortWorld_size, fun _ hj hS => sortWorld_old hj hS⟩
end
theorem flat_at (d : Array SmSpan) (i j : Nat) (hi : i < d.size) (hj : j < 2) : (flatK encSm 2 d)[i * 2 + j]! = (encSm d[i]!)[j]! := by
  rw [get_flatK _ _ _ _ (by omega), show (i * 2 + j) / 2 = i by omega, show (i * 2 + j) % 2 = j by omega]
end Go.Proofs.YtoilcdgpeilgaaaGreat
namespace Go.Proofs.YtoilcdgpeilgaaaGreat
open Go.RowKit Go.Shelf
def spAddE (l : List Span) (legs : Int) (s : Span) : Int := if readySpE l legs s ≠ 0 then readySpE l legs s else if l.any (fun x => meetB x s) then 6 else 0
theorem readySp_ok {l : List Span} {legs : Int} {s : Span} (h : readySpE l legs s = 0) : CalOk l legs ∧ spanE s legs = 0 := by
  unfold readySpE at h
  by_cases h1 : calE l legs ≠ 0
  · rw [if_pos h1] at h; exact absurd h h1
  · rw [if_neg h1] at h; exact ⟨cal_ok (by omega), h⟩
end Go.Proofs.YtoilcdgpeilgaaaGreat
namespace Go.Proofs.YtoilcdgpeilgaaaGreat
open Go.RowKit Go.Shelf
theorem Kept.setCells {S : Nat → Prop} {g : Nat} (hg : S g) : ∀ (vs : List Value) (o : Nat) {a w : World}, Kept S a w → Kept S a (w.setCells g o vs) := by
  intro vs
  induction vs with
  | nil => intro o a w h; exact h
  | cons v vs ih => intro o a w h; exact ih (o + 1) (h.setCell (p := ⟨g, o, none⟩) (.inl hg) v)
theorem flat_sp (l : List Span) : ∀ i x, l[i]? = some x → ∀ j u, (encSp x)[j]? = some u → (l.flatMap encSp)[i * 2 + j]? = some u := by
  induction l with
  | nil => intro i x h; simp at h
  | cons y l ih =>
    intro i x h j u hu
    have hj : j < 2 := (List.getElem?_eq_some_iff.1 hu).1
    have hf : ∀ x, (encSp x).length = 2 := fun _ => rfl
    rw [List.flatMap_cons]
    cases i with
    | zero =>
      simp at h; subst h
      rw [List.getElem?_append_left (by rw [hf]; omega)]; simpa using hu
    | succ i =>
      rw [List.getElem?_append_right (by rw [hf]; omega), hf, show (i + 1) * 2 + j - 2 = i * 2 + j by omega]
      exact ih i x (by simpa using h) j u hu
theorem flat_sp_len (l : List Span) : (l.flatMap encSp).length = l.length * 2 := by
  induction l with
  | nil => rfl
  | cons y l ih => rw [List.flatMap_cons, List.length_append, ih, List.length_cons]; show 2 + _ = _; omega
theorem Own.ofSpans {w : World} {base g cap : Nat} {l : List Span} {cur : Array Value} (hb : base ≤ g) (hle : l.length ≤ cap) (hm : cap ≤ maxLen) (hg : w.heap[g]? = some (.cells cur 34 (0, 0))) (hs : cur.size = cap * 2)
    (ht : cur.toList.take (l.length * 2) = l.flatMap encSp) (hi : ∀ x ∈ l, InI x.frm ∧ InI x.upto) : Own spanC 2 34 w base (.slice (some ⟨g, 0, none⟩) l.length cap) l (l.flatMap encSp) :=
  ⟨⟨flat_sp_len l, .inr ⟨g, cap, cur, rfl, hb, hg, hle, hm, hs, ht⟩⟩, fun i x hx => ⟨encSp x, ⟨rfl, hi x (List.mem_of_getElem? hx)⟩, rfl, fun j u hu => flat_sp l i x hx j u hu⟩⟩
end Go.Proofs.YtoilcdgpeilgaaaGreat
namespace Go.Proofs.YtoilcdgpeilgaaaGreat
open Go.RowKit Go.Shelf
def insSp (s : Span) : List Span → List Span
  | [] => [s]
  | x :: l => if s.frm < x.frm then s :: x :: l else x :: insSp s l
theorem ins_perm (s : Span) (l : List Span) : (insSp s l).Perm (l ++ [s]) := by
  induction l with
  | nil => exact List.Perm.refl _
  | cons x l ih =>
    unfold insSp
    split
    · exact (List.perm_append_singleton s (x :: l)).symm
    · exact ih.cons x
theorem sorted_unique {l m : List Span} (hp : l.Perm m) (hl : l.Pairwise (fun x y => x.frm ≤ y.frm)) (hm : m.Pairwise (fun x y => x.frm < y.frm)) : l = m := by
  induction m generalizing l with
  | nil => exact hp.eq_nil
  | cons y m ih =>
    cases l with
    | nil => exact absurd hp.symm.eq_nil (by simp)
    | cons x l =>
      rw [List.pairwise_cons] at hl hm
      have hx : x ∈ y :: m := hp.subset (List.mem_cons_self ..)
      have hy : y ∈ x :: l := hp.symm.subset (List.mem_cons_self ..)
      have he : x = y := by
        rcases List.mem_cons.1 hx with e | hx
        · exact e
        · rcases List.mem_cons.1 hy with e | hy
          · exact e.symm
          · have h1 := hl.1 y hy
            have h2 := hm.1 x hx
            omega
      subst he
      rw [ih (List.Perm.cons_inv hp) hl.2 hm.2]
theorem meet_apart {x s : Span} (h : meetB x s = false) (_ : x.frm < x.upto) (_ : s.frm < s.upto) : x.upto ≤ s.frm ∨ s.upto ≤ x.frm := by
  unfold meetB at h
  simp at h
  omega
theorem ins_pair {s : Span} {l : List Span} (hs : s.frm < s.upto) (hm : ∀ x ∈ l, x.frm < x.upto) (hp : l.Pairwise (fun x y => x.upto ≤ y.frm)) (hn : l.any (fun x => meetB x s) = false) : (insSp s l).Pairwise (fun x y => x.upto ≤ y.frm) := by
  induction l with
  | nil => simp [insSp]
  | cons x l ih =>
    rw [List.pairwise_cons] at hp
    have hn' := List.any_eq_false.1 hn
    have hx := hm x (List.mem_cons_self ..)
    have hmx := meet_apart (by simpa using hn' x (List.mem_cons_self ..)) hx hs
    unfold insSp
    split
    · next h =>
      rw [List.pairwise_cons, List.pairwise_cons]
      refine ⟨fun y hy => ?_, hp⟩
      rcases List.mem_cons.1 hy with rfl | hy
      · omega
      · have h1 := hp.1 y hy
        omega
    · next h =>
      rw [List.pairwise_cons]
      refine ⟨fun y hy => ?_, ih (fun y hy => hm y (List.mem_cons_of_mem _ hy)) hp.2 (List.any_eq_false.2 fun y hy => hn' y (List.mem_cons_of_mem _ hy))⟩
      rcases List.mem_append.1 ((ins_perm s l).subset hy) with hy | hy
      · exact hp.1 y hy
      · simp only [List.mem_singleton] at hy
        subst hy
        omega
theorem add_zero {l : List Span} {legs : Int} {s : Span} (h : spAddE l legs s = 0) : CalOk l legs ∧ spanE s legs = 0 ∧ l.any (fun x => meetB x s) = false := by
  unfold spAddE at h
  by_cases h1 : readySpE l legs s ≠ 0
  · rw [if_pos h1] at h; exact absurd h h1
  · rw [if_neg h1] at h
    obtain ⟨h2, h3⟩ := readySp_ok (show readySpE l legs s = 0 by omega)
    refine ⟨h2, h3, ?_⟩
    cases q : l.any (fun x => meetB x s) with
    | false => rfl
    | true => rw [if_pos q] at h; exact absurd h (by decide)
theorem pair_lt {l : List Span} (hm : ∀ x ∈ l, x.frm < x.upto) (hp : l.Pairwise (fun x y => x.upto ≤ y.frm)) : l.Pairwise (fun x y => x.frm < y.frm) := by
  induction l with
  | nil => exact List.Pairwise.nil
  | cons x l ih =>
    rw [List.pairwise_cons] at hp ⊢
    refine ⟨fun y hy => ?_, ih (fun y hy => hm y (List.mem_cons_of_mem _ hy)) hp.2⟩
    have := hp.1 y hy
    have := hm x (List.mem_cons_self ..)
    omega
end Go.Proofs.YtoilcdgpeilgaaaGreat
namespace Go.Proofs.YtoilcdgpeilgaaaGreat
open Go.RowKit Go.Shelf
set_option maxRecDepth 100000 in
theorem span_ne (x y : Span) (W : World) : (binOp .neq 34 (.agg #[.int .i64 x.frm, .int .i64 x.upto]) (.agg #[.int .i64 y.frm, .int .i64 y.upto])).run Tryz.prog W = .ok (.bool (decide (x ≠ y))) W := by
  obtain ⟨a, b⟩ := x
  obtain ⟨c, d⟩ := y
  simp only [Span.mk.injEq, ne_eq]
  go_simp
  repeat' split
  all_goals simp_all
set_option maxHeartbeats 1000000 in
theorem SameSpans_any (A B : Option Addr) (n cap m cap2 : Nat) (l l2 : List Span) (w : World) (h : Sl spanC 2 w All A n cap l) (h2 : Sl spanC 2 w All B m cap2 l2) :
    Calls Tryz.prog 86 #[.slice A n cap, .slice B m cap2] w fun e w' => e = .returned (.bool (decide (l = l2))) ∧ ∃ q, w' = w.drewN q := by
  have hbd := h.bd
  have hlen := Lib.hid h.len
  have hlen2 := Lib.hid h2.len
  by_cases hnm : n = m
  · subst hnm
    go_enter Tryz.func86, Tryz.ntmps86
    go_wp2_with fail
    go_loopg [5] n (fun gk i wr => ∃ k q : Nat, k ≤ n ∧ n - k ≤ gk ∧ i = .int .i64 k ∧ Aside (∀ j, j < k → l[j]? = l2[j]?) ∧ wr = w.drewN q)
    case atStart => exact ⟨0, 0, Nat.zero_le _, by omega, rfl, fun j hj => absurd hj (by omega), rfl⟩
    case round =>
      obtain ⟨k, q, hk, hgk, rfl, HE, rfl⟩ := hrel
      by_cases hlt : k < n
      · obtain ⟨b, off, x, c0, c1, rfl, hx, hc, g0, g1⟩ := h.at2 hlt
        obtain ⟨hc, hw⟩ := hc
        simp only [List.cons.injEq, and_true] at hc
        obtain ⟨rfl, rfl⟩ := hc
        obtain ⟨b', off', y, d0, d1, rfl, hy, hd, e0, e1⟩ := h2.at2 hlt
        obtain ⟨hd, hw'⟩ := hd
        simp only [List.cons.injEq, and_true] at hd
        obtain ⟨rfl, rfl⟩ := hd
        have HX := Lib.hid hx
        have HY := Lib.hid hy
        clear hx hy
        have hqn := fun W => span_ne x y W
        by_cases hxy : x = y
        · have he : (decide (x ≠ y)) = false := by subst hxy; simp
          have HXY := Lib.hid hxy
          clear hxy
          go_wp2_with fail
          go_quiet (fail)
          go_wp2_with fail
          go_roundg (n - (k + 1))
          case measure => omega
          case rel =>
            refine ⟨k + 1, _, by omega, by omega, by go_num, (show Aside _ from fun j hj => ?_), rfl⟩
            by_cases e : j = k
            · subst e; rw [HX.out, HY.out, HXY.out]
            · exact HE.out j (by omega)
        · have he : (decide (x ≠ y)) = true := by simpa using hxy
          have HXY := Lib.hid hxy
          clear hxy
          go_wp2_with fail
          go_quiet (fail)
          go_wp2_with fail
          go_ret
          refine ⟨retB ?_, _, World.drewN_drewN _ _ _⟩
          symm
          rw [decide_eq_false_iff_not]
          intro hll
          subst hll
          rw [HX.out] at HY
          exact HXY.out (by have := HY.out; injection this)
      · obtain rfl : k = n := by omega
        have hll : l = l2 := by
          apply List.ext_getElem?
          intro j
          by_cases hj : j < k
          · exact HE.out j hj
          · rw [List.getElem?_eq_none (by rw [hlen.out]; omega), List.getElem?_eq_none (by rw [hlen2.out]; omega)]
        have HLL := Lib.hid hll
        clear hll
        go_wp2_with fail
        go_ret
        exact ⟨retB (by rw [decide_eq_true HLL.out]), _, rfl⟩
  · have hnm' : ((n : Int) != (m : Int)) = true := by simp; omega
    have hll : ¬ l = l2 := fun e => hnm (by rw [← hlen.out, ← hlen2.out, e])
    have HLL := Lib.hid hll
    clear hll hnm
    go_enter Tryz.func86, Tryz.ntmps86
    go_wp2_with fail
    go_ret
    exact ⟨retB (by rw [decide_eq_false HLL.out]), 0, rfl⟩
theorem Sl.ofSpans {w : World} {S : Nat → Prop} {b : Nat} {cs : Array Value} {t : TypeId} (l : List Span) (h : Blk w b cs t) (hl : l.length ≤ 1000) (hS : S b) (he : cs.toList = l.flatMap encSp) (hi : ∀ x ∈ l, InI x.frm ∧ InI x.upto) :
    Sl spanC 2 w S (some ⟨b, 0, none⟩) l.length l.length l :=
  Sl.ofBlk h l (by omega) hS fun i x hx => ⟨encSp x, ⟨rfl, hi x (List.mem_of_getElem? hx)⟩, rfl, fun j u hu => by
    have := flat_sp l i x hx j u hu
    rw [← he] at this
    simpa using this⟩
end Go.Proofs.YtoilcdgpeilgaaaGreat
namespace Go.Proofs.YtoilcdgpeilgaaaGreat
open Go.RowKit Go.Shelf
def inLeg (i : Int) (x : Span) : Bool := decide (x.frm ≤ i) && decide (i < x.upto)
def cnt (i : Int) (l : List Span) : Int := ((l.filter (inLeg i)).length : Int)
end Go.Proofs.YtoilcdgpeilgaaaGreat
namespace Go.Proofs.YtoilcdgpeilgaaaGreat
open Go.RowKit Go.Shelf
def OkSp (x : Span) : Prop := 0 ≤ x.frm ∧ x.frm < x.upto ∧ x.upto ≤ 7
def legB (i : Int) (x : Span) : Bool := betB i x.frm (x.upto - 1)
theorem meet_leg {x y : Span} (_ : OkSp x) (_ : OkSp y) {i : Int} (h : legB i x = true) (h2 : legB i y = true) : meetB x y = true := by
  unfold legB at h h2
  rw [betB_iff] at h h2
  unfold meetB
  simp
  omega
theorem meet_none {x y : Span} (hx : OkSp x) (hy : OkSp y) (h : ∀ i : Nat, i < 7 → (legB i x && legB i y) = false) : meetB x y = false := by
  cases q : meetB x y with
  | false => rfl
  | true =>
    unfold meetB at q
    simp at q
    obtain ⟨h1, h2, h3⟩ := hx
    obtain ⟨h4, h5, h6⟩ := hy
    obtain ⟨i, hi⟩ := Int.eq_ofNat_of_zero_le (show 0 ≤ max x.frm y.frm by omega)
    have := h i (by omega)
    rw [show legB (i : Int) x = true from betB_true (by omega) (by omega), show legB (i : Int) y = true from betB_true (by omega) (by omega)] at this
    exact absurd this (by decide)
set_option maxRecDepth 100000 in
set_option maxHeartbeats 2000000 in
theorem DoMeet_any (x y : Span) (w : World) (hx : OkSp x) (hy : OkSp y) : Calls Tryz.prog 245 #[.agg #[.int .i64 x.frm, .int .i64 x.upto], .agg #[.int .i64 y.frm, .int .i64 y.upto]] w fun e w' => e = .returned (.bool (meetB x y)) ∧ Below w.heap.size w w' := by
  obtain ⟨r, hr⟩ : ∃ r, r = meetB x y := ⟨_, rfl⟩
  rw [← hr]
  have hw1 : wrap64 (x.upto - 1) = x.upto - 1 := by unfold OkSp at hx; unfold wrap64; omega
  have hw2 : wrap64 (y.upto - 1) = y.upto - 1 := by unfold OkSp at hy; unfold wrap64; omega
  have HX := Lib.hid hx
  clear hx
  have HY := Lib.hid hy
  clear hy
  have HR := Lib.hid hr
  clear hr
  go_enter Tryz.func245, Tryz.ntmps245
  go_upto_region 0 with (fail)
  go_cut [2, 3] (fun p q wx => ∃ g k, p = .pointer (some ⟨g, 0, none⟩) ∧ q = .pointer (some ⟨k, 0, none⟩) ∧ SpanAt wx g x.frm x.upto ∧ SpanAt wx k y.frm y.upto ∧ Below w.heap.size w wx)
  case first => as_aux_lemma =>
    go_wp2_with fail
    go_meet
    exact ⟨_, _, rfl, rfl, blk2_0 _ _ _, blk2_1 _ _ _, bel2 _ _ _⟩
  obtain ⟨g, k, rfl, rfl, hS, hT, hb⟩ := hcut
  have c0 := hS.c0
  have c1 := hS.c1
  have d0 := hT.c0
  have d1 := hT.c1
  go_wp2_with fail
  go_loopg [5] 7 (fun gk i wr => ∃ k : Nat, k ≤ 7 ∧ 7 - k ≤ gk ∧ i = .int .i64 k ∧ Aside (∀ j : Nat, j < k → (legB j x && legB j y) = false) ∧ wr = wc)
  case atStart => exact ⟨0, by omega, by omega, rfl, fun j hj => absurd hj (by omega), rfl⟩
  case round =>
    obtain ⟨i, hi, hgi, rfl, HE, rfl⟩ := hrel
    by_cases hlt : i < 7
    · go_wp2_with fail
      refine (between_any (i : Int) x.frm (x.upto - 1) _).mono ?_
      rintro e w9 ⟨rfl, rfl⟩
      have HL := Lib.hid (show legB (i : Int) x = betB (i : Int) x.frm (x.upto - 1) from rfl)
      have HL2 := Lib.hid (show legB (i : Int) y = betB (i : Int) y.frm (y.upto - 1) from rfl)
      cases q_HB1 : betB (i : Int) x.frm (x.upto - 1) <;> have HB1 := Lib.hid q_HB1 <;> clear q_HB1
      · go_wp2_with fail
        go_roundg (7 - (i + 1))
        case measure => omega
        case rel => exact ⟨i + 1, by omega, by omega, by go_num, (show Aside _ from fun j hj => by
          by_cases e : j = i
          · subst e; rw [HL.out, HB1.out]; rfl
          · exact HE j (by omega)), rfl⟩
      · go_wp2_with fail
        refine (between_any (i : Int) y.frm (y.upto - 1) _).mono ?_
        rintro e w9 ⟨rfl, rfl⟩
        cases q_HB2 : betB (i : Int) y.frm (y.upto - 1) <;> have HB2 := Lib.hid q_HB2 <;> clear q_HB2
        · go_wp2_with fail
          go_roundg (7 - (i + 1))
          case measure => omega
          case rel => exact ⟨i + 1, by omega, by omega, by go_num, (show Aside _ from fun j hj => by
            by_cases e : j = i
            · subst e; rw [HL2.out, HB2.out, Bool.and_false]
            · exact HE j (by omega)), rfl⟩
        · obtain rfl : r = true := by rw [HR.out]; exact meet_leg HX.out HY.out (HL.out.trans HB1.out) (HL2.out.trans HB2.out)
          go_wp2_with fail
          go_ret
          exact ⟨rfl, hb⟩
    · obtain rfl : i = 7 := by omega
      obtain rfl : r = false := by rw [HR.out]; exact meet_none HX.out HY.out fun j hj => HE j hj
      go_wp2_with fail
      go_ret
      exact ⟨rfl, hb⟩
end Go.Proofs.YtoilcdgpeilgaaaGreat
namespace Go.Proofs.YtoilcdgpeilgaaaGreat
open Go.RowKit Go.Shelf
def putB (s : Span) (l : List Span) : Bool := l.any (fun x => decide (s.frm < x.frm))
def spPutL (s : Span) (l : List Span) : List Span := if putB s l then insSp s l else l
theorem ins_none {s : Span} {m : List Span} (h : putB s m = false) (r : List Span) : insSp s (m ++ r) = m ++ insSp s r := by
  induction m with
  | nil => rfl
  | cons y m ih =>
    unfold putB at h
    rw [List.any_cons, Bool.or_eq_false_iff] at h
    have hy : ¬ s.frm < y.frm := of_decide_eq_false h.1
    show insSp s (y :: (m ++ r)) = y :: (m ++ insSp s r)
    rw [insSp, if_neg hy, ih h.2]
theorem ins_put {s x : Span} {m : List Span} (h : putB s m = true) : insSp s (m ++ [x]) = insSp s m ++ [x] := by
  induction m with
  | nil => simp [putB] at h
  | cons y m ih =>
    show insSp s (y :: (m ++ [x])) = _
    rw [insSp, insSp]
    by_cases hy : s.frm < y.frm
    · rw [if_pos hy, if_pos hy]; rfl
    · rw [if_neg hy, if_neg hy]
      unfold putB at h
      rw [List.any_cons, decide_eq_false hy, Bool.false_or] at h
      rw [ih h]; rfl
theorem putB_succ {s x : Span} {l : List Span} {k : Nat} (h : l[k]? = some x) : putB s (l.take (k + 1)) = (putB s (l.take k) || decide (s.frm < x.frm)) := any_take_succ h
theorem putL_put {s x : Span} {l : List Span} {k : Nat} (h : l[k]? = some x) (hp : putB s (l.take k) = true) : spPutL s (l.take (k + 1)) = spPutL s (l.take k) ++ [x] := by
  unfold spPutL
  rw [putB_succ h, hp, Bool.true_or, if_pos rfl, if_pos rfl, take_snoc h, ins_put hp]
theorem putL_now {s x : Span} {l : List Span} {k : Nat} (h : l[k]? = some x) (hp : putB s (l.take k) = false) (hx : s.frm < x.frm) : spPutL s (l.take (k + 1)) = spPutL s (l.take k) ++ [s] ++ [x] := by
  unfold spPutL
  rw [putB_succ h, hp, decide_eq_true hx, Bool.false_or, if_pos rfl, if_neg (by simp), take_snoc h, ins_none hp]
  rw [insSp, if_pos hx]; simp
theorem putL_not {s x : Span} {l : List Span} {k : Nat} (h : l[k]? = some x) (hp : putB s (l.take k) = false) (hx : ¬ s.frm < x.frm) : spPutL s (l.take (k + 1)) = spPutL s (l.take k) ++ [x] := by
  unfold spPutL
  rw [putB_succ h, hp, decide_eq_false hx, Bool.or_false, if_neg (by simp), if_neg (by simp), take_snoc h]
theorem putL_len (s : Span) (l : List Span) : (spPutL s l).length ≤ l.length + 1 := by
  unfold spPutL
  split
  · have := (ins_perm s l).length_eq; rw [this]; simp
  · omega
theorem ins_end {s : Span} {l : List Span} (h : putB s l = false) : insSp s l = l ++ [s] := by
  have := ins_none h []
  rwa [List.append_nil] at this
def adE (l : List Span) (s : Span) : Int := if l.any (fun x => meetB x s) then 6 else 0
set_option maxRecDepth 100000 in
set_option maxHeartbeats 8000000 in
theorem AddSpan_any (A : Option Addr) (n cap : Nat) (l : List Span) (s : Span) (w : World) (h : Sl spanC 2 w All A n cap l) (hl : l.length ≤ 1000) (hok : ∀ x ∈ l, OkSp x) (hs : OkSp s) (is0 : InI s.frm) (is1 : InI s.upto) :
    Calls Tryz.prog 206 #[.slice A n cap, .agg #[.int .i64 s.frm, .int .i64 s.upto]] w fun e w' => ∃ v xs, e = .returned (.tuple #[v, .int .i64 (adE l s)]) ∧
      Own spanC 2 34 w' w.heap.size v (okL (adE l s) (insSp s l)) xs ∧ Below w.heap.size w w' := by
  have hbd := h.bd
  have HLN := Lib.hid h.len
  obtain ⟨u, hu⟩ : ∃ u, u = adE l s := ⟨_, rfl⟩
  obtain ⟨R, hR⟩ : ∃ R, R = insSp s l := ⟨_, rfl⟩
  rw [← hu, ← hR]
  have HU := Lib.hid hu
  clear hu
  have HR := Lib.hid hR
  clear hR
  have hn1 : n ≤ 1000 := by rw [← HLN.out]; exact hl
  have HOK := Lib.hid hok
  clear hok
  have HS := Lib.hid hs
  clear hs
  clear hl
  go_enter Tryz.func206, Tryz.ntmps206
  go_upto_region 0 with (fail)
  go_cut [3] (fun p wx => ∃ g, p = .pointer (some ⟨g, 0, none⟩) ∧ SpanAt wx g s.frm s.upto ∧ Below w.heap.size w wx)
  case first => as_aux_lemma =>
    go_wp2_with fail
    go_meet
    exact ⟨_, rfl, blk1 _ _, bel1 _ _⟩
  obtain ⟨g, rfl, hS, hb0⟩ := hcut
  replace h := h.bel hb0
  obtain ⟨W0, hW0⟩ : ∃ W0, W0 = wc := ⟨_, rfl⟩
  have HSA := Lib.hid hS
  have HH := Lib.hid h
  have HB0 := Lib.hid hb0
  clear hS h hb0
  subst hW0
  go_wp2_with fail
  go_loopg [6, 7, 8] n (fun gk o p i wr => ∃ k : Nat, k ≤ n ∧ n - k ≤ gk ∧ i = .int .i64 k ∧ p = .bool (putB s (l.take k)) ∧ Aside ((l.take k).any (fun x => meetB x s) = false) ∧ ∃ xs, Own spanC 2 34 wr W0.heap.size o (spPutL s (l.take k)) xs ∧ Below W0.heap.size W0 wr)
  case atStart => exact ⟨0, Nat.zero_le _, by omega, rfl, rfl, rfl, [], Own.nil _ _ _ _ _, Below.refl _ _⟩
  case round =>
    obtain ⟨k, hk, hgk, rfl, rfl, HE, xs, hO, hb⟩ := hrel
    obtain ⟨A2, n2, cap2, rfl, _⟩ := hO.sl spanC_good
    obtain ⟨L, hL⟩ : ∃ L, L = spPutL s (l.take k) := ⟨_, rfl⟩
    obtain ⟨p, hp⟩ : ∃ p, p = putB s (l.take k) := ⟨_, rfl⟩
    rw [← hL] at hO
    rw [← hp]
    have hfl : L.length ≤ 1001 := by
      rw [hL]
      have h1 := putL_len s (l.take k)
      have h2 := List.length_take_le k l
      omega
    have HFL := Lib.hid hfl
    have HL := Lib.hid hL
    clear hL
    have HP := Lib.hid hp
    clear hp
    clear hfl
    by_cases hlt : k < n
    · obtain ⟨b, off, x, c0, c1, rfl, hx, ⟨hc, x0, x1⟩, g0, g1⟩ := HH.out.at2 hlt
      simp only [List.cons.injEq, and_true] at hc
      obtain ⟨rfl, rfl⟩ := hc
      have lb := cell_lt g0
      have cel : ∀ X, Below W0.heap.size W0 X → X.cell? ⟨b, off + k * 2, none⟩ = some (.int .i64 x.frm) ∧ X.cell? ⟨b, off + k * 2 + 1, none⟩ = some (.int .i64 x.upto) ∧ X.cell? ⟨g, 0, none⟩ = some (.int .i64 s.frm) ∧ X.cell? ⟨g, 1, none⟩ = some (.int .i64 s.upto) := fun X hX =>
        ⟨(hX.cell (p := ⟨b, off + k * 2, none⟩) lb).trans g0, (hX.cell (p := ⟨b, off + k * 2 + 1, none⟩) lb).trans g1, (HSA.out.below hX).c0, (HSA.out.below hX).c1⟩
      have hmt := fun W => DoMeet_any x s W (HOK.out x (List.mem_of_getElem? hx)) HS.out
      obtain ⟨q, hq⟩ : ∃ q, q = meetB x s := ⟨_, rfl⟩
      rw [← hq] at hmt
      have HMT := Lib.hid hmt
      clear hmt
      have HX := Lib.hid hx
      clear hx
      have HQ := Lib.hid hq
      clear hq
      have CEL := Lib.hid cel
      clear cel
      clear g0 g1
      obtain ⟨d0, d1, d2, d3⟩ := CEL.out _ hb
      go_upto_region 6 with (fail)
      go_cut [20] (fun t wx => t = .bool q ∧ Below wr.heap.size wr wx)
      case first => as_aux_lemma =>
        go_region_with (go_at_call 245; refine (HMT.out _).mono ?_; rintro e wn ⟨rfl, hbn⟩)
        all_goals
          go_wp2_with fail
          go_meet
          exact ⟨rfl, (Below.refl _ wr).drew.trans hbn⟩
      obtain ⟨rfl, hb4⟩ := hcut
      replace hO := hO.bel hb4
      replace hb := hb.trans (hb4.mono hb.size)
      clear hb4 d0 d1 d2 d3
      obtain ⟨d0, d1, d2, d3⟩ := CEL.out _ hb
      cases q
      · have HE2 := Lib.hid (show (l.take (k + 1)).any (fun x => meetB x s) = false by rw [any_take_succ HX.out, HE, ← HQ.out]; rfl)
        cases p
        · by_cases hc : s.frm < x.frm
          · have hd : decide (s.frm < x.frm) = true := decide_eq_true hc
            have HV := Lib.hid (show spPutL s (l.take (k + 1)) = L ++ [s] ++ [x] by rw [HL.out]; exact putL_now HX.out HP.out.symm hc)
            have HV2 := Lib.hid (show putB s (l.take (k + 1)) = true by rw [putB_succ HX.out, ← HP.out, decide_eq_true hc]; rfl)
            clear hc
            go_wp2_with fail
            go_quiet (fail)
            have hbq := below_drewN hb nq
            have hOs := (hO.bel (below_drewN (Below.refl wc.heap.size wc) nq)).below spanC_good (bel1 (wc.drewN nq) (.cells #[.int .i64 s.frm, .int .i64 s.upto] 34))
            have hsz := hbq.size
            have hss : W0.heap.size ≤ ((wc.drewN nq).alloc (.cells #[.int .i64 s.frm, .int .i64 s.upto] 34)).heap.size := by simp; have := hb.size; omega
            go_wp2_with (first
              | (at_builtin; refine list_app (t := 104) (e := 34) (bytes := 16) rfl (.tmp 37) (.tmp 42) rfl span_elem spanC_good rfl hOq rfl (sl_span _ All x.frm x.upto 34 x0 x1 trivial) (fun _ _ hc => hc) (by have := HFL.out; first | omega | (simp; omega)) (by omega) hsq ?_; intro v' w' xs' hown' hg' _)
              | (at_builtin; refine list_app (t := 104) (e := 34) (bytes := 16) rfl (.tmp 33) (.tmp 35) rfl span_elem spanC_good rfl hOs rfl (sl_span _ All s.frm s.upto 34 is0 is1 trivial) (fun _ _ hc => hc) (by have := HFL.out; omega) (by omega) hss ?_; intro v1 w1 xs1 hown1 hg1 _; have hb1 := below_app (hbq.alloc hsz _) hOs hg1 hss; have hOq := hown1.below spanC_good (bel1 w1 (.cells #[.int .i64 x.frm, .int .i64 x.upto] 34)); have hsq : W0.heap.size ≤ (w1.alloc (.cells #[.int .i64 x.frm, .int .i64 x.upto] 34)).heap.size := Nat.le_trans hb1.size (by simp); have hba := hb1.alloc hb1.size (.cells #[.int .i64 x.frm, .int .i64 x.upto] 34); obtain ⟨f0, f1, f2, f3⟩ := CEL.out _ hb1; obtain ⟨A4, n4, c4, rfl, _⟩ := hown1.sl spanC_good))
            go_roundg (n - (k + 1))
            case measure => omega
            case rel => exact ⟨k + 1, by omega, by omega, by go_num, by rw [HV2.out], HE2.out, xs', by rw [HV.out]; exact hown', below_app hba hOq hg' hsq⟩
          · have hd : decide (s.frm < x.frm) = false := decide_eq_false hc
            have HV := Lib.hid (show spPutL s (l.take (k + 1)) = L ++ [x] by rw [HL.out]; exact putL_not HX.out HP.out.symm hc)
            have HV2 := Lib.hid (show putB s (l.take (k + 1)) = false by rw [putB_succ HX.out, ← HP.out, decide_eq_false hc]; rfl)
            clear hc
            go_wp2_with fail
            go_quiet (fail)
            have hbq := below_drewN hb nq
            have hOq := (hO.bel (below_drewN (Below.refl wc.heap.size wc) nq)).below spanC_good (bel1 (wc.drewN nq) (.cells #[.int .i64 x.frm, .int .i64 x.upto] 34))
            have hsz := hbq.size
            have hsq : W0.heap.size ≤ ((wc.drewN nq).alloc (.cells #[.int .i64 x.frm, .int .i64 x.upto] 34)).heap.size := by simp; have := hb.size; omega
            go_wp2_with (at_builtin; refine list_app (t := 104) (e := 34) (bytes := 16) rfl (.tmp 37) (.tmp 42) rfl span_elem spanC_good rfl hOq rfl (sl_span _ All x.frm x.upto 34 x0 x1 trivial) (fun _ _ hc => hc) (by have := HFL.out; first | omega | (simp; omega)) (by omega) hsq ?_; intro v' w' xs' hown' hg' _)
            go_roundg (n - (k + 1))
            case measure => omega
            case rel => exact ⟨k + 1, by omega, by omega, by go_num, by rw [HV2.out], HE2.out, xs', by rw [HV.out]; exact hown', below_app (hbq.alloc hsz _) hOq hg' hsq⟩
        · have HV := Lib.hid (show spPutL s (l.take (k + 1)) = L ++ [x] by rw [HL.out]; exact putL_put HX.out HP.out.symm)
          have HV2 := Lib.hid (show putB s (l.take (k + 1)) = true by rw [putB_succ HX.out, ← HP.out]; rfl)
          go_wp2_with fail
          go_quiet (fail)
          have hbq := below_drewN hb nq
          have hOq := (hO.bel (below_drewN (Below.refl wc.heap.size wc) nq)).below spanC_good (bel1 (wc.drewN nq) (.cells #[.int .i64 x.frm, .int .i64 x.upto] 34))
          have hsz := hbq.size
          have hsq : W0.heap.size ≤ ((wc.drewN nq).alloc (.cells #[.int .i64 x.frm, .int .i64 x.upto] 34)).heap.size := by simp; have := hb.size; omega
          go_wp2_with (at_builtin; refine list_app (t := 104) (e := 34) (bytes := 16) rfl (.tmp 37) (.tmp 42) rfl span_elem spanC_good rfl hOq rfl (sl_span _ All x.frm x.upto 34 x0 x1 trivial) (fun _ _ hc => hc) (by have := HFL.out; first | omega | (simp; omega)) (by omega) hsq ?_; intro v' w' xs' hown' hg' _)
          go_roundg (n - (k + 1))
          case measure => omega
          case rel => exact ⟨k + 1, by omega, by omega, by go_num, by rw [HV2.out], HE2.out, xs', by rw [HV.out]; exact hown', below_app (hbq.alloc hsz _) hOq hg' hsq⟩
      · obtain rfl : u = 6 := by rw [HU.out]; exact if_pos (any_at HX.out HQ.out.symm)
        go_wp2_with fail
        go_ret2
        exact ⟨_, _, rfl, Own.nil _ _ _ _ _, HB0.out.trans (hb.mono HB0.out.size)⟩
    · obtain rfl : k = n := by omega
      have hT : l.take k = l := List.take_of_length_le (Nat.le_of_eq HLN.out)
      rw [hT] at HE
      obtain rfl : u = 0 := by rw [HU.out]; exact if_neg (by rw [HE]; simp)
      have hLe : L = spPutL s l := by rw [HL.out, hT]
      have hPe : p = putB s l := by rw [HP.out, hT]
      obtain ⟨_, _, d2, d3⟩ : True ∧ True ∧ wr.cell? ⟨g, 0, none⟩ = some (.int .i64 s.frm) ∧ wr.cell? ⟨g, 1, none⟩ = some (.int .i64 s.upto) := ⟨trivial, trivial, (HSA.out.below hb).c0, (HSA.out.below hb).c1⟩
      have hbb := HB0.out.trans (hb.mono HB0.out.size)
      cases p
      · have HV := Lib.hid (show L ++ [s] = R by rw [HR.out, ins_end hPe.symm, hLe]; unfold spPutL; rw [← hPe]; rfl)
        have hOs := hO.below spanC_good (bel1 wr (.cells #[.int .i64 s.frm, .int .i64 s.upto] 34))
        have hsz := hb.size
        have hss : W0.heap.size ≤ (wr.alloc (.cells #[.int .i64 s.frm, .int .i64 s.upto] 34)).heap.size := by simp; omega
        have HBB := Lib.hid hbb
        clear hT hLe hPe hbb
        go_wp2_with (at_builtin; refine list_app (t := 104) (e := 34) (bytes := 16) rfl (.tmp 46) (.tmp 48) rfl span_elem spanC_good rfl hOs rfl (sl_span _ All s.frm s.upto 34 is0 is1 trivial) (fun _ _ hc => hc) (by have := HFL.out; omega) (by omega) hss ?_; intro v1 w1 xs1 hown1 hg1 _; have hb1 := below_app (hb.alloc hsz _) hOs hg1 hss; obtain ⟨A4, n4, c4, rfl, _⟩ := hown1.sl spanC_good)
        go_ret2
        exact ⟨_, xs1, rfl, by rw [okL_zero, ← HV.out]; exact hown1.mono spanC_good HB0.out.size, HB0.out.trans (hb1.mono HB0.out.size)⟩
      · have HV := Lib.hid (show L = R by rw [HR.out, hLe]; unfold spPutL; rw [← hPe]; rfl)
        have HBB := Lib.hid hbb
        have HO := Lib.hid hO
        clear hT hLe hPe hbb hO
        go_wp2_with fail
        go_ret2
        exact ⟨_, _, rfl, by rw [okL_zero, ← HV.out]; exact HO.out.mono spanC_good HB0.out.size, HBB.out⟩
end Go.Proofs.YtoilcdgpeilgaaaGreat
