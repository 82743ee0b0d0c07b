/-
  Spans: what a right calendar is; Gaps, Free.
-/
import Derived.Test.YtpodgidamoiakaaSpanB
namespace Go.Proofs.Ytpodgidamoiakaa
open Go.RowKit Go.Shelf

theorem firstErr_none {f : Nat → Int} : ∀ {n : Nat}, firstErr f n = 0 → ∀ i, i < n → f i = 0 := by
  intro n
  induction n with
  | zero => intro _ i hi; omega
  | succ n ih =>
    intro h i hi
    simp only [firstErr] at h
    by_cases e : firstErr f n = 0
    · rw [if_pos e] at h
      by_cases e2 : i = n
      · rw [e2]; exact h
      · exact ih e i (by omega)
    · rw [if_neg e] at h; exact absurd h e
theorem firstErr_all {f : Nat → Int} {n : Nat} (h : ∀ i, i < n → f i = 0) : firstErr f n = 0 := by
  induction n with
  | zero => rfl
  | succ n ih => rw [firstErr_succ (ih fun i hi => h i (by omega))]; exact h n (by omega)

theorem span_ok {s : Span} {legs : Int} (h : spanE s legs = 0) : 1 ≤ legs ∧ legs ≤ 7 ∧ 0 ≤ s.frm ∧ s.frm < s.upto ∧ s.upto ≤ legs := by
  unfold spanE at h
  by_cases e : legsB legs = false ∨ s.frm < 0 ∨ legs < s.upto
  · rw [if_pos e] at h; omega
  · rw [if_neg e] at h
    by_cases e2 : s.upto ≤ s.frm
    · rw [if_pos e2] at h; omega
    · have hl : betB legs 1 7 = true := by
        cases q : betB legs 1 7 with
        | true => rfl
        | false => exact absurd (.inl q) e
      have := betB_iff.1 hl
      omega
theorem span_zero {s : Span} {legs : Int} (h0 : 1 ≤ legs) (h1 : legs ≤ 7) (h2 : 0 ≤ s.frm) (h3 : s.frm < s.upto) (h4 : s.upto ≤ legs) : spanE s legs = 0 := by
  unfold spanE
  rw [if_neg (by rw [show legsB legs = true from betB_true h0 h1]; simp; omega), if_neg (by omega)]

/-- What is so of a calendar that is right. -/
structure CalOk (l : List Span) (legs : Int) : Prop where
  lo : 1 ≤ legs
  hi : legs ≤ 7
  el : ∀ (i : Nat) (x : Span), l[i]? = some x → 0 ≤ x.frm ∧ x.frm < x.upto ∧ x.upto ≤ legs
  ord : ∀ (i : Nat) (x y : Span), l[i]? = some x → l[i + 1]? = some y → x.upto ≤ y.frm
theorem cal_ok {l : List Span} {legs : Int} (h : calE l legs = 0) : CalOk l legs := by
  unfold calE at h
  cases q : legsB legs with
  | false => rw [if_pos q] at h; omega
  | true =>
    rw [if_neg (by simp [q])] at h
    have hall := firstErr_none h
    have hl := betB_iff.1 q
    have one : ∀ (i : Nat) (x : Span), l[i]? = some x → spanE x legs = 0 ∧ ¬ (0 < i ∧ x.frm < (l[i - 1]?.getD default).upto) := fun i x hx => by
      have hi := hall i (List.getElem?_eq_some_iff.1 hx).1
      unfold calErr at hi
      rw [hx, Option.getD_some] at hi
      by_cases e1 : spanE x legs = 0
      · rw [if_neg (by simp [e1])] at hi
        refine ⟨e1, fun e2 => ?_⟩
        rw [if_pos e2] at hi; omega
      · rw [if_pos e1] at hi; exact absurd hi e1
    refine ⟨hl.1, hl.2, fun i x hx => ?_, fun i x y hx hy => ?_⟩
    · have := span_ok (one i x hx).1; omega
    · have := (one _ y hy).2
      rw [show i + 1 - 1 = i by omega, hx, Option.getD_some] at this
      omega
theorem cal_zero {l : List Span} {legs : Int} (h : CalOk l legs) : calE l legs = 0 := by
  unfold calE
  rw [if_neg (by rw [show legsB legs = true from betB_true h.lo h.hi]; simp)]
  refine firstErr_all fun i hi => ?_
  unfold calErr
  have hx : l[i]? = some l[i] := List.getElem?_eq_getElem hi
  have h1 := h.el i _ hx
  rw [hx, Option.getD_some, if_neg (by rw [span_zero h.lo h.hi h1.1 h1.2.1 h1.2.2]; simp), if_neg]
  rintro ⟨h0, h2⟩
  have hy : l[i - 1]? = some l[i - 1] := List.getElem?_eq_getElem (by omega)
  rw [hy, Option.getD_some] at h2
  have := h.ord (i - 1) _ _ hy (by rw [show i - 1 + 1 = i by omega]; exact hx)
  omega
theorem CalOk.ge {l : List Span} {legs : Int} (h : CalOk l legs) : ∀ (i : Nat) (x : Span), l[i]? = some x → (i : Int) + 1 ≤ x.upto := by
  intro i
  induction i with
  | zero => intro x hx; have := h.el 0 x hx; omega
  | succ i ih =>
    intro y hy
    have hi : i < l.length := by have := (List.getElem?_eq_some_iff.1 hy).1; omega
    have h1 := ih _ (List.getElem?_eq_getElem hi)
    have h2 := h.ord i _ y (List.getElem?_eq_getElem hi) hy
    have h3 := h.el _ y hy
    omega
theorem CalOk.len {l : List Span} {legs : Int} (h : CalOk l legs) : (l.length : Int) ≤ legs := by
  rcases Nat.eq_zero_or_pos l.length with e | e
  · have := h.lo; omega
  · have h1 := h.ge (l.length - 1) _ (List.getElem?_eq_getElem (by omega))
    have h2 := h.el (l.length - 1) _ (List.getElem?_eq_getElem (by omega))
    omega
/-- Of two spans of a right calendar the later one begins where the other ends, or behind it. -/
theorem CalOk.apart {l : List Span} {legs : Int} (h : CalOk l legs) : ∀ {i j : Nat} {x y : Span}, i < j → l[i]? = some x → l[j]? = some y → x.upto ≤ y.frm := by
  intro i j x y hij
  induction j generalizing y with
  | zero => omega
  | succ j ih =>
    intro hx hy
    by_cases e : i = j
    · subst e; exact h.ord _ x y hx hy
    · have hj : j < l.length := by have := (List.getElem?_eq_some_iff.1 hy).1; omega
      have h1 := ih (y := l[j]) (by omega) hx (List.getElem?_eq_getElem hj)
      have h2 := h.ord j _ y (List.getElem?_eq_getElem hj) hy
      have h3 := h.el j _ (List.getElem?_eq_getElem hj)
      omega

/-- What is free between two ends. -/
def gap (a b : Int) : List Span := if a < b then [⟨a, b⟩] else []
def gapF (acc : List Span × Int) (s : Span) : List Span × Int := (acc.1 ++ gap acc.2 s.frm, s.upto)
def gapsS (l : List Span) : List Span × Int := l.foldl gapF ([], 0)
/-- What is free. -/
def gapsL (l : List Span) (legs : Int) : List Span := (gapsS l).1 ++ gap (gapsS l).2 legs
theorem gapsS_snoc (l : List Span) (x : Span) : gapsS (l ++ [x]) = gapF (gapsS l) x := by simp [gapsS]
theorem gap_len (a b : Int) : (gap a b).length ≤ 1 := by unfold gap; split <;> simp
theorem gapsS_len (l : List Span) : (gapsS l).1.length ≤ l.length := by
  have key : ∀ (l : List Span) (acc : List Span × Int), (l.foldl gapF acc).1.length ≤ acc.1.length + l.length := by
    intro l
    induction l with
    | nil => intro acc; simp
    | cons x l ih =>
      intro acc
      rw [List.foldl_cons]
      have h1 := ih (gapF acc x)
      have h2 := gap_len acc.2 x.frm
      simp only [gapF, List.length_append, List.length_cons] at h1 ⊢
      omega
  have := key l ([], 0)
  simpa [gapsS] using this
theorem gapsS_in {l : List Span} (h : ∀ x ∈ l, InI x.upto) : InI (gapsS l).2 := by
  rcases List.eq_nil_or_concat l with rfl | ⟨l', x, rfl⟩
  · exact .of (by decide) (by decide)
  · rw [List.concat_eq_append, gapsS_snoc]; exact h x (by simp)

/-- 'out' and 'at' between two calls of 'gap'. -/
structure Gapw (w : World) (O D : Nat) (t : Int) (l : List Span) (W : World) (A : Option Addr) (n cap : Nat) (xs : List Value) : Prop where
  o : W.heap[O]? = some (.cells #[.slice A n cap] 43 (0, 0))
  d : W.heap[D]? = some (.cells #[.int .i64 t] 3 (0, 0))
  own : Own spanC 2 45 W w.heap.size (.slice A n cap) l xs
  ne : (Value.slice A n cap).ownBlock ≠ some O
  neD : (Value.slice A n cap).ownBlock ≠ some D
  od : O ≠ D
  b : Below w.heap.size w W
  le : w.heap.size ≤ O
  leD : w.heap.size ≤ D
  len : l.length ≤ 10000

def Gapped (w : World) (O D : Nat) (t : Int) (l : List Span) (W : World) (r : Option Nat) (W' : World) : Prop :=
  ∃ A n cap xs, Gapw w O D t l W' A n cap xs ∧ ∀ k, k < W.heap.size → k ≠ O → some k ≠ r → W'.heap[k]? = W.heap[k]?
set_option maxHeartbeats 1000000 in
theorem gap_any (w : World) (O D : Nat) (t : Int) (l : List Span) (W : World) (A : Option Addr) (n cap : Nat) (xs : List Value) (m : Int) (h : Gapw w O D t l W A n cap xs) (ht : InI t) (hm : InI m) (hl : l.length ≤ 9000) :
    Calls Try.prog 82 #[.int .i64 m, .pointer (some ⟨D, 0, none⟩), .pointer (some ⟨O, 0, none⟩)] W fun e W' => e = .returned (.tuple #[]) ∧ Gapped w O D t (l ++ gap t m) W (Value.slice A n cap).ownBlock W' := by
  have ho := cell_of_one h.o
  have hfo := free_of_one h.o
  have hdd := cell_of_one h.d
  have hO := lt_of_block h.o
  have hD := lt_of_block h.d
  by_cases hm0 : t < m
  · have HL := Lib.hid hl
    have HP := Lib.hid (show gap t m = [⟨t, m⟩] from if_pos hm0)
    clear hl
    go_enter Try.func82, Try.ntmps82
    have hown := h.own.below spanC_good ((Below.refl W.heap.size W).alloc (Nat.le_refl _) (.cells #[.int .i64 t, .int .i64 m] 45))
    have hle := h.b.size
    go_wp2_with (at_builtin; refine list_app (t := 43) (e := 45) (bytes := 16) rfl (.tmp 7) (.tmp 11) rfl span_elem spanC_good rfl hown rfl (sl_span W All t m 45 ht hm trivial) (fun _ _ hc => hc) (by have := HL.out; omega) (by omega) (by simp; omega) ?_; intro v2 w2 xs2 hown2 hg2 hat2; obtain ⟨A2, n2, cap2, rfl, hsl2⟩ := hown2.sl spanC_good; have hO2 := hg2.block O (by simp; omega) (fun e => h.ne e.symm); have hD2 := hg2.block D (by simp; omega) (fun e => h.neD e.symm); rw [Below.heap_alloc _ _ _ hO, h.o] at hO2; rw [Below.heap_alloc _ _ _ hD, h.d] at hD2; have ho2 := cell_of_one hO2; have hf2 := free_of_one hO2)
    go_end0
    rw [HP.out]
    have hz : W.heap.size < w2.heap.size := by have := hg2.size; simp at this; omega
    have hb2 : Below w.heap.size w w2 := (h.b.alloc hle _).grown hg2 (by simp; omega) (fun j hj => (h.own.lt j hj).1)
    have hne : (Value.slice A2 n2 cap2).ownBlock ≠ some O := by
      rcases hat2 with e | e <;> rw [e]
      · exact h.ne
      · intro he; injection he with he; simp at he; omega
    have hneD : (Value.slice A2 n2 cap2).ownBlock ≠ some D := by
      rcases hat2 with e | e <;> rw [e]
      · exact h.neD
      · intro he; injection he with he; simp at he; omega
    refine ⟨rfl, A2, n2, cap2, xs2, ⟨one_setCell hO2, ?_, own_setCell_flat spanC_flat hown2 hne _, hne, hneD, h.od, hb2.setCell (p := ⟨O, 0, none⟩) h.le _, h.le, h.leD, ?_⟩, fun k hk hkO hkv => ?_⟩
    · exact (Below.heap_setCell _ _ _ _ (fun e => h.od e.symm)).trans hD2
    · rw [List.length_append]; have := HL.out; simp; omega
    · exact (Below.heap_setCell _ _ _ _ hkO).trans ((hg2.block k (by simp; omega) hkv).trans (Below.heap_alloc _ _ _ hk))
  · have HP := Lib.hid (show gap t m = [] from if_neg hm0)
    go_enter Try.func82, Try.ntmps82
    go_wp2_with fail
    go_end0
    exact ⟨rfl, A, n, cap, xs, by rw [HP.out, List.append_nil]; exact h, fun _ _ _ _ => rfl⟩

theorem gapw_below {w W W' : World} {O D : Nat} {t : Int} {l : List Span} {A : Option Addr} {n cap : Nat} {xs : List Value} (h : Gapw w O D t l W A n cap xs) (hb : Below W.heap.size W W') : Gapw w O D t l W' A n cap xs :=
  ⟨(hb.block _ (lt_of_block h.o)).trans h.o, (hb.block _ (lt_of_block h.d)).trans h.d, h.own.bel hb, h.ne, h.neD, h.od, h.b.trans (hb.mono h.b.size), h.le, h.leD, h.len⟩

set_option maxHeartbeats 2000000 in
theorem Gaps_any (A : Option Addr) (n cap : Nat) (l : List Span) (legs : Int) (w : World) (h : Sl spanC 2 w All A n cap l) (hn : l.length ≤ 1000) (hi : InI legs) :
    Calls Try.prog 61 #[.slice A n cap, .int .i64 legs] w fun e w' => ∃ v xs, e = .returned v ∧ Own spanC 2 45 w' w.heap.size v (gapsL l legs) xs ∧ Below w.heap.size w w' := by
  have hbd := h.bd
  have HLN := Lib.hid h.len
  have eg := enters_of Try.func82 (by kernel_rfl) rfl
  have h0 : Gapw w w.heap.size (w.heap.size + 1) 0 [] ((w.alloc (.cells #[.slice none 0 0] 43)).alloc (.cells #[.int .i64 0] 3)) none 0 0 [] :=
    ⟨blk2_0 _ _ _, blk2_1 _ _ _, Own.nil _ _ _ _ _, by simp [Value.ownBlock], by simp [Value.ownBlock], by omega, bel2 _ _ _, Nat.le_refl _, by omega, by simp⟩
  have HN := Lib.hid hn
  clear hn
  go_enter Try.func61, Try.ntmps61
  go_wp2_with fail
  go_loopg [13] n (fun gk i wr => ∃ k : Nat, k ≤ n ∧ n - k ≤ gk ∧ i = .int .i64 k ∧ ∃ A' n' cap' xs', Gapw w w.heap.size (w.heap.size + 1) (gapsS (l.take k)).2 (gapsS (l.take k)).1 wr A' n' cap' xs')
  case atStart => exact ⟨0, Nat.zero_le _, by omega, rfl, _, _, _, _, h0⟩
  case round =>
    obtain ⟨k, hk, hgk, rfl, A', n', cap', xs', hG⟩ := hrel
    obtain ⟨t, ht⟩ : ∃ t, t = (gapsS (l.take k)).2 := ⟨_, rfl⟩
    obtain ⟨L, hL⟩ : ∃ L, L = (gapsS (l.take k)).1 := ⟨_, rfl⟩
    have hin : InI t := by
      rw [ht]
      refine gapsS_in fun x hx => ?_
      obtain ⟨i, hi⟩ := List.getElem?_of_mem (List.mem_of_mem_take hx)
      obtain ⟨_, _, _, _, _, hc, _⟩ := h.rd i x hi
      exact hc.2.2
    have hlen : L.length ≤ 1000 := by
      rw [hL]
      have h1 := gapsS_len (l.take k)
      have h2 : (l.take k).length ≤ l.length := List.length_take_le' _ _
      have := HN.out
      omega
    rw [← ht, ← hL] at hG
    have HT := Lib.hid ht
    have HL := Lib.hid hL
    clear ht hL
    by_cases hlt : k < n
    · obtain ⟨b, off, x, c0, c1, rfl, hx, ⟨hc, b0, b1⟩, g0, g1⟩ := (h.below spanC_good (by omega) hG.b).at2 hlt
      simp only [List.cons.injEq, and_true] at hc
      obtain ⟨rfl, rfl⟩ := hc
      have HS := Lib.hid (show gapsS (l.take (k + 1)) = (L ++ gap t x.frm, x.upto) by rw [take_snoc hx, gapsS_snoc, gapF, HT.out, HL.out])
      clear hx
      have hG2 := gapw_below hG (bel1 wr (.cells #[.int .i64 x.frm, .int .i64 x.upto] 45))
      have hX := SpanAt.new wr x.frm x.upto
      have hcall := gap_any w w.heap.size (w.heap.size + 1) t L _ A' n' cap' xs' x.frm hG2 hin b0 (by omega)
      have hsz := hG.b.size
      have hown := hG.own.lt
      have HC := Lib.hid hcall
      clear hcall
      have HX := Lib.hid hX
      clear hX
      have HO := Lib.hid hown
      clear hown
      have HSZ := Lib.hid hG.o
      have HG := Lib.hid hG
      clear hG hG2
      go_wp2_with fail
      refine HC.out.mono ?_
      rintro e w2 ⟨rfl, A2, n2, cap2, xs2, hG3, hK⟩
      have e1 := hK wr.heap.size (by simp) (by have := lt_of_block HSZ.out; omega) (by intro e; have := (HO.out _ e.symm).2; omega)
      clear hK
      have x1 := cell_of_blk (e1.trans HX.out) (j := 1) rfl
      clear e1
      have hd3 := cell_of_one hG3.d
      have hf3 := free_of_one hG3.d
      have HG3 := Lib.hid hG3
      clear hG3
      go_wp2_with fail
      go_roundg (n - (k + 1))
      case measure => omega
      case rel =>
        refine ⟨k + 1, by omega, by omega, by go_num, A2, n2, cap2, xs2, ?_⟩
        rw [HS.out]
        have g := HG3.out
        exact ⟨(Below.heap_setCell _ _ _ _ g.od).trans g.o, one_setCell g.d, own_setCell_flat spanC_flat g.own g.neD _, g.ne, g.neD, g.od, g.b.setCell (p := ⟨w.heap.size + 1, 0, none⟩) g.leD _, g.le, g.leD, g.len⟩
    · obtain rfl : k = n := by omega
      have HF := Lib.hid (List.take_of_length_le (Nat.le_of_eq HLN.out))
      have hcall := gap_any w w.heap.size (w.heap.size + 1) t L _ A' n' cap' xs' legs hG hin hi (by omega)
      have HC := Lib.hid hcall
      clear hcall
      have HV := Lib.hid (show gapsL l legs = L ++ gap t legs by unfold gapsL; rw [HT.out, HL.out, HF.out])
      go_wp2_with fail
      refine HC.out.mono ?_
      rintro e w2 ⟨rfl, A2, n2, cap2, xs2, hG3, hK⟩
      clear hK
      have ho3 := cell_of_one hG3.o
      have HG3 := Lib.hid hG3
      clear hG3
      go_wp2_with fail
      go_ret
      exact ⟨_, _, rfl, by rw [HV.out]; exact HG3.out.own, HG3.out.b⟩

def freeE (l : List Span) (legs : Int) : Int := calE l legs
theorem Free_any (A : Option Addr) (n cap : Nat) (l : List Span) (legs : Int) (w : World) (h : Sl spanC 2 w All A n cap l) (hi : InI legs) :
    Calls Try.prog 22 #[.slice A n cap, .int .i64 legs] w fun e w' => ∃ v xs, e = .returned (.tuple #[v, .int .i64 (calE l legs)]) ∧ Own spanC 2 45 w' w.heap.size v (okL (calE l legs) (gapsL l legs)) xs ∧ Below w.heap.size w w' := by
  have hc := fun w h => calendar_any A n cap l legs w h
  obtain ⟨q, hq⟩ : ∃ q, q = calE l legs := ⟨_, rfl⟩
  rw [← hq] at hc ⊢
  have hb := Below.refl w.heap.size w
  have HC := Lib.hid hc
  clear hc
  have HQ := Lib.hid hq
  clear hq
  go_enter Try.func22, Try.ntmps22
  go_wp2_with fail
  refine (HC.out _ h).mono ?_
  rintro e w101 ⟨rfl, hb101⟩
  replace hb := hb.trans (hb101.mono hb.size)
  clear hb101
  by_cases h0 : q = 0
  · subst h0
    have hlen := (cal_ok HQ.out.symm).len
    have hlg := (cal_ok HQ.out.symm).hi
    have HG := Lib.hid (Gaps_any A n cap l legs _ (h.bel hb) (by omega) hi)
    clear hlen hlg
    go_wp2_with fail
    refine HG.out.mono ?_
    rintro e w2 ⟨v, xs, rfl, ho, hb2⟩
    obtain ⟨A2, n2, c2, rfl, hs2⟩ := ho.sl spanC_good
    clear hs2
    go_wp2_with fail
    go_ret2
    exact ⟨_, _, rfl, by rw [okL_zero]; exact ho.mono spanC_good hb.size, hb.trans (hb2.mono hb.size)⟩
  · have h0' : (q != 0) = true := by simpa using h0
    have HN := Lib.hid h0
    clear h0
    go_wp2_with fail
    go_ret2
    exact ⟨_, _, rfl, by rw [okL_ne HN.out]; exact Own.nil _ _ _ _ _, hb⟩
end Go.Proofs.Ytpodgidamoiakaa
