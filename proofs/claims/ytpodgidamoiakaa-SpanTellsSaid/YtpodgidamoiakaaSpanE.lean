/-
  Spans: slices.Index, slices.Delete; span.Take.
-/
import Derived.Test.YtpodgidamoiakaaSpanD
import Derived.Deep.RegionLaw
namespace Go.Proofs.Ytpodgidamoiakaa
open Go.RowKit Go.Shelf

def spanQ (x y : Span) : Bool := decide (x = y)
set_option maxRecDepth 100000 in
theorem span_eq (x y : Span) (W : World) : (binOp .eql 45 (.agg #[.int .i64 x.frm, .int .i64 x.upto]) (.agg #[.int .i64 y.frm, .int .i64 y.upto])).run Try.prog W = .ok (.bool (spanQ x y)) W := by
  unfold spanQ
  obtain ⟨a, b⟩ := x
  obtain ⟨c, d⟩ := y
  simp only [Span.mk.injEq]
  go_simp
  repeat' split
  all_goals simp_all

set_option maxRecDepth 100000 in
set_option maxHeartbeats 1000000 in
theorem Index_span (A : Option Addr) (n cap : Nat) (l : List Span) (s : Span) (w : World) (h : Sl spanC 2 w All A n cap l) :
    Calls Try.prog 68 #[.slice A n cap, .agg #[.int .i64 s.frm, .int .i64 s.upto]] w fun e w' => e = .returned (.int .i64 (idxF (spanQ s) l)) ∧ Below w.heap.size w w' := by
  have hbd := h.bd
  go_enter Try.func68, Try.ntmps68
  go_upto_region 0 with (fail)
  go_cut [3] (fun p wx => ∃ g, p = .pointer (some ⟨g, 0, none⟩) ∧ SpanAt wx g s.frm s.upto ∧ Below w.heap.size w wx)
  case first => as_aux_lemma =>
    go_wp2_with fail
    go_meet
    exact ⟨_, rfl, blk1 _ _, bel1 _ _⟩
  obtain ⟨g, rfl, hS, hb0⟩ := hcut
  replace h := h.bel hb0
  go_wp2_with fail
  go_loopg [8] n (fun gk i wr => ∃ k : Nat, k ≤ n ∧ n - k ≤ gk ∧ i = .int .i64 k ∧ Aside ((l.take k).any (spanQ s) = false) ∧ Below wc.heap.size wc wr)
  case atStart => exact ⟨0, Nat.zero_le _, by omega, rfl, rfl, Below.refl _ _⟩
  case round =>
    obtain ⟨k, hk, hgk, rfl, HA, hb⟩ := hrel
    by_cases hlt : k < n
    · obtain ⟨b, off, x, c0, c1, rfl, hx, ⟨hc, _⟩, g0, g1⟩ := (h.bel hb).at2 hlt
      simp only [List.cons.injEq, and_true] at hc
      obtain ⟨rfl, rfl⟩ := hc
      have HX := Lib.hid hx
      clear hx
      have hS1 := hS.below hb
      have s0 := hS1.c0
      have s1 := hS1.c1
      have hq := fun W => span_eq s x W
      obtain ⟨q, hqq⟩ : ∃ q, q = spanQ s x := ⟨_, rfl⟩
      rw [← hqq] at hq
      have HQ := Lib.hid hqq
      clear hqq
      cases q
      · go_wp2_with fail
        go_quiet (fail)
        go_wp2_with fail
        go_roundg (n - (k + 1))
        case measure => omega
        case rel => exact ⟨k + 1, by omega, by omega, by go_num, (show Aside _ from by show _ = _; rw [any_take_succ HX.out, HA, ← HQ.out]; rfl), below_drewN hb _⟩
      · go_wp2_with fail
        go_quiet (fail)
        go_wp2_with fail
        go_ret
        exact ⟨retI (idxF_at HA HX.out HQ.out.symm).symm, hb0.trans ((below_drewN hb _).mono hb0.size)⟩
    · obtain rfl : k = n := by omega
      have HT := Lib.hid (List.take_of_length_le (Nat.le_of_eq h.len))
      go_wp2_with fail
      go_ret
      exact ⟨retI (by rw [idxF_none (by rw [← HT.out]; exact HA)]), hb0.trans (hb.mono hb0.size)⟩

theorem span_info : ∃ j, Try.prog.info? 45 = some j ∧ j.size = 2 := by
  have hi : (Try.prog.info? 45).isSome = true := by kernel_rfl
  have hz : ((Try.prog.info? 45).map fun j => j.size) = some 2 := by kernel_rfl
  obtain ⟨j, hj⟩ := Option.isSome_iff_exists.1 hi
  rw [hj] at hz
  exact ⟨j, hj, by simpa using hz⟩
theorem take_set_cons {α : Type} (cur : List α) (o : Nat) (v : α) (vs : List α) (h : o + (vs.length + 1) ≤ cur.length) : (cur.set o v).take (o + 1) ++ vs ++ (cur.set o v).drop (o + 1 + vs.length) = cur.take o ++ (v :: vs) ++ cur.drop (o + (vs.length + 1)) := by
  have h1 : (cur.set o v).take (o + 1) = cur.take o ++ [v] := by
    rw [List.take_add_one, List.getElem?_set_self (by omega), List.take_set, List.set_eq_of_length_le (by rw [List.length_take]; omega)]
    rfl
  have h2 : (cur.set o v).drop (o + 1 + vs.length) = cur.drop (o + (vs.length + 1)) := by
    rw [List.drop_set, if_pos (by omega), show o + 1 + vs.length = o + (vs.length + 1) by omega]
  rw [h1, h2]; simp
theorem heap_setCells {g : Nat} {e : TypeId} {fz : Nat × Nat} : ∀ (vs : List Value) (o : Nat) (w : World) (cur : List Value), w.heap[g]? = some (.cells cur.toArray e fz) → o + vs.length ≤ cur.length →
    (w.setCells g o vs).heap[g]? = some (.cells (cur.take o ++ vs ++ cur.drop (o + vs.length)).toArray e fz) := by
  intro vs
  induction vs with
  | nil => intro o w cur h _; simp only [World.setCells, List.length_nil, Nat.add_zero, List.append_nil, List.take_append_drop]; exact h
  | cons v vs ih =>
    intro o w cur h hl
    rw [List.length_cons] at hl
    have h1 : (w.setCell ⟨g, o, none⟩ v).heap[g]? = some (.cells (cur.set o v).toArray e fz) := by
      simp only [World.setCell, Array.getElem?_modify, if_true]
      rw [h]
      simp
    rw [World.setCells, ih (o + 1) _ _ h1 (by rw [List.length_set]; omega), take_set_cons cur o v vs hl, List.length_cons]
theorem Kept.setCells {S : Nat → Prop} {g : Nat} (hg : S g) : ∀ (vs : List Value) (o : Nat) {a w : World}, Kept S a w → Kept S a (w.setCells g o vs) := by
  intro vs
  induction vs with
  | nil => intro o a w h; exact h
  | cons v vs ih => intro o a w h; exact ih (o + 1) (h.setCell (p := ⟨g, o, none⟩) (.inl hg) v)
theorem flat_sp (l : List Span) : ∀ i x, l[i]? = some x → ∀ j u, (encSp x)[j]? = some u → (l.flatMap encSp)[i * 2 + j]? = some u := by
  induction l with
  | nil => intro i x h; simp at h
  | cons y l ih =>
    intro i x h j u hu
    have hj : j < 2 := (List.getElem?_eq_some_iff.1 hu).1
    have hf : ∀ x, (encSp x).length = 2 := fun _ => rfl
    rw [List.flatMap_cons]
    cases i with
    | zero =>
      simp at h; subst h
      rw [List.getElem?_append_left (by rw [hf]; omega)]; simpa using hu
    | succ i =>
      rw [List.getElem?_append_right (by rw [hf]; omega), hf, show (i + 1) * 2 + j - 2 = i * 2 + j by omega]
      exact ih i x (by simpa using h) j u hu
theorem flat_sp_len (l : List Span) : (l.flatMap encSp).length = l.length * 2 := by
  induction l with
  | nil => rfl
  | cons y l ih => rw [List.flatMap_cons, List.length_append, ih, List.length_cons]; show 2 + _ = _; omega
theorem Own.spans {w : World} {base g n cap : Nat} {l : List Span} {xs : List Value} (h : Own spanC 2 45 w base (.slice (some ⟨g, 0, none⟩) n cap) l xs) :
    n = l.length ∧ base ≤ g ∧ l.length ≤ cap ∧ cap ≤ maxLen ∧ (∃ cur, w.heap[g]? = some (.cells cur 45 (0, 0)) ∧ cur.size = cap * 2 ∧ cur.toList.take (l.length * 2) = l.flatMap encSp) ∧ ∀ x ∈ l, InI x.frm ∧ InI x.upto := by
  have hxs : xs = l.flatMap encSp := by
    refine List.ext_getElem? fun q => ?_
    by_cases hq : q < l.length * 2
    · have hi : q / 2 < l.length := by omega
      obtain ⟨cs, ⟨rfl, _⟩, _, hcell⟩ := h.el (q / 2) _ (List.getElem?_eq_getElem hi)
      have hu : (encSp l[q / 2])[q % 2]? = some ((encSp l[q / 2])[q % 2]'(by show q % 2 < 2; omega)) := List.getElem?_eq_getElem _
      have h1 := hcell (q % 2) _ hu
      have h2 := flat_sp l (q / 2) _ (List.getElem?_eq_getElem hi) (q % 2) _ hu
      rw [show q / 2 * 2 + q % 2 = q by omega] at h1 h2
      rw [h1, h2]
    · have := h.row.1
      rw [List.getElem?_eq_none (by omega), List.getElem?_eq_none (by rw [flat_sp_len]; omega)]
  have hin : ∀ x ∈ l, InI x.frm ∧ InI x.upto := fun x hx => by
    obtain ⟨i, hi⟩ := List.getElem?_of_mem hx
    obtain ⟨_, hcc, _⟩ := h.el i x hi
    exact hcc.2
  rcases h.row.2 with ⟨hv, _⟩ | ⟨g', cap', cur, hv, hb, hg, hnc, hcm, hcs, ht⟩
  · cases hv
  · simp only [Value.slice.injEq, Option.some.injEq, Addr.mk.injEq, and_true] at hv
    obtain ⟨rfl, rfl, rfl⟩ := hv
    exact ⟨rfl, hb, hnc, hcm, ⟨cur, hg, hcs, by rw [ht, hxs]⟩, hin⟩
theorem Own.ofSpans {w : World} {base g cap : Nat} {l : List Span} {cur : Array Value} (hb : base ≤ g) (hle : l.length ≤ cap) (hm : cap ≤ maxLen) (hg : w.heap[g]? = some (.cells cur 45 (0, 0))) (hs : cur.size = cap * 2)
    (ht : cur.toList.take (l.length * 2) = l.flatMap encSp) (hi : ∀ x ∈ l, InI x.frm ∧ InI x.upto) : Own spanC 2 45 w base (.slice (some ⟨g, 0, none⟩) l.length cap) l (l.flatMap encSp) :=
  ⟨⟨flat_sp_len l, .inr ⟨g, cap, cur, rfl, hb, hg, hle, hm, hs, ht⟩⟩, fun i x hx => ⟨encSp x, ⟨rfl, hi x (List.mem_of_getElem? hx)⟩, rfl, fun j u hu => flat_sp l i x hx j u hu⟩⟩

theorem run_clear1 {w : World} {b o c : Nat} (hc : ∀ j, j < 2 → (w.cell? ⟨b, o + j, none⟩).isSome = true) (hf : ∀ j, j < 2 → w.frozen? ⟨b, o + j, none⟩ = false) (ty : TypeId) :
    (Builtin.clear_ #[43] ty #[.slice (some ⟨b, o, none⟩) 1 c]).run Try.prog w = .ok (.tuple #[]) (w.setCells b o [.int .i64 0, .int .i64 0]) := by
  have hst := run_storeCells_cells (P := Try.prog) b o [.int .i64 0, .int .i64 0] 0 w (by simpa using hc) (by simpa using hf) (by intro v hv; simp at hv; subst hv; rfl)
  simp only [Nat.add_zero] at hst
  have hz : (Builtin.zeroCells (Value.agg #[.int .i64 0, .int .i64 0]).cells 1).toList = [.int .i64 0, .int .i64 0] := by kernel_rfl
  simp [Builtin.clear_, run_underlying Try.underlying43, Try.zeroValue45]
  rw [hz, hst]
  rfl

set_option maxRecDepth 100000 in
set_option maxHeartbeats 8000000 in
theorem Delete_span {base g n cap i : Nat} {l : List Span} {xs : List Value} {w : World} (h : Own spanC 2 45 w base (.slice (some ⟨g, 0, none⟩) n cap) l xs) (hi : i < l.length) :
    Calls Try.prog 69 #[.slice (some ⟨g, 0, none⟩) n cap, .int .i64 i, .int .i64 ((i : Int) + 1)] w fun e w' => ∃ v xs', e = .returned v ∧ Own spanC 2 45 w' base v (l.take i ++ l.drop (i + 1)) xs' ∧ Kept (fun j => j = g) w w' := by
  obtain ⟨A0, n0, c0, he, hsl⟩ := h.sl spanC_good
  simp only [Value.slice.injEq] at he
  obtain ⟨rfl, rfl, rfl⟩ := he
  go_enter Try.func69, Try.ntmps69
  obtain ⟨rfl, hbg, hlc, hcm, ⟨cur, hg, hcs, ht⟩, hin⟩ := h.spans
  have hcut := hsl.cut (k := i + 1) (m := l.length) (by omega) (by omega)
  obtain ⟨ad, had⟩ : ∃ ad, (if cap = i + 1 then some (⟨g, 0, none⟩ : Addr) else some ⟨g, (i + 1) * 2, none⟩) = some ad := by
    by_cases e : cap = i + 1
    · exact ⟨_, if_pos e⟩
    · exact ⟨_, if_neg e⟩
  have hic : i ≤ cap := by omega
  have hic1 : i + 1 ≤ cap := by omega
  have hic2 : i + 1 ≤ l.length := by omega
  have hic3 : (0 : Int) ≤ (i : Int) + 1 := by omega
  have hic4 : (i : Int) + 1 ≤ (l.length : Int) := by omega
  obtain ⟨inf, hinf, hinf2⟩ := span_info
  have hcl : cur.toList.length = cap * 2 := by rw [Array.length_toList, hcs]
  have hat : ∀ q, q < l.length * 2 → w.cell? ⟨g, q, none⟩ = (l.flatMap encSp)[q]? := fun q hq => by
    have h1 : cur[q]? = (l.flatMap encSp)[q]? := by
      rw [← ht, List.getElem?_take, if_pos hq, Array.getElem?_toList]
    rw [← h1]
    simp [World.cell?, hg]
  have hdr : (l.drop (i + 1)).flatMap encSp = (l.flatMap encSp).drop ((i + 1) * 2) := by
    refine List.ext_getElem? fun q => ?_
    have h1 := flat_sp_len (l.drop (i + 1))
    rw [List.length_drop] at h1
    have h2 := flat_sp_len l
    rw [List.getElem?_drop]
    by_cases hq : q < (l.length - (i + 1)) * 2
    · have hi2 : i + 1 + q / 2 < l.length := by omega
      have ha : (l.drop (i + 1))[q / 2]? = some (l[i + 1 + q / 2]) := by rw [List.getElem?_drop]; exact List.getElem?_eq_getElem hi2
      have hu : (encSp l[i + 1 + q / 2])[q % 2]? = some ((encSp l[i + 1 + q / 2])[q % 2]'(by show q % 2 < 2; omega)) := List.getElem?_eq_getElem _
      have e1 := flat_sp _ _ _ ha (q % 2) _ hu
      have e2 := flat_sp l (i + 1 + q / 2) _ (List.getElem?_eq_getElem hi2) (q % 2) _ hu
      rw [show q / 2 * 2 + q % 2 = q by omega] at e1
      rw [show (i + 1 + q / 2) * 2 + q % 2 = (i + 1) * 2 + q by omega] at e2
      rw [e1, e2]
    · rw [List.getElem?_eq_none (by omega), List.getElem?_eq_none (by omega)]
  obtain ⟨news, hnews⟩ : ∃ news, news = (l.drop (i + 1)).flatMap encSp := ⟨_, rfl⟩
  have hnl : news.length = (l.length - (i + 1)) * 2 := by rw [hnews, flat_sp_len, List.length_drop]
  have hnc : ∀ j u, news[j]? = some u → w.drew.cell? (ad.add j) = some u := fun j u hu => by
    have hj : j < news.length := (List.getElem?_eq_some_iff.1 hu).1
    have hne : ¬ cap = i + 1 := by omega
    rw [if_neg hne] at had
    injection had with had
    subst had
    have ha : (⟨g, (i + 1) * 2, none⟩ : Addr).add j = ⟨g, (i + 1) * 2 + j, none⟩ := by
      unfold Addr.add
      split
      · next h0 => rw [h0]; rfl
      · rfl
    rw [ha]
    show w.cell? _ = _
    rw [hat _ (by omega), ← hu, hnews, hdr, List.getElem?_drop]
  have hn1 : ∀ u ∈ news, u.oneCell' = true := fun u hu => by
    rw [hnews] at hu
    obtain ⟨x, _, hx⟩ := List.mem_flatMap.1 hu
    simp [encSp] at hx
    rcases hx with rfl | rfl <;> rfl
  have hsp : ∀ j, j < news.length → (w.drew.cell? ⟨g, 0 + i * 2 + j, none⟩).isSome = true ∧ w.drew.frozen? ⟨g, 0 + i * 2 + j, none⟩ = false := fun j hj => by
    refine ⟨?_, ?_⟩
    · show (w.cell? _).isSome = true
      rw [hat _ (by omega), List.getElem?_eq_getElem (by rw [flat_sp_len]; omega)]
      rfl
    · show w.frozen? _ = false
      simp [World.frozen?, hg]
  have HAT := Lib.hid hat
  clear hat
  have HDR := Lib.hid hdr
  clear hdr
  have HNW := Lib.hid hnews
  clear hnews
  go_upto_region 5 with (fail)
  go_cut [0] (fun v wx => v = .slice (some ⟨g, 0, none⟩) (l.length - 1) cap ∧ wx = (w.drew.setCells g (i * 2) news))
  case first => as_aux_lemma =>
    go_region_law (refine step_append_room rfl (.tmp 22) (.tmp 25) 43 rfl 45 inf 2 Try.underlying43 hinf hinf2 g 0 i cap rfl ad (l.length - (i + 1)) (cap - (i + 1)) news rfl hnl hnc hn1 (by omega) hsp ?_)
    all_goals go_wp2_with fail
    all_goals go_meet
    all_goals exact ⟨by congr 1; omega, by first | rfl | rw [Nat.zero_add]⟩
  obtain ⟨rfl, rfl⟩ := hcut
  clear had hnc hn1 hsp hsl hcut
  have hcur2 : w.drew.heap[g]? = some (.cells cur.toList.toArray 45 (0, 0)) := by show w.heap[g]? = _; simpa using hg
  have hw1 := heap_setCells news (i * 2) w.drew cur.toList hcur2 (by omega)
  have hK1 : Kept (fun j => j = g) w (w.drew.setCells g (i * 2) news) := Kept.setCells (S := fun j => j = g) rfl news (i * 2) (Kept.refl (fun j => j = g) w).drew
  obtain ⟨W1, hW1⟩ : ∃ W1, W1 = w.drew.setCells g (i * 2) news := ⟨_, rfl⟩
  rw [← hW1] at hw1 hK1 ⊢
  obtain ⟨cur1, hc1⟩ : ∃ cur1, cur1 = cur.toList.take (i * 2) ++ news ++ cur.toList.drop (i * 2 + news.length) := ⟨_, rfl⟩
  rw [← hc1] at hw1
  have hcl1 : cur1.length = cap * 2 := by rw [hc1]; simp; omega
  have hLl : (l.take i ++ l.drop (i + 1)).length = l.length - 1 := by rw [List.length_append, List.length_take, List.length_drop]; omega
  have htk : cur1.take ((l.length - 1) * 2) = (l.take i ++ l.drop (i + 1)).flatMap encSp := by
    rw [List.flatMap_append, ← HNW.out, hc1]
    have h1 : cur.toList.take (i * 2) = (l.take i).flatMap encSp := by
      refine List.ext_getElem? fun q => ?_
      have hf1 := flat_sp_len (l.take i)
      rw [List.length_take, Nat.min_eq_left (by omega)] at hf1
      by_cases hq : q < i * 2
      · have hq2 : q / 2 < i := by omega
        have ha : (l.take i)[q / 2]? = some (l[q / 2]'(by omega)) := by rw [List.getElem?_take, if_pos hq2]; exact List.getElem?_eq_getElem _
        have hu : (encSp (l[q / 2]'(by omega)))[q % 2]? = some ((encSp (l[q / 2]'(by omega)))[q % 2]'(by show q % 2 < 2; omega)) := List.getElem?_eq_getElem _
        have e1 := flat_sp _ _ _ ha (q % 2) _ hu
        have e2 := flat_sp l (q / 2) _ (List.getElem?_eq_getElem (by omega)) (q % 2) _ hu
        rw [show q / 2 * 2 + q % 2 = q by omega] at e1 e2
        rw [e1, ← e2, ← ht, List.getElem?_take, if_pos hq, List.getElem?_take, if_pos (by omega)]
      · rw [List.getElem?_eq_none (by simp; omega), List.getElem?_eq_none (by omega)]
    rw [← h1, List.take_append_of_le_length (by simp; omega), List.take_of_length_le (by simp; omega)]
  have hx0 : ∀ q, q < cap * 2 → W1.cell? ⟨g, q, none⟩ = cur1[q]? ∧ W1.frozen? ⟨g, q, none⟩ = false := fun q _ => by
    refine ⟨?_, ?_⟩
    · simp [World.cell?, hw1]
    · simp [World.frozen?, hw1]
  obtain ⟨v0, hv0⟩ : ∃ v, cur1[(l.length - 1) * 2]? = some v := ⟨_, List.getElem?_eq_getElem (by omega)⟩
  obtain ⟨v1, hv1⟩ : ∃ v, cur1[(l.length - 1) * 2 + 1]? = some v := ⟨_, List.getElem?_eq_getElem (by omega)⟩
  have k0 := (hx0 ((l.length - 1) * 2) (by omega)).1.trans hv0
  have k1 := (hx0 ((l.length - 1) * 2 + 1) (by omega)).1.trans hv1
  have f0 := (hx0 ((l.length - 1) * 2) (by omega)).2
  have f1 := (hx0 ((l.length - 1) * 2 + 1) (by omega)).2
  have l1 : l.length - 1 ≤ l.length := by omega
  have l2 : l.length ≤ cap := hlc
  have l3 : l.length - (l.length - 1) = 1 := by omega
  have l4 : ¬ cap = l.length - 1 := by omega
  have HW1 := Lib.hid hw1
  clear hw1
  have HK1 := Lib.hid hK1
  clear hK1
  have HTK := Lib.hid htk
  clear htk
  have HCL1 := Lib.hid hcl1
  clear hcl1
  have hclr := run_clear1 (w := W1) (b := g) (o := (l.length - 1) * 2) (c := cap - (l.length - 1)) (fun j hj => by
      have := (hx0 ((l.length - 1) * 2 + j) (by omega)).1
      rw [this, List.getElem?_eq_getElem (by have := HCL1.out; omega)]; rfl) (fun j hj => (hx0 ((l.length - 1) * 2 + j) (by omega)).2) 0
  clear hW1 hc1 hcur2 hx0 hnl hcl hg hcs ht h hv0 hv1 k0 k1 f0 f1
  go_wp2_with fail
  go_ret
  have hw2 := heap_setCells [.int .i64 0, .int .i64 0] ((l.length - 1) * 2) W1 cur1 HW1.out (by rw [HCL1.out]; simp; omega)
  refine ⟨_, (l.take i ++ l.drop (i + 1)).flatMap encSp, rfl, ?_, Kept.setCells (S := fun j => j = g) rfl _ _ HK1.out⟩
  have ho := Own.ofSpans (base := base) (cap := cap) (l := l.take i ++ l.drop (i + 1)) hbg (by omega) hcm hw2 (by have := HCL1.out; simp; omega) (by
    rw [← HTK.out, hLl]
    simp only [List.append_assoc]
    have := HCL1.out
    rw [List.take_append_of_le_length (by rw [List.length_take]; omega), List.take_take, Nat.min_self])
    (fun x hx => by
      rcases List.mem_append.1 hx with hx | hx
      · exact hin x (List.mem_of_mem_take hx)
      · exact hin x (List.mem_of_mem_drop hx))
  rw [hLl] at ho
  exact ho

end Go.Proofs.Ytpodgidamoiakaa
