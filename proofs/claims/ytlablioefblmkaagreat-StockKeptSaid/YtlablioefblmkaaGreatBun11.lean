/-
  Words, laws and contracts: BookS, BookG, BookH.
-/
import Derived.Test.YtlablioefblmkaaGreatBun10
import Derived.Shelf.SlSortCmp.WholeK
import Derived.Shelf.SlSortCmp.NoneTotal
set_option linter.unusedSimpArgs false
set_option linter.unusedVariables false
namespace Go.Proofs.YtlablioefblmkaaGreat
open Go.RowKit Go.Shelf Go.Lib
open Go.Sort hiding Below Holds
theorem TakenCmp_any (x y : SmSpan) (W : World) : Calls Tryz.prog 144 #[.agg #[.int .i64 x.1.frm, .int .i64 x.1.upto], .agg #[.int .i64 y.1.frm, .int .i64 y.1.upto]] W fun e w' => e = .returned (.int .i64 (cmpSm x y)) ∧ ∃ q os', w' = Go.Sort.grow (W.drewN q) os' := by
  obtain ⟨⟨a, b⟩, h1, h2⟩ := x
  obtain ⟨⟨c, d⟩, h3, h4⟩ := y
  simp only at h1 h2 h3 h4
  have hs : wrap64 (a - c) = a - c := by unfold wrap64; omega
  go_enter Tryz.func144, Tryz.ntmps144
  go_wp2_with fail
  go_ret
  exact ⟨rfl, 0, _, by rw [Go.Sort.alloc_eq_grow, Go.Sort.alloc_eq_grow, Go.Sort.grow_grow]; rfl⟩
theorem Sort_taken {base g n cap : Nat} {l : List Span} {xs : List Value} {w : World} (h : Own spanC 2 39 w base (.slice (some ⟨g, 0, none⟩) n cap) l xs) (h12 : l.length ≤ 140737488355328) (hs : ∀ x ∈ l, -1000 ≤ x.frm ∧ x.frm ≤ 1000) :
    Calls Tryz.prog 143 #[.slice (some ⟨g, 0, none⟩) n cap, .func (.func 144) #[] #[]] w fun e w' => e = .returned (.tuple #[]) ∧
      ∃ l' xs', l'.Perm l ∧ l'.Pairwise (fun x y => x.frm ≤ y.frm) ∧ Own spanC 2 39 w' base (.slice (some ⟨g, 0, none⟩) n cap) l' xs' ∧ Kept (fun j => j = g) w w' := by
  obtain ⟨la, hla⟩ : ∃ la : List SmSpan, la.map Subtype.val = l := ⟨l.pmap (fun x hx => ⟨x, hx⟩) hs, by rw [List.map_pmap]; simp⟩
  have hlen : la.length = l.length := by rw [← hla]; simp
  have hrow := h.row
  have hn : n = l.length := by
    rcases hrow.2 with ⟨hv, _⟩ | ⟨g', cap', cur, hv, _⟩
    · cases hv
    · injection hv
  subst hn
  obtain ⟨cur, hb, hgg, hnc, hcm, hcs, htake⟩ : ∃ cur, base ≤ g ∧ w.heap[g]? = some (.cells cur 39 (0, 0)) ∧ l.length ≤ cap ∧ cap ≤ maxLen ∧ cur.size = cap * 2 ∧ cur.toList.take (l.length * 2) = xs := by
    rcases hrow.2 with ⟨hv, _⟩ | ⟨g', cap', cur, hv, r⟩
    · cases hv
    · simp only [Value.slice.injEq, Option.some.injEq, Addr.mk.injEq, and_true, true_and] at hv
      obtain ⟨rfl, rfl⟩ := hv
      exact ⟨cur, r⟩
  have hH : HoldsK encSm 2 w g 0 la.toArray := fun j hj => by
    rw [size_flatK] at hj
    have hj2 : j < la.length * 2 := by simpa using hj
    have hi : j / 2 < l.length := by omega
    obtain ⟨cs, hcc, hl, hcell, hfr⟩ := h.cells (List.getElem?_eq_getElem hi)
    obtain ⟨rfl, _⟩ := hcc
    refine ⟨?_, hfr _⟩
    have hji : j / 2 * 2 + j % 2 = j := by omega
    have hx : (la.toArray[j / 2]!).1 = l[j / 2] := by
      have h1 : j / 2 < la.length := by omega
      rw [getElem!_pos _ _ (by simpa using h1)]
      simp only [List.getElem_toArray]
      have : (la.map Subtype.val)[j / 2]'(by simpa using h1) = l[j / 2] := by simp only [hla]
      rw [List.getElem_map] at this
      exact this
    have hf := flat_at la.toArray (j / 2) (j % 2) (by simp; omega) (by omega)
    rw [hji] at hf
    show w.cell? ⟨g, 0 + j, none⟩ = some ((flatK encSm 2 la.toArray)[j]!)
    rw [Nat.zero_add, hf]
    unfold encSm encSp
    rw [hx]
    have hc := hcell (j % 2) (([Value.int .i64 (l[j / 2]).frm, .int .i64 (l[j / 2]).upto])[j % 2]!) (by
      have : j % 2 = 0 ∨ j % 2 = 1 := by omega
      rcases this with e | e <;> rw [e] <;> rfl)
    rw [hji] at hc
    exact hc
  have hcm := AnyQ.slices_SortFunc Tryz.sortSpan 2 Tryz.isAgg39 Tryz.sizeOf39 encSm (fun _ => rfl) (fun x v hv => by simp [encSm, encSp] at hv; rcases hv with rfl | rfl <;> rfl) cmpSm swoSm 144 #[] g 0 cap la.toArray w (enters_of Tryz.func144 (by kernel_rfl) rfl)
    (fun _ _ _ _ x y => TakenCmp_any x y _) hH (lt_of_block hgg) (by simp; omega)
  have e1 : la.toArray.size = l.length := by simpa using hlen
  rw [e1] at hcm
  refine Calls.mono hcm ?_
  rintro e w' ⟨rfl, d', q, os, ⟨hsz, _, hperm⟩, hsort, rfl⟩
  have hds : d'.size = l.length := by rw [hsz]; exact e1
  have hp : (d'.toList.map Subtype.val).Perm l := by
    rw [← hla]
    refine List.Perm.map _ ?_
    have h1 : (d'.extract 0 l.length).toList = d'.toList := by rw [← hds]; simp
    have h2 : (la.toArray.extract 0 l.length).toList = la := by rw [← hlen]; simp
    rw [h1, h2] at hperm
    exact hperm
  have hpl := hp.length_eq
  have hin : ∀ x ∈ l, InI x.frm ∧ InI x.upto := fun x hx => by
    obtain ⟨i, hi⟩ := List.getElem?_of_mem hx
    obtain ⟨_, hcc, _⟩ := h.cells hi
    exact hcc.2
  have hfl : (flatK encSm 2 d').size = l.length * 2 := by rw [size_flatK, hds]
  have hget : ∀ i (hi : i < d'.size) j, j < 2 → (flatK encSm 2 d').toList[i * 2 + j]? = some ((encSm d'[i])[j]!) := fun i hi j hj => by
    have hlt : i * 2 + j < (flatK encSm 2 d').size := by rw [hfl]; omega
    have := flat_at d' i j hi hj
    rw [getElem!_pos (flatK encSm 2 d') _ hlt, getElem!_pos d' i hi] at this
    rw [← this]
    simp
  refine ⟨rfl, d'.toList.map Subtype.val, (flatK encSm 2 d').toList, hp, ?_, ⟨⟨?_, .inr ⟨g, cap, _, ?_, hb, sortWorld_at hgg, ?_, ‹_›, ?_, ?_⟩⟩, ?_⟩, sortWorld_kept⟩
  · rw [List.pairwise_map, List.pairwise_iff_getElem]
    intro i j hi hj hij
    have h1 : i < d'.size := by simpa using hi
    have h2 : j < d'.size := by simpa using hj
    have := hsort i j (Nat.zero_le _) hij (by omega)
    rw [getElem!_pos d' i h1, getElem!_pos d' j h2] at this
    have : ¬ cmpSm d'[j] d'[i] < 0 := of_decide_eq_false this
    unfold cmpSm at this
    simp only [Array.getElem_toList]
    omega
  · rw [Array.length_toList, hfl, hpl]
  · rw [hpl]
  · rw [hpl]; exact hnc
  · simp [Go.Sort.putCells, hcs]
  · rw [hpl]
    refine List.ext_getElem? fun i => ?_
    rw [List.getElem?_take]
    by_cases hi : i < l.length * 2
    · rw [if_pos hi]
      have hlt : i < (flatK encSm 2 d').size := by rw [hfl]; exact hi
      have hlt2 : i < cur.size := by rw [hcs]; omega
      simp only [Go.Sort.putCells, Array.getElem?_toList, Array.getElem?_mapIdx]
      rw [Array.getElem?_eq_getElem hlt2, Array.getElem?_eq_getElem hlt]
      simp only [Option.map_some, Nat.zero_le, true_and, Nat.zero_add, Nat.sub_zero, if_pos hlt, id]
      rw [getElem!_pos (flatK encSm 2 d') _ hlt]
    · rw [if_neg hi, List.getElem?_eq_none (by rw [Array.length_toList, hfl]; omega)]
  · intro i x hx
    have hi : i < d'.size := by have := (List.getElem?_eq_some_iff.1 hx).1; simpa using this
    rw [List.getElem?_map, Array.getElem?_toList, Array.getElem?_eq_getElem hi] at hx
    simp only [Option.map_some, Option.some.injEq] at hx
    have hm : x ∈ l := hp.subset (List.mem_map.2 ⟨d'[i], by simp, hx⟩)
    refine ⟨[.int .i64 x.frm, .int .i64 x.upto], ⟨rfl, hin x hm⟩, rfl, fun j u hu => ?_⟩
    have hj : j < 2 := (List.getElem?_eq_some_iff.1 hu).1
    rw [hget i hi j hj, ← hu]
    unfold encSm encSp
    rw [hx]
    have : j = 0 ∨ j = 1 := by omega
    rcases this with rfl | rfl <;> rfl
theorem Sort_taken_none (p : Option Addr) (cap : Nat) (fv : Value) (w : World) : Calls Tryz.prog 143 #[.slice p 0 cap, fv] w fun e w' => e = .returned (.tuple #[]) ∧ w' = w :=
  AnyF.slices_SortFunc_none Tryz.sortSpan p cap fv w
end Go.Proofs.YtlablioefblmkaaGreat
namespace Go.Proofs.YtlablioefblmkaaGreat
open Go.RowKit Go.Shelf
set_option maxRecDepth 100000 in
theorem Live_any (b : Bkg) (v : Value) (w : World) : Calls Tryz.prog 128 #[.agg (bkgA b v)] w fun e w' => e = .returned (.bool (liveB b)) ∧ Below w.heap.size w w' := by
  obtain ⟨id, kind, state, gst, lev, cab, cat, frm, upto, til, fol⟩ := b
  by_cases h : state = 3
  · have HR := Lib.hid (show liveB ⟨id, kind, state, gst, lev, cab, cat, frm, upto, til, fol⟩ = false by unfold liveB; rw [decide_eq_true h]; rfl)
    subst h
    go_enter Tryz.func128, Tryz.ntmps128
    go_wp2_with fail
    go_ret
    exact ⟨retB (by rw [HR.out]), bel1 _ _⟩
  · have HR := Lib.hid (show liveB ⟨id, kind, state, gst, lev, cab, cat, frm, upto, til, fol⟩ = true by unfold liveB; rw [decide_eq_false h]; rfl)
    have h0' : (state != 3) = true := by simpa using h
    clear h
    go_enter Tryz.func128, Tryz.ntmps128
    go_wp2_with fail
    go_ret
    exact ⟨retB (by rw [HR.out]), bel1 _ _⟩
set_option maxRecDepth 100000 in
set_option maxHeartbeats 1000000 in
theorem Has_any (b : Bkg) (v : Value) (c : Int) (w : World) : Calls Tryz.prog 142 #[.agg (bkgA b v), .int .i64 c] w fun e w' => e = .returned (.bool (hasB c b)) ∧ Below w.heap.size w w' := by
  obtain ⟨id, kind, state, gst, lev, cab, cat, frm, upto, til, fol⟩ := b
  obtain ⟨r, hr⟩ : ∃ r, r = hasB c ⟨id, kind, state, gst, lev, cab, cat, frm, upto, til, fol⟩ := ⟨_, rfl⟩
  rw [← hr]
  have hL := fun W => Live_any ⟨id, kind, state, gst, lev, cab, cat, frm, upto, til, fol⟩ v W
  obtain ⟨q, hq⟩ : ∃ q, q = liveB ⟨id, kind, state, gst, lev, cab, cat, frm, upto, til, fol⟩ := ⟨_, rfl⟩
  rw [← hq] at hL
  have HR := Lib.hid (show r = (q && decide (cab = c)) by rw [hr, hq]; rfl)
  have HL := Lib.hid hL
  clear hL
  clear hr hq
  go_enter Tryz.func142, Tryz.ntmps142
  go_upto_region 0 with (fail)
  go_cut [2, 4] (fun p _ wx => ∃ h, p = .pointer (some ⟨h, 0, none⟩) ∧ Blk wx h (bkgA ⟨id, kind, state, gst, lev, cab, cat, frm, upto, til, fol⟩ v) 42 ∧ Below w.heap.size w wx)
  case first => as_aux_lemma =>
    go_wp2_with fail
    go_meet
    exact ⟨_, rfl, blk1 _ _, bel1 _ _⟩
  obtain ⟨h, rfl, hH, hbw⟩ := hcut
  have z0 : wc.cell? ⟨h, 0, none⟩ = some (.int .i64 id) := hH.cell rfl
  have z1 : wc.cell? ⟨h, 1, none⟩ = some (.int .i64 kind) := hH.cell rfl
  have z2 : wc.cell? ⟨h, 2, none⟩ = some (.int .i64 state) := hH.cell rfl
  have z3 : wc.cell? ⟨h, 3, none⟩ = some (.int .i64 gst) := hH.cell rfl
  have z4 : wc.cell? ⟨h, 4, none⟩ = some (.bool lev) := hH.cell rfl
  have z5 : wc.cell? ⟨h, 5, none⟩ = some (.int .i64 cab) := hH.cell rfl
  have z6 : wc.cell? ⟨h, 6, none⟩ = some (.int .i64 cat) := hH.cell rfl
  have z7 : wc.cell? ⟨h, 7, none⟩ = some (.int .i64 frm) := hH.cell rfl
  have z8 : wc.cell? ⟨h, 8, none⟩ = some (.int .i64 upto) := hH.cell rfl
  have z9 : wc.cell? ⟨h, 9, none⟩ = some (.int .i64 til) := hH.cell rfl
  have z10 : wc.cell? ⟨h, 10, none⟩ = some (v) := hH.cell rfl
  go_wp2_with fail
  refine (HL.out _).mono ?_
  rintro e w2 ⟨rfl, hb2⟩
  replace hH := hH.bel hb2
  replace hbw := hbw.trans (hb2.mono hbw.size)
  clear hb2 z0 z1 z2 z3 z4 z5 z6 z7 z8 z9 z10
  have z5 : w2.cell? ⟨h, 5, none⟩ = some (.int .i64 cab) := hH.cell rfl
  cases q
  · obtain rfl : r = false := HR.out
    go_wp2_with fail
    go_ret
    exact ⟨rfl, hbw⟩
  by_cases hcb : cab = c
  · obtain rfl : r = true := by rw [HR.out, decide_eq_true hcb]; rfl
    subst hcb
    go_wp2_with fail
    go_ret
    exact ⟨rfl, hbw⟩
  · obtain rfl : r = false := by rw [HR.out, decide_eq_false hcb]; rfl
    have h0' : (cab == c) = false := by simpa using hcb
    clear hcb
    go_wp2_with fail
    go_ret
    exact ⟨rfl, hbw⟩
def SpOk (l : List Bkg) : Prop := ∀ b ∈ l, OkSp ⟨b.frm, b.upto⟩
theorem spL_succ {l : List Bkg} {c : Int} {k : Nat} {b : Bkg} (h : l[k]? = some b) : spL (l.take (k + 1)) c = spL (l.take k) c ++ (if hasB c b = true then [⟨b.frm, b.upto⟩] else []) := by
  unfold spL
  rw [take_snoc h, List.filter_append, List.map_append]
  cases e : hasB c b <;> simp [e]
theorem spL_mem {l : List Bkg} {c : Int} {s : Span} (h : s ∈ spL l c) : ∃ b ∈ l, s = ⟨b.frm, b.upto⟩ := by
  unfold spL at h
  obtain ⟨b, hb, rfl⟩ := List.mem_map.1 h
  exact ⟨b, (List.mem_filter.1 hb).1, rfl⟩
theorem spL_ok {l : List Bkg} (h : SpOk l) {c : Int} : ∀ s ∈ spL l c, OkSp s := fun s hs => by
  obtain ⟨b, hb, rfl⟩ := spL_mem hs
  exact h b hb
theorem spL_len (l : List Bkg) (c : Int) : (spL l c).length ≤ l.length := by
  unfold spL
  rw [List.length_map]
  exact List.length_filter_le _ _
def takL (l : List Bkg) (c : Int) : List Span := (spF (spL l c)).getD []
def takB (l : List Bkg) (c : Int) : Bool := (spF (spL l c)).isSome
theorem apart_len : ∀ {l : List Span} {a : Int}, (∀ x ∈ l, OkSp x ∧ a ≤ x.frm) → l.Pairwise (fun x y => x.upto ≤ y.frm) → a ≤ 7 → (l.length : Int) ≤ 7 - a
  | [], a, _, _, h7 => by simp; omega
  | x :: l, a, h, hp, _ => by
    obtain ⟨⟨h0, h1, h2⟩, h3⟩ := h x (List.mem_cons_self ..)
    rw [List.pairwise_cons] at hp
    have := apart_len (l := l) (a := x.upto) (fun y hy => ⟨(h y (List.mem_cons_of_mem _ hy)).1, hp.1 y hy⟩) hp.2 h2
    rw [List.length_cons]; omega
theorem spF_len {ls out : List Span} (hok : ∀ x ∈ ls, OkSp x) (h : spF ls = some out) : out.length ≤ 7 ∧ ∀ x ∈ out, OkSp x := by
  obtain ⟨hp, hw⟩ := spF_some (fun x hx => (hok x hx).2.1) h
  have ho : ∀ x ∈ out, OkSp x := fun x hx => hok x (hp.subset hx)
  have := apart_len (l := out) (a := 0) (fun x hx => ⟨ho x hx, (ho x hx).1⟩) hw (by omega)
  exact ⟨by omega, ho⟩
theorem spL_pre (l : List Bkg) (c : Int) (k : Nat) : ∃ m, spL l c = spL (l.take k) c ++ m := by
  refine ⟨spL (l.drop k) c, ?_⟩
  unfold spL
  rw [← List.map_append, ← List.filter_append, List.take_append_drop]
theorem spF_none {ls m : List Span} (h : spF ls = none) : spF (ls ++ m) = none := by
  have : ∀ m : List Span, (m.foldl (fun o s => o.bind (fun out => put1 out s)) none) = none := by
    intro m
    induction m with
    | nil => rfl
    | cons x m ih => rw [List.foldl_cons]; exact ih
  unfold spF at h ⊢
  rw [List.foldl_append, h, this]
theorem takB_pre {l : List Bkg} {c : Int} {k : Nat} (h : spF (spL (l.take k) c) = none) : takB l c = false ∧ takL l c = [] := by
  obtain ⟨m, hm⟩ := spL_pre l c k
  unfold takB takL
  rw [hm, spF_none h]
  exact ⟨rfl, rfl⟩
theorem tak_of {l : List Bkg} {c : Int} {out : List Span} (h : spF (spL l c) = some out) : takB l c = true ∧ takL l c = out := by
  unfold takB takL
  rw [h]
  exact ⟨rfl, rfl⟩
set_option maxRecDepth 100000 in
set_option maxHeartbeats 8000000 in
theorem SpansOf_any (C : Option Addr) (nb cb : Nat) (l : List Bkg) (c : Int) (w : World) (hl : Sl bkgC 11 w All C nb cb l) (hok : SpOk l) :
    Calls Tryz.prog 21 #[.slice C nb cb, .int .i64 c] w fun e w' => ∃ v xs, e = .returned (.tuple #[v, .bool (takB l c)]) ∧ Own spanC 2 39 w' w.heap.size v (takL l c) xs ∧ Below w.heap.size w w' := by
  have hbd := hl.bd
  have HL := Lib.hid hl
  have HN := Lib.hid hl.len
  have HOK := Lib.hid hok
  clear hok
  obtain ⟨tb, htb⟩ : ∃ q, q = takB l c := ⟨_, rfl⟩
  obtain ⟨tl, htl⟩ : ∃ q, q = takL l c := ⟨_, rfl⟩
  rw [← htb, ← htl]
  have HTB := Lib.hid htb
  clear htb
  have HTL := Lib.hid htl
  clear htl
  clear hl
  go_enter Tryz.func21, Tryz.ntmps21
  go_wp2_with fail
  go_loopg [6, 7] nb (fun gk o i wr => ∃ (k : Nat) (out : List Span) (xs : List Value), k ≤ nb ∧ nb - k ≤ gk ∧ i = .int .i64 k ∧ Aside (spF (spL (l.take k) c) = some out) ∧ Own spanC 2 39 wr w.heap.size o out xs ∧ Below w.heap.size w wr)
  case atStart => exact ⟨0, [], [], Nat.zero_le _, by omega, rfl, rfl, Own.nil _ _ _ _ _, Below.refl _ _⟩
  case round =>
    obtain ⟨k, out, xs, hk, hgk, rfl, HE, hO, hb⟩ := hrel
    by_cases hlt : k < nb
    · skip
      obtain ⟨ab, off, ⟨id, kind, state, gst, lev, cab, cat, frm, upto, til, fol⟩, A3, n3, c3, hA, hx, hF, hI, hcel⟩ := (HL.out.bel hb).bkg hlt
      subst hA
      simp only at hF
      have y0 : wr.cell? ⟨ab, off + k * 11, none⟩ = some (.int .i64 id) := hcel 0 _ rfl
      have y1 : wr.cell? ⟨ab, off + k * 11 + 1, none⟩ = some (.int .i64 kind) := hcel 1 _ rfl
      have y2 : wr.cell? ⟨ab, off + k * 11 + 2, none⟩ = some (.int .i64 state) := hcel 2 _ rfl
      have y3 : wr.cell? ⟨ab, off + k * 11 + 3, none⟩ = some (.int .i64 gst) := hcel 3 _ rfl
      have y4 : wr.cell? ⟨ab, off + k * 11 + 4, none⟩ = some (.bool lev) := hcel 4 _ rfl
      have y5 : wr.cell? ⟨ab, off + k * 11 + 5, none⟩ = some (.int .i64 cab) := hcel 5 _ rfl
      have y6 : wr.cell? ⟨ab, off + k * 11 + 6, none⟩ = some (.int .i64 cat) := hcel 6 _ rfl
      have y7 : wr.cell? ⟨ab, off + k * 11 + 7, none⟩ = some (.int .i64 frm) := hcel 7 _ rfl
      have y8 : wr.cell? ⟨ab, off + k * 11 + 8, none⟩ = some (.int .i64 upto) := hcel 8 _ rfl
      have y9 : wr.cell? ⟨ab, off + k * 11 + 9, none⟩ = some (.int .i64 til) := hcel 9 _ rfl
      have y10 : wr.cell? ⟨ab, off + k * 11 + 10, none⟩ = some (.slice A3 n3 c3) := hcel 10 _ rfl
      clear hcel
      have hs0 := HOK.out _ (List.mem_of_getElem? hx)
      have hsu := spL_succ (c := c) hx
      obtain ⟨hlen, hoo⟩ := spF_len (spL_ok (fun b hb => HOK.out b (List.mem_of_mem_take hb))) HE
      obtain ⟨A2, n2, cap2, rfl, hsl2⟩ := hO.sl spanC_good
      have HIF := Lib.hid hI.frm
      have HIU := Lib.hid hI.upto
      have hk0 : (0 : Int) ≤ (k : Int) := Int.natCast_nonneg _
      by_cases hst : state = 3
      · have hh : hasB c ⟨id, kind, state, gst, lev, cab, cat, frm, upto, til, fol⟩ = false := by unfold hasB liveB; rw [decide_eq_true hst]; rfl
        rw [hh, if_neg (by simp), List.append_nil] at hsu
        have HSU := Lib.hid hsu
        clear hsu
        have HO := Lib.hid hO
        subst hst
        clear hh hO hsl2 hx hs0 hoo hlen hI
        go_wp2_with fail
        go_roundg (nb - (k + 1))
        case measure => omega
        case rel => exact ⟨k + 1, out, xs, by omega, by omega, by go_num, (show spF _ = _ by rw [HSU.out]; exact HE), HO.out, hb⟩
      have hst' : (state == 3) = false := by simpa using hst
      by_cases hcb : cab = c
      rotate_left
      · have hh : hasB c ⟨id, kind, state, gst, lev, cab, cat, frm, upto, til, fol⟩ = false := by unfold hasB; rw [decide_eq_false hcb, Bool.and_false]
        rw [hh, if_neg (by simp), List.append_nil] at hsu
        have HSU := Lib.hid hsu
        clear hsu
        have HO := Lib.hid hO
        have hcb' : (cab != c) = true := by simpa using hcb
        clear hh hO hsl2 hx hs0 hoo hlen hI hst hcb
        go_wp2_with fail
        go_roundg (nb - (k + 1))
        case measure => omega
        case rel => exact ⟨k + 1, out, xs, by omega, by omega, by go_num, (show spF _ = _ by rw [HSU.out]; exact HE), HO.out, hb⟩
      have hh : hasB c ⟨id, kind, state, gst, lev, cab, cat, frm, upto, til, fol⟩ = true := by unfold hasB liveB; rw [decide_eq_true hcb, decide_eq_false hst]; rfl
      rw [hh, if_pos rfl] at hsu
      have hnew : spF (spL (l.take (k + 1)) c) = put1 out ⟨frm, upto⟩ := by rw [hsu, spF_snoc, HE]; rfl
      have hcall := AddSpan_any A2 n2 cap2 out ⟨frm, upto⟩ wr (hsl2.all spanC_good (by omega)) (by omega) hoo hs0 hI.frm hI.upto
      obtain ⟨u, hu⟩ : ∃ u, u = adE out ⟨frm, upto⟩ := ⟨_, rfl⟩
      rw [← hu] at hcall
      have HCALL := Lib.hid hcall
      clear hcall
      have HU := Lib.hid hu
      clear hu
      have HNEW := Lib.hid hnew
      clear hnew
      have hsz := hb.size
      subst hcb
      clear hh hsu hx hO hsl2 hs0 hoo hlen hI hst
      go_wp2_with fail
      refine HCALL.out.mono ?_
      rintro e w2 ⟨v2, xs2, rfl, hO2, hb2⟩
      by_cases hu0 : u = 0
      · subst hu0
        rw [okL_zero] at hO2
        have HO2 := Lib.hid (hO2.mono spanC_good hsz)
        have HSP := Lib.hid (show spF (spL (l.take (k + 1)) cab) = some (insSp ⟨frm, upto⟩ out) by rw [HNEW.out]; unfold put1; rw [if_pos HU.out.symm])
        clear hO2 HE
        go_wp2_with fail
        go_roundg (nb - (k + 1))
        case measure => omega
        case rel => exact ⟨k + 1, _, xs2, by omega, by omega, by go_num, HSP.out, HO2.out, hb.trans (hb2.mono hb.size)⟩
      · have hp := takB_pre (l := l) (c := cab) (k := k + 1) (by rw [HNEW.out]; unfold put1; rw [if_neg (by rw [← HU.out]; exact hu0)])
        obtain rfl : tb = false := HTB.out.trans hp.1
        obtain rfl : tl = [] := HTL.out.trans hp.2
        have h0' : (u != 0) = true := by simpa using hu0
        clear hu0 hp hO2
        go_wp2_with fail
        go_ret2
        exact ⟨_, [], rfl, Own.nil _ _ _ _ _, hb.trans (hb2.mono hb.size)⟩
    · obtain rfl : k = nb := by omega
      rw [List.take_of_length_le (Nat.le_of_eq HN.out)] at HE
      have hp := tak_of HE
      obtain rfl : tb = true := HTB.out.trans hp.1
      obtain rfl : tl = out := HTL.out.trans hp.2
      clear hp HE
      go_wp2_with fail
      go_ret2
      exact ⟨_, xs, rfl, hO, hb⟩
end Go.Proofs.YtlablioefblmkaaGreat
namespace Go.Proofs.YtlablioefblmkaaGreat
open Go.RowKit Go.Shelf
set_option maxRecDepth 100000 in
set_option maxHeartbeats 8000000 in
theorem Taken_any (C : Option Addr) (nb cb : Nat) (l : List Bkg) (c : Int) (w : World) (hl : Sl bkgC 11 w All C nb cb l) (hok : SpOk l) (hn : nb ≤ 2000000000000) :
    Calls Tryz.prog 68 #[.slice C nb cb, .int .i64 c] w fun e w' => ∃ v xs, e = .returned (.tuple #[v, .bool (takB l c)]) ∧ Own spanC 2 39 w' w.heap.size v (takL l c) xs ∧ Below w.heap.size w w' := by
  have hbd := hl.bd
  have HL := Lib.hid hl
  have HN := Lib.hid hl.len
  have HOK := Lib.hid hok
  clear hok
  obtain ⟨tb, htb⟩ : ∃ q, q = takB l c := ⟨_, rfl⟩
  obtain ⟨tl, htl⟩ : ∃ q, q = takL l c := ⟨_, rfl⟩
  rw [← htb, ← htl]
  have HTB := Lib.hid htb
  clear htb
  have HTL := Lib.hid htl
  clear htl
  clear hl
  go_enter Tryz.func68, Tryz.ntmps68
  go_wp2_with fail
  go_loopg [6, 12] nb (fun gk o i wr => ∃ (k : Nat) (xs : List Value), k ≤ nb ∧ nb - k ≤ gk ∧ i = .int .i64 k ∧ Own spanC 2 39 wr w.heap.size o (spL (l.take k) c) xs ∧ Below w.heap.size w wr)
  case atStart => exact ⟨0, [], Nat.zero_le _, by omega, rfl, Own.nil _ _ _ _ _, Below.refl _ _⟩
  case round =>
    obtain ⟨k, xs, hk, hgk, rfl, hO, hb⟩ := hrel
    obtain ⟨A2, n2, cap2, rfl, hs2⟩ := hO.sl spanC_good
    have hln := hs2.len
    clear hs2
    by_cases hlt : k < nb
    · skip
      obtain ⟨ab, off, ⟨id, kind, state, gst, lev, cab, cat, frm, upto, til, fol⟩, A3, n3, c3, hA, hx, hF, hI, hcel⟩ := (HL.out.bel hb).bkg hlt
      subst hA
      simp only at hF
      have y0 : wr.cell? ⟨ab, off + k * 11, none⟩ = some (.int .i64 id) := hcel 0 _ rfl
      have y1 : wr.cell? ⟨ab, off + k * 11 + 1, none⟩ = some (.int .i64 kind) := hcel 1 _ rfl
      have y2 : wr.cell? ⟨ab, off + k * 11 + 2, none⟩ = some (.int .i64 state) := hcel 2 _ rfl
      have y3 : wr.cell? ⟨ab, off + k * 11 + 3, none⟩ = some (.int .i64 gst) := hcel 3 _ rfl
      have y4 : wr.cell? ⟨ab, off + k * 11 + 4, none⟩ = some (.bool lev) := hcel 4 _ rfl
      have y5 : wr.cell? ⟨ab, off + k * 11 + 5, none⟩ = some (.int .i64 cab) := hcel 5 _ rfl
      have y6 : wr.cell? ⟨ab, off + k * 11 + 6, none⟩ = some (.int .i64 cat) := hcel 6 _ rfl
      have y7 : wr.cell? ⟨ab, off + k * 11 + 7, none⟩ = some (.int .i64 frm) := hcel 7 _ rfl
      have y8 : wr.cell? ⟨ab, off + k * 11 + 8, none⟩ = some (.int .i64 upto) := hcel 8 _ rfl
      have y9 : wr.cell? ⟨ab, off + k * 11 + 9, none⟩ = some (.int .i64 til) := hcel 9 _ rfl
      have y10 : wr.cell? ⟨ab, off + k * 11 + 10, none⟩ = some (.slice A3 n3 c3) := hcel 10 _ rfl
      clear hcel
      go_upto_region 4 with (fail)
      go_cut [8] (fun p wx => ∃ z, p = .pointer (some ⟨z, 0, none⟩) ∧ Blk wx z (bkgA ⟨id, kind, state, gst, lev, cab, cat, frm, upto, til, fol⟩ (.slice A3 n3 c3)) 42 ∧ Below wr.heap.size wr wx)
      case first => as_aux_lemma =>
        go_wp2_with fail
        go_meet
        exact ⟨_, rfl, blk1 _ _, bel1 _ _⟩
      obtain ⟨z, rfl, hZ, hbz⟩ := hcut
      clear y0 y1 y2 y3 y4 y5 y6 y7 y8 y9 y10
      replace hF := hF.bel hbz
      have hO2 := hO.bel hbz
      replace hb := hb.trans (hbz.mono hb.size)
      clear hbz hO
      have z0 : wc.cell? ⟨z, 0, none⟩ = some (.int .i64 id) := hZ.cell rfl
      have z1 : wc.cell? ⟨z, 1, none⟩ = some (.int .i64 kind) := hZ.cell rfl
      have z2 : wc.cell? ⟨z, 2, none⟩ = some (.int .i64 state) := hZ.cell rfl
      have z3 : wc.cell? ⟨z, 3, none⟩ = some (.int .i64 gst) := hZ.cell rfl
      have z4 : wc.cell? ⟨z, 4, none⟩ = some (.bool lev) := hZ.cell rfl
      have z5 : wc.cell? ⟨z, 5, none⟩ = some (.int .i64 cab) := hZ.cell rfl
      have z6 : wc.cell? ⟨z, 6, none⟩ = some (.int .i64 cat) := hZ.cell rfl
      have z7 : wc.cell? ⟨z, 7, none⟩ = some (.int .i64 frm) := hZ.cell rfl
      have z8 : wc.cell? ⟨z, 8, none⟩ = some (.int .i64 upto) := hZ.cell rfl
      have z9 : wc.cell? ⟨z, 9, none⟩ = some (.int .i64 til) := hZ.cell rfl
      have z10 : wc.cell? ⟨z, 10, none⟩ = some ((.slice A3 n3 c3)) := hZ.cell rfl
      have hsu := spL_succ (c := c) hx
      have hll := spL_len (l.take k) c
      rw [List.length_take] at hll
      have hHas := fun W => Has_any ⟨id, kind, state, gst, lev, cab, cat, frm, upto, til, fol⟩ (.slice A3 n3 c3) c W
      obtain ⟨q, hq⟩ : ∃ q, q = hasB c ⟨id, kind, state, gst, lev, cab, cat, frm, upto, til, fol⟩ := ⟨_, rfl⟩
      rw [← hq] at hHas hsu
      have HHAS := Lib.hid hHas
      have hby : ((spL (l.take k) c).length + 1) * 16 ≤ 140737488355328 := by omega
      have if0 := hI.frm
      have iu0 := hI.upto
      simp only at if0 iu0
      have HSU := Lib.hid hsu
      clear hsu
      have HO := Lib.hid hO2
      clear hO2
      have hsz := hb.size
      clear hHas hq hx hF hI hll hln
      go_wp2_with fail
      refine (HHAS.out _).mono ?_
      rintro e w2 ⟨rfl, hb2⟩
      replace hZ := hZ.bel hb2
      have HO2 := Lib.hid (HO.out.bel hb2)
      replace hb := hb.trans (hb2.mono hb.size)
      clear hb2 z0 z1 z2 z3 z4 z5 z6 z7 z8 z9 z10 HO HHAS hsz
      cases q
      · have HV := Lib.hid (HSU.out.trans (by simp : _ = spL (l.take k) c))
        go_wp2_with fail
        go_roundg (nb - (k + 1))
        case measure => omega
        case rel => exact ⟨k + 1, xs, by omega, by omega, by go_num, by rw [HV.out]; exact HO2.out, hb⟩
      · have HV := Lib.hid (HSU.out.trans (by simp : _ = spL (l.take k) c ++ [⟨frm, upto⟩]))
        have z7 : w2.cell? ⟨z, 7, none⟩ = some (.int .i64 frm) := hZ.cell rfl
        have z8 : w2.cell? ⟨z, 8, none⟩ = some (.int .i64 upto) := hZ.cell rfl
        have hOq := Lib.hid (HO2.out.bel (bel1 w2 (.cells #[.int .i64 frm, .int .i64 upto] 39)))
        have hsw := hb.size
        have hsq : w.heap.size ≤ (w2.alloc (.cells #[.int .i64 frm, .int .i64 upto] 39)).heap.size := by simp; omega
        have HBQ := Lib.hid (hb.alloc hb.size (.cells #[.int .i64 frm, .int .i64 upto] 39))
        clear HO2 hb hZ
        go_wp2_with (at_builtin; refine list_app (t := 48) (e := 39) (bytes := 16) rfl (.tmp 19) (.tmp 22) rfl span_elem spanC_good rfl hOq.out rfl (sl_span _ All frm upto 39 if0 iu0 trivial) (fun _ _ hc => hc) hby (by omega) hsq ?_; intro v' w' xs' hown' hg' _)
        go_roundg (nb - (k + 1))
        case measure => omega
        case rel => exact ⟨k + 1, xs', by omega, by omega, by go_num, by rw [HV.out]; exact hown', below_app HBQ.out hOq.out hg' hsq⟩
    · obtain rfl : k = nb := by omega
      rw [List.take_of_length_le (Nat.le_of_eq HN.out)] at hO hln
      have HB1 := Lib.hid hb
      have hsz := hb.size
      by_cases h0 : n2 = 0
      · have hnil : spL l c = [] := List.eq_nil_of_length_eq_zero (by omega)
        have hp := tak_of (l := l) (c := c) (out := []) (by rw [hnil]; rfl)
        obtain rfl : tb = true := HTB.out.trans hp.1
        obtain rfl : tl = [] := HTL.out.trans hp.2
        rw [hnil] at hO
        have HO := Lib.hid hO
        clear hO
        subst h0
        clear hln hnil hp hb
        go_wp2_with fail
        refine (Sort_taken_none A2 cap2 _ _).mono ?_
        rintro e w3 ⟨rfl, rfl⟩
        go_wp2_with fail
        go_loopg [9] 0 (fun gk i wr2 => i = .int .i64 1 ∧ Below w.heap.size w wr2 ∧ wr2 = w3)
        case atStart => exact ⟨rfl, HB1.out, rfl⟩
        case round =>
          obtain ⟨rfl, hb, rfl⟩ := hrel
          go_wp2_with fail
          go_ret2
          exact ⟨_, xs, rfl, HO.out, hb⟩
      · obtain ⟨g, c9, hv, hg0, hgl⟩ := hO.form (by omega)
        simp only [Value.slice.injEq] at hv
        obtain ⟨rfl, -, rfl⟩ := hv
        have hoks := spL_ok HOK.out (c := c)
        have hll := spL_len l c
        have hst := Sort_taken (w := wr) (base := w.heap.size) (g := g) (n := n2) (cap := cap2) hO (by have := HN.out; omega) (fun x hx => by have := hoks x hx; unfold OkSp at this; omega)
        have HST := Lib.hid hst
        clear hst
        have HOKS := Lib.hid hoks
        clear hoks
        clear hO hln hll hb
        go_wp2_with fail
        refine HST.out.mono ?_
        rintro e w3 ⟨rfl, s, xs3, hp, hs, hO3, hK⟩
        have hb3 := HB1.out.trans (hK.below (B := w.heap.size) hsz (fun q hq (e : q = g) => by omega))
        have hlaw := taken_law (fun x hx => (HOKS.out x hx).2.1) hp hs
        obtain ⟨A4, n4, cap4, hv4, hs4⟩ := hO3.sl spanC_good
        simp only [Value.slice.injEq] at hv4
        obtain ⟨rfl, rfl, rfl⟩ := hv4
        have hsl := hs4.all spanC_good (by omega)
        have hn2 := hs4.bd
        have HSN := Lib.hid hs4.len
        obtain ⟨W3, hW3⟩ : ∃ W, W = w3 := ⟨_, rfl⟩
        subst hW3
        have HS3 := Lib.hid hsl
        have HO3 := Lib.hid hO3
        have HB3 := Lib.hid hb3
        have HLAW := Lib.hid hlaw
        clear hlaw
        clear hp hs hO3 hK hs4 hsl HST HB1 hb3
        go_wp2_with fail
        go_loopg [9] n2 (fun gk i wr2 => ∃ j : Nat, j ≤ n2 ∧ n2 - j ≤ gk ∧ i = .int .i64 ((j : Int) + 1) ∧ Aside (∀ p x y, p < j → s[p]? = some x → s[p + 1]? = some y → meetB x y = false) ∧ Below W3.heap.size W3 wr2)
        case atStart => exact ⟨0, Nat.zero_le _, by omega, rfl, fun _ _ _ h => absurd h (Nat.not_lt_zero _), Below.refl _ _⟩
        case round =>
          obtain ⟨j, hj, hgj, rfl, HA, hb⟩ := hrel
          by_cases hlt : j + 1 < n2
          · obtain ⟨bb, off, x, c0, c1, hA1, hx, ⟨hc1, _⟩, e0, e1⟩ := (HS3.out.bel hb).at2 (k := j) (by omega)
            obtain ⟨bb2, off2, y, d0, d1, hA2, hy, ⟨hc2, _⟩, e2, e3⟩ := (HS3.out.bel hb).at2 (k := j + 1) hlt
            simp only [List.cons.injEq, and_true] at hc1 hc2
            obtain ⟨rfl, rfl⟩ := hc1
            obtain ⟨rfl, rfl⟩ := hc2
            simp only [Option.some.injEq, Addr.mk.injEq, and_true] at hA1 hA2
            obtain ⟨rfl, rfl⟩ := hA1
            obtain ⟨rfl, rfl⟩ := hA2
            simp only [Nat.zero_add] at e0 e1 e2 e3
            have hM := fun W => Meet_any x.frm x.upto y.frm y.upto W
            obtain ⟨q, hq⟩ : ∃ q, q = meetB ⟨x.frm, x.upto⟩ ⟨y.frm, y.upto⟩ := ⟨_, rfl⟩
            rw [← hq] at hM
            have HM := Lib.hid hM
            clear hM
            have HQ := Lib.hid (show q = meetB x y from hq)
            have HX := Lib.hid hx
            clear hx
            have HY := Lib.hid hy
            clear hy
            have hw : IntKind.i64.wrap (j : Int) = j := IntWalk.i64_in _ (by omega)
            have hj0 : (0 : Int) ≤ (j : Int) := Int.natCast_nonneg _
            have hj1 : (j : Int) + 1 < (n2 : Int) := by omega
            have hj2 : (j : Int) < (n2 : Int) := by omega
            have hj3 : (0 : Int) ≤ (j : Int) + 1 := by omega
            clear hq
            go_upto_region 12 with (fail)
            go_cut [42] (fun t wx => t = .bool q ∧ Below wr.heap.size wr wx)
            case first => as_aux_lemma =>
              have HCEL := Lib.hid (show ∀ X, Below wr.heap.size wr X → (fun w' => w'.cell? ⟨g, j * 2, none⟩ = some (.int .i64 x.frm) ∧ w'.cell? ⟨g, j * 2 + 1, none⟩ = some (.int .i64 x.upto) ∧ w'.cell? ⟨g, (j + 1) * 2, none⟩ = some (.int .i64 y.frm) ∧ w'.cell? ⟨g, (j + 1) * 2 + 1, none⟩ = some (.int .i64 y.upto)) X from fun X hX => ⟨cellB hX e0, cellB hX e1, cellB hX e2, cellB hX e3⟩)
              have hbx : Below wr.heap.size wr wr.drew := (Below.refl _ wr).drew
              clear e0 e1 e2 e3
              refine wp_region_held_drew (S := (fun w' => w'.cell? ⟨g, j * 2, none⟩ = some (.int .i64 x.frm) ∧ w'.cell? ⟨g, j * 2 + 1, none⟩ = some (.int .i64 x.upto) ∧ w'.cell? ⟨g, (j + 1) * 2, none⟩ = some (.int .i64 y.frm) ∧ w'.cell? ⟨g, (j + 1) * 2 + 1, none⟩ = some (.int .i64 y.upto))) (by kernel_rfl) (HCEL.out _ hbx) (fun hHeld => ?_)
              refine wpAnyH_take (i := 0) (oi := ?o_1) (v := ?v_1) ?h_1 (by kernel_rfl) (by kernel_rfl) (by kernel_rfl) ?q_1 (Or.inl ⟨?w_1, ?y_1⟩) (by assumption) ?_
              case h_1 => (simp only [List.getElem?_toArray, List.getElem?_cons_zero]; rfl)
              case q_1 => exact fun _ _ _ h => h
              case w_1 => rfl
              case y_1 => (intro w hSw; (try dsimp only at hSw); first | (go_simp; done) | (go_simp; with_reducible rfl))
              simp only [Act.put, List.setIfInBounds_toArray, List.set_cons_zero, List.set_cons_succ]
              refine wpAnyH_take (i := 1) (oi := ?o_2) (v := ?v_2) ?h_2 (by kernel_rfl) (by kernel_rfl) (by kernel_rfl) ?q_2 (Or.inl ⟨?w_2, ?y_2⟩) (by assumption) ?_
              case h_2 => (simp only [List.getElem?_toArray, List.getElem?_cons_succ, List.getElem?_cons_zero]; rfl)
              case q_2 => exact fun _ _ _ h => h
              case w_2 => rfl
              case y_2 => (intro w hSw; (try dsimp only at hSw); first | (go_simp; done) | (go_simp; with_reducible rfl))
              simp only [Act.put, List.setIfInBounds_toArray, List.set_cons_zero, List.set_cons_succ]
              refine wpAnyH_take (i := 2) (oi := ?o_3) (v := ?v_3) ?h_3 (by kernel_rfl) (by kernel_rfl) (by kernel_rfl) ?q_3 (Or.inl ⟨?w_3, ?y_3⟩) (by assumption) ?_
              case h_3 => (simp only [List.getElem?_toArray, List.getElem?_cons_succ, List.getElem?_cons_zero]; rfl)
              case q_3 => exact fun _ _ _ h => h
              case w_3 => rfl
              case y_3 => (intro w hSw; (try dsimp only at hSw); first | (go_simp; done) | (go_simp; with_reducible rfl))
              simp only [Act.put, List.setIfInBounds_toArray, List.set_cons_zero, List.set_cons_succ]
              refine wpAnyH_take (i := 3) (oi := ?o_4) (v := ?v_4) ?h_4 (by kernel_rfl) (by kernel_rfl) (by kernel_rfl) ?q_4 (Or.inl ⟨?w_4, ?y_4⟩) (by assumption) ?_
              case h_4 => (simp only [List.getElem?_toArray, List.getElem?_cons_succ, List.getElem?_cons_zero]; rfl)
              case q_4 => exact fun _ _ _ h => h
              case w_4 => rfl
              case y_4 => (intro w hSw; (try dsimp only at hSw); first | (go_simp; done) | (go_simp; with_reducible rfl))
              simp only [Act.put, List.setIfInBounds_toArray, List.set_cons_zero, List.set_cons_succ]
              refine wpAnyH_take (i := 4) (oi := ?o_5) (v := ?v_5) ?h_5 (by kernel_rfl) (by kernel_rfl) (by kernel_rfl) ?q_5 (Or.inl ⟨?w_5, ?y_5⟩) (by assumption) ?_
              case h_5 => (simp only [List.getElem?_toArray, List.getElem?_cons_succ, List.getElem?_cons_zero]; rfl)
              case q_5 => exact fun _ _ _ h => h
              case w_5 => rfl
              case y_5 => (intro w hSw; (try dsimp only at hSw); first | (go_simp; done) | (go_simp; with_reducible rfl))
              simp only [Act.put, List.setIfInBounds_toArray, List.set_cons_zero, List.set_cons_succ]
              refine wpAnyH_take (i := 5) (oi := ?o_6) (v := ?v_6) ?h_6 (by kernel_rfl) (by kernel_rfl) (by kernel_rfl) ?q_6 (Or.inl ⟨?w_6, ?y_6⟩) (by assumption) ?_
              case h_6 => (simp only [List.getElem?_toArray, List.getElem?_cons_succ, List.getElem?_cons_zero]; rfl)
              case q_6 => exact fun _ _ _ h => h
              case w_6 => rfl
              case y_6 => (intro w hSw; (try dsimp only at hSw); first | (go_simp; done) | (go_simp; with_reducible rfl))
              simp only [Act.put, List.setIfInBounds_toArray, List.set_cons_zero, List.set_cons_succ]
              refine wpAnyH_take (i := 6) (oi := ?o_7) (v := ?v_7) ?h_7 (by kernel_rfl) (by kernel_rfl) (by kernel_rfl) ?q_7 (Or.inl ⟨?w_7, ?y_7⟩) (by assumption) ?_
              case h_7 => (simp only [List.getElem?_toArray, List.getElem?_cons_succ, List.getElem?_cons_zero]; rfl)
              case q_7 => exact fun _ _ _ h => h
              case w_7 => rfl
              case y_7 => (intro w hSw; (try dsimp only at hSw); first | (go_simp; done) | (go_simp; with_reducible rfl))
              simp only [Act.put, List.setIfInBounds_toArray, List.set_cons_zero, List.set_cons_succ]
              refine wpAnyH_take (i := 7) (oi := ?o_8) (v := ?v_8) ?h_8 (by kernel_rfl) (by kernel_rfl) (by kernel_rfl) ?q_8 (Or.inl ⟨?w_8, ?y_8⟩) (by assumption) ?_
              case h_8 => (simp only [List.getElem?_toArray, List.getElem?_cons_succ, List.getElem?_cons_zero]; rfl)
              case q_8 => exact fun _ _ _ h => h
              case w_8 => rfl
              case y_8 => (intro w hSw; (try dsimp only at hSw); first | (go_simp; done) | (go_simp; with_reducible rfl))
              simp only [Act.put, List.setIfInBounds_toArray, List.set_cons_zero, List.set_cons_succ]
              refine wpAnyH_take (i := 8) (oi := ?o_9) (v := ?v_9) ?h_9 (by kernel_rfl) (by kernel_rfl) (by kernel_rfl) ?q_9 (Or.inl ⟨?w_9, ?y_9⟩) (by assumption) ?_
              case h_9 => (simp only [List.getElem?_toArray, List.getElem?_cons_succ, List.getElem?_cons_zero]; rfl)
              case q_9 => exact fun _ _ _ h => h
              case w_9 => rfl
              case y_9 => (intro w hSw; (try dsimp only at hSw); first | (go_simp; done) | (go_simp; with_reducible rfl))
              simp only [Act.put, List.setIfInBounds_toArray, List.set_cons_zero, List.set_cons_succ]
              refine wpAnyH_ready (rs := [9]) (by kernel_rfl) (by simp) ?_
              refine AllReadyH.cons (o := ?o_10) ?h_10 (fun K hK => ?_) AllReadyH.nil
              case h_10 => (simp only [List.getElem?_toArray, List.getElem?_cons_succ, List.getElem?_cons_zero]; rfl)
              go_simp
              (go_at_call 91; refine (HM.out _).mono ?_; rintro e wn ⟨rfl, hbn⟩; replace hbx := hbx.trans hbn)
              go_wp2_with fail
              refine hK.out _ _ ?_ (fun hHeld => ?_)
              · exact HCEL.out _ hbx
              clear hK K
              try simp only [Act.put, List.setIfInBounds_toArray, List.set_cons_zero, List.set_cons_succ]
              refine wpAnyH_done (by kernel_rfl) ?_ _
              go_wp2_with fail
              go_meet
              exact ⟨rfl, hbx⟩
            obtain ⟨rfl, hb4⟩ := hcut
            cases q
            · skip
              go_wp2_with fail
              go_roundg (n2 - (j + 1))
              case measure => omega
              case rel =>
                refine ⟨j + 1, by omega, by omega, by go_num, fun p x' y' hp hx' hy' => ?_, hb.trans (hb4.mono hb.size)⟩
                by_cases e : p = j
                · subst e
                  rw [HX.out] at hx'
                  rw [HY.out] at hy'
                  injection hx' with hx'
                  injection hy' with hy'
                  rw [← hx', ← hy']
                  exact HQ.out.symm
                · exact HA p x' y' (by omega) hx' hy'
            · have hn := HLAW.out.2 ⟨j, x, y, HX.out, HY.out, HQ.out.symm⟩
              obtain rfl : tb = false := HTB.out.trans (by unfold takB; rw [hn]; rfl)
              obtain rfl : tl = [] := HTL.out.trans (by unfold takL; rw [hn]; rfl)
              clear hn
              go_wp2_with fail
              go_ret2
              exact ⟨_, [], rfl, Own.nil _ _ _ _ _, HB3.out.trans ((hb.trans (hb4.mono hb.size)).mono HB3.out.size)⟩
          · have hsome := HLAW.out.1 (fun p x y hx hy => HA p x y (by have h1 := (List.getElem?_eq_some_iff.1 hy).1; have := HSN.out; omega) hx hy)
            have hp := tak_of hsome
            obtain rfl : tb = true := HTB.out.trans hp.1
            obtain rfl : tl = s := HTL.out.trans hp.2
            have HO4 := Lib.hid (HO3.out.bel hb)
            have hge : ¬ (j : Int) + 1 < (n2 : Int) := by omega
            clear hsome hp HA
            go_wp2_with fail
            go_ret2
            first
              | exact ⟨_, xs3, rfl, HO4.out, HB3.out.trans (hb.mono HB3.out.size)⟩
              | exact ⟨_, rfl, ⟨xs3, HO4.out⟩, HB3.out.trans (hb.mono HB3.out.size)⟩
end Go.Proofs.YtlablioefblmkaaGreat
