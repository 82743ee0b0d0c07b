/-
  Spans: slices.SortFunc as span.Add calls it, by the shelf's contract: an own row is sorted in place.
-/
import Derived.Test.YtpodgidamoiakaaSpanB
import Derived.Test.YtpodgidamoiakaaSortSpan
namespace Go.Proofs.Ytpodgidamoiakaa
open Go.RowKit Go.Shelf Go.Lib
open Go.Sort hiding Below

def encSp (x : Span) : List Value := [.int .i64 x.frm, .int .i64 x.upto]
/-- Spans whose ends may be taken one from another. -/
abbrev SmSpan := { x : Span // -1000 ≤ x.frm ∧ x.frm ≤ 1000 }
instance : Inhabited SmSpan := ⟨⟨⟨0, 0⟩, by decide, by decide⟩⟩
def encSm (x : SmSpan) : List Value := encSp x.1
def cmpSm (x y : SmSpan) : Int := x.1.frm - y.1.frm
theorem swoSm : Go.Sort.SWO (ltOf cmpSm) := ⟨fun x => by simp [ltOf, cmpSm], fun x y z h1 h2 => by
  have h1 : cmpSm x y < 0 := of_decide_eq_true h1
  have h2 : cmpSm y z < 0 := of_decide_eq_true h2
  refine decide_eq_true ?_
  unfold cmpSm at *
  omega, fun x y z h1 h2 => by
  have h1 : ¬ cmpSm x y < 0 := of_decide_eq_false h1
  have h2 : ¬ cmpSm y z < 0 := of_decide_eq_false h2
  refine decide_eq_false ?_
  unfold cmpSm at *
  omega⟩
theorem AddCmp_any (x y : SmSpan) (W : World) : Calls Try.prog 67 #[.agg #[.int .i64 x.1.frm, .int .i64 x.1.upto], .agg #[.int .i64 y.1.frm, .int .i64 y.1.upto]] W fun e w' => e = .returned (.int .i64 (cmpSm x y)) ∧ ∃ q os', w' = Go.Sort.grow (W.drewN q) os' := by
  obtain ⟨⟨a, b⟩, h1, h2⟩ := x
  obtain ⟨⟨c, d⟩, h3, h4⟩ := y
  simp only at h1 h2 h3 h4
  have hs : wrap64 (a - c) = a - c := by unfold wrap64; omega
  go_enter Try.func67, Try.ntmps67
  go_wp2_with fail
  go_ret
  exact ⟨rfl, 0, _, by rw [Go.Sort.alloc_eq_grow, Go.Sort.alloc_eq_grow, Go.Sort.grow_grow]; rfl⟩
theorem lenAny (n : Nat) (W : World) (h : n ≤ 12) : Calls Try.prog 85 #[.int .u64 n] W fun e w' => (∃ l : Int, e = .returned (.int .i64 l)) ∧ w' = W :=
  (Any.bits_Len Try.bitsLen n W (by omega) (by omega)).mono fun _ _ ⟨he, hw⟩ => ⟨⟨_, he⟩, hw⟩

section
variable {α : Type} [Inhabited α] {enc : α → List Value} {k : Nat} {w : World} {blk n j : Nat} {d' : Array α} {os : Array Obj}
theorem sortWorld_old (hj : j < w.heap.size) (hne : j ≠ blk) : (sortWorldK enc k w blk 0 n d' os).heap[j]? = w.heap[j]? := by
  have h1 : (w.heap.modify blk (Go.Sort.onCells (Go.Sort.putCells id 0 (flatK enc k d')))).size = w.heap.size := by simp
  unfold sortWorldK Go.Sort.grow putRowK Go.Sort.putRow Go.Sort.mapBlock Go.Sort.ahead
  simp only
  rw [Array.getElem?_append_left (by rw [h1]; exact hj), Array.getElem?_modify, if_neg (fun e => hne e.symm)]
theorem sortWorld_at {cur : Array Value} {e : TypeId} (h : w.heap[blk]? = some (.cells cur e (0, 0))) : (sortWorldK enc k w blk 0 n d' os).heap[blk]? = some (.cells (Go.Sort.putCells id 0 (flatK enc k d') cur) e (0, 0)) := by
  have h1 : (w.heap.modify blk (Go.Sort.onCells (Go.Sort.putCells id 0 (flatK enc k d')))).size = w.heap.size := by simp
  unfold sortWorldK Go.Sort.grow putRowK Go.Sort.putRow Go.Sort.mapBlock Go.Sort.ahead
  simp only
  rw [Array.getElem?_append_left (by rw [h1]; exact (Array.getElem?_eq_some_iff.1 h).1), Array.getElem?_modify, if_pos rfl, h]
  rfl
theorem sortWorld_size : w.heap.size ≤ (sortWorldK enc k w blk 0 n d' os).heap.size := by
  unfold sortWorldK Go.Sort.grow putRowK Go.Sort.putRow Go.Sort.mapBlock Go.Sort.ahead
  simp
theorem sortWorld_kept : Kept (fun j => j = blk) w (sortWorldK enc k w blk 0 n d' os) := ⟨rfl, rfl, rfl, sortWorld_size, fun _ hj hS => sortWorld_old hj hS⟩
end

theorem flat_at (d : Array SmSpan) (i j : Nat) (hi : i < d.size) (hj : j < 2) : (flatK encSm 2 d)[i * 2 + j]! = (encSm d[i]!)[j]! := by
  rw [get_flatK _ _ _ _ (by omega), show (i * 2 + j) / 2 = i by omega, show (i * 2 + j) % 2 = j by omega]

/-- An own row of spans is sorted in place. -/
theorem Sort_span {base g n cap : Nat} {l : List Span} {xs : List Value} {w : World} (h : Own spanC 2 45 w base (.slice (some ⟨g, 0, none⟩) n cap) l xs) (h12 : l.length ≤ 12) (hs : ∀ x ∈ l, -1000 ≤ x.frm ∧ x.frm ≤ 1000) :
    Calls Try.prog 66 #[.slice (some ⟨g, 0, none⟩) n cap, .func (.func 67) #[] #[]] w fun e w' => e = .returned (.tuple #[]) ∧
      ∃ l' xs', l'.Perm l ∧ l'.Pairwise (fun x y => x.frm ≤ y.frm) ∧ Own spanC 2 45 w' base (.slice (some ⟨g, 0, none⟩) n cap) l' xs' ∧ Kept (fun j => j = g) w w' := by
  obtain ⟨la, hla⟩ : ∃ la : List SmSpan, la.map Subtype.val = l := ⟨l.pmap (fun x hx => ⟨x, hx⟩) hs, by rw [List.map_pmap]; simp⟩
  have hlen : la.length = l.length := by rw [← hla]; simp
  have hrow := h.row
  have hn : n = l.length := by
    rcases hrow.2 with ⟨hv, _⟩ | ⟨g', cap', cur, hv, _⟩
    · cases hv
    · injection hv
  subst hn
  obtain ⟨cur, hb, hgg, hnc, hcm, hcs, htake⟩ : ∃ cur, base ≤ g ∧ w.heap[g]? = some (.cells cur 45 (0, 0)) ∧ l.length ≤ cap ∧ cap ≤ maxLen ∧ cur.size = cap * 2 ∧ cur.toList.take (l.length * 2) = xs := by
    rcases hrow.2 with ⟨hv, _⟩ | ⟨g', cap', cur, hv, r⟩
    · cases hv
    · simp only [Value.slice.injEq, Option.some.injEq, Addr.mk.injEq, and_true, true_and] at hv
      obtain ⟨rfl, rfl⟩ := hv
      exact ⟨cur, r⟩
  have hH : HoldsK encSm 2 w g 0 la.toArray := fun j hj => by
    rw [size_flatK] at hj
    have hj2 : j < la.length * 2 := by simpa using hj
    have hi : j / 2 < l.length := by omega
    obtain ⟨cs, hcc, hl, hcell, hfr⟩ := h.cells (List.getElem?_eq_getElem hi)
    obtain ⟨rfl, _⟩ := hcc
    refine ⟨?_, hfr _⟩
    have hji : j / 2 * 2 + j % 2 = j := by omega
    have hx : (la.toArray[j / 2]!).1 = l[j / 2] := by
      have h1 : j / 2 < la.length := by omega
      rw [getElem!_pos _ _ (by simpa using h1)]
      simp only [List.getElem_toArray]
      have : (la.map Subtype.val)[j / 2]'(by simpa using h1) = l[j / 2] := by simp only [hla]
      rw [List.getElem_map] at this
      exact this
    have hf := flat_at la.toArray (j / 2) (j % 2) (by simp; omega) (by omega)
    rw [hji] at hf
    show w.cell? ⟨g, 0 + j, none⟩ = some ((flatK encSm 2 la.toArray)[j]!)
    rw [Nat.zero_add, hf]
    unfold encSm encSp
    rw [hx]
    have hc := hcell (j % 2) (([Value.int .i64 (l[j / 2]).frm, .int .i64 (l[j / 2]).upto])[j % 2]!) (by
      have : j % 2 = 0 ∨ j % 2 = 1 := by omega
      rcases this with e | e <;> rw [e] <;> rfl)
    rw [hji] at hc
    exact hc
  have hcm := AnyQ.slices_SortFunc_small_sorted Try.sortSpan 2 Try.isAgg45 Try.sizeOf45 encSm (fun _ => rfl) (fun x v hv => by simp [encSm, encSp] at hv; rcases hv with rfl | rfl <;> rfl) cmpSm 67 #[] swoSm g 0 cap la.toArray w (enters_of Try.func67 (by kernel_rfl) rfl)
    (fun _ _ _ _ x y => AddCmp_any x y _) hH (lt_of_block hgg) (by simpa [hlen] using h12) lenAny
  have e1 : la.toArray.size = l.length := by simpa using hlen
  rw [e1] at hcm
  refine Calls.mono hcm ?_
  rintro e w' ⟨rfl, d', q, os, ⟨hsz, _, hperm⟩, hsort, rfl⟩
  have hds : d'.size = l.length := by rw [hsz]; exact e1
  have hp : (d'.toList.map Subtype.val).Perm l := by
    rw [← hla]
    refine List.Perm.map _ ?_
    have h1 : (d'.extract 0 l.length).toList = d'.toList := by rw [← hds]; simp
    have h2 : (la.toArray.extract 0 l.length).toList = la := by rw [← hlen]; simp
    rw [h1, h2] at hperm
    exact hperm
  have hpl := hp.length_eq
  have hin : ∀ x ∈ l, InI x.frm ∧ InI x.upto := fun x hx => by
    obtain ⟨i, hi⟩ := List.getElem?_of_mem hx
    obtain ⟨_, hcc, _⟩ := h.cells hi
    exact hcc.2
  have hfl : (flatK encSm 2 d').size = l.length * 2 := by rw [size_flatK, hds]
  have hget : ∀ i (hi : i < d'.size) j, j < 2 → (flatK encSm 2 d').toList[i * 2 + j]? = some ((encSm d'[i])[j]!) := fun i hi j hj => by
    have hlt : i * 2 + j < (flatK encSm 2 d').size := by rw [hfl]; omega
    have := flat_at d' i j hi hj
    rw [getElem!_pos (flatK encSm 2 d') _ hlt, getElem!_pos d' i hi] at this
    rw [← this]
    simp
  refine ⟨rfl, d'.toList.map Subtype.val, (flatK encSm 2 d').toList, hp, ?_, ⟨⟨?_, .inr ⟨g, cap, _, ?_, hb, sortWorld_at hgg, ?_, ‹_›, ?_, ?_⟩⟩, ?_⟩, sortWorld_kept⟩
  · rw [List.pairwise_map, List.pairwise_iff_getElem]
    intro i j hi hj hij
    have h1 : i < d'.size := by simpa using hi
    have h2 : j < d'.size := by simpa using hj
    have := hsort i j (Nat.zero_le _) hij (by omega)
    rw [getElem!_pos d' i h1, getElem!_pos d' j h2] at this
    have : ¬ cmpSm d'[j] d'[i] < 0 := of_decide_eq_false this
    unfold cmpSm at this
    simp only [Array.getElem_toList]
    omega
  · rw [Array.length_toList, hfl, hpl]
  · rw [hpl]
  · rw [hpl]; exact hnc
  · simp [Go.Sort.putCells, hcs]
  · rw [hpl]
    refine List.ext_getElem? fun i => ?_
    rw [List.getElem?_take]
    by_cases hi : i < l.length * 2
    · rw [if_pos hi]
      have hlt : i < (flatK encSm 2 d').size := by rw [hfl]; exact hi
      have hlt2 : i < cur.size := by rw [hcs]; omega
      simp only [Go.Sort.putCells, Array.getElem?_toList, Array.getElem?_mapIdx]
      rw [Array.getElem?_eq_getElem hlt2, Array.getElem?_eq_getElem hlt]
      simp only [Option.map_some, Nat.zero_le, true_and, Nat.zero_add, Nat.sub_zero, if_pos hlt, id]
      rw [getElem!_pos (flatK encSm 2 d') _ hlt]
    · rw [if_neg hi, List.getElem?_eq_none (by rw [Array.length_toList, hfl]; omega)]
  · intro i x hx
    have hi : i < d'.size := by have := (List.getElem?_eq_some_iff.1 hx).1; simpa using this
    rw [List.getElem?_map, Array.getElem?_toList, Array.getElem?_eq_getElem hi] at hx
    simp only [Option.map_some, Option.some.injEq] at hx
    have hm : x ∈ l := hp.subset (List.mem_map.2 ⟨d'[i], by simp, hx⟩)
    refine ⟨[.int .i64 x.frm, .int .i64 x.upto], ⟨rfl, hin x hm⟩, rfl, fun j u hu => ?_⟩
    have hj : j < 2 := (List.getElem?_eq_some_iff.1 hu).1
    rw [hget i hi j hj, ← hu]
    unfold encSm encSp
    rw [hx]
    have : j = 0 ∨ j = 1 := by omega
    rcases this with rfl | rfl <;> rfl
end Go.Proofs.Ytpodgidamoiakaa
