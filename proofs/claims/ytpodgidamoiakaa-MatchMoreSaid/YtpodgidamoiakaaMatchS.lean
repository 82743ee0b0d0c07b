/-
  Matchings: slices.SortFunc at edges and slices.Sort at numbers, by the shelf's contracts: an own row is sorted in place.
-/
import Derived.Test.YtpodgidamoiakaaMatchB
import Derived.Test.YtpodgidamoiakaaSortEdge
import Derived.Shelf.SlSortCmp.NoneTotal
namespace Go.Proofs.Ytpodgidamoiakaa
open Go.RowKit Go.Shelf Go.Lib
open Go.Sort hiding Below Holds

def encEd (x : Edg) : List Value := [.int .i64 x.lft, .int .i64 x.rgt]
/-- Edges whose left ends may be taken one from another. -/
abbrev SmEdg := { x : Edg // -1000 ≤ x.lft ∧ x.lft ≤ 1000 }
instance : Inhabited SmEdg := ⟨⟨⟨0, 0⟩, by decide, by decide⟩⟩
def encEm (x : SmEdg) : List Value := encEd x.1
def cmpEm (x y : SmEdg) : Int := x.1.lft - y.1.lft
theorem swoEm : Go.Sort.SWO (ltOf cmpEm) := ⟨fun x => by simp [ltOf, cmpEm], fun x y z h1 h2 => by
  have h1 : cmpEm x y < 0 := of_decide_eq_true h1
  have h2 : cmpEm y z < 0 := of_decide_eq_true h2
  refine decide_eq_true ?_
  unfold cmpEm at *
  omega, fun x y z h1 h2 => by
  have h1 : ¬ cmpEm x y < 0 := of_decide_eq_false h1
  have h2 : ¬ cmpEm y z < 0 := of_decide_eq_false h2
  refine decide_eq_false ?_
  unfold cmpEm at *
  omega⟩
theorem BestCmp_any (x y : SmEdg) (W : World) : Calls Try.prog 87 #[.agg #[.int .i64 x.1.lft, .int .i64 x.1.rgt], .agg #[.int .i64 y.1.lft, .int .i64 y.1.rgt]] W fun e w' => e = .returned (.int .i64 (cmpEm x y)) ∧ ∃ q os', w' = Go.Sort.grow (W.drewN q) os' := by
  obtain ⟨⟨a, b⟩, h1, h2⟩ := x
  obtain ⟨⟨c, d⟩, h3, h4⟩ := y
  simp only at h1 h2 h3 h4
  have hs : wrap64 (a - c) = a - c := by unfold wrap64; omega
  go_enter Try.func87, Try.ntmps87
  go_wp2_with fail
  go_ret
  exact ⟨rfl, 0, _, by rw [Go.Sort.alloc_eq_grow, Go.Sort.alloc_eq_grow, Go.Sort.grow_grow]; rfl⟩

section
variable {w : World} {blk n j : Nat} {F : Array Value → Array Value} {os : Array Obj}
theorem gw_size1 : (w.heap.modify blk (Go.Sort.onCells F)).size = w.heap.size := by simp
theorem gw_old (hj : j < w.heap.size) (hne : j ≠ blk) : (Go.Sort.grow (Go.Sort.mapBlock (Go.Sort.ahead w n) blk F) os).heap[j]? = w.heap[j]? := by
  unfold Go.Sort.grow Go.Sort.mapBlock Go.Sort.ahead
  simp only
  rw [Array.getElem?_append_left (by rw [gw_size1]; exact hj), Array.getElem?_modify, if_neg (fun e => hne e.symm)]
theorem gw_at {cur : Array Value} {e : TypeId} (h : w.heap[blk]? = some (.cells cur e (0, 0))) : (Go.Sort.grow (Go.Sort.mapBlock (Go.Sort.ahead w n) blk F) os).heap[blk]? = some (.cells (F cur) e (0, 0)) := by
  unfold Go.Sort.grow Go.Sort.mapBlock Go.Sort.ahead
  simp only
  rw [Array.getElem?_append_left (by rw [gw_size1]; exact (Array.getElem?_eq_some_iff.1 h).1), Array.getElem?_modify, if_pos rfl, h]
  rfl
theorem gw_size : w.heap.size ≤ (Go.Sort.grow (Go.Sort.mapBlock (Go.Sort.ahead w n) blk F) os).heap.size := by
  unfold Go.Sort.grow Go.Sort.mapBlock Go.Sort.ahead
  simp
theorem gw_kept : Kept (fun j => j = blk) w (Go.Sort.grow (Go.Sort.mapBlock (Go.Sort.ahead w n) blk F) os) := ⟨rfl, rfl, rfl, gw_size, fun _ hj hS => gw_old hj hS⟩
end

theorem flatE_at (d : Array SmEdg) (i j : Nat) (hi : i < d.size) (hj : j < 2) : (flatK encEm 2 d)[i * 2 + j]! = (encEm d[i]!)[j]! := by
  rw [get_flatK _ _ _ _ (by omega), show (i * 2 + j) / 2 = i by omega, show (i * 2 + j) % 2 = j by omega]

/-- An own row of edges is sorted in place. -/
theorem Sort_edge {base g n cap : Nat} {l : List Edg} {xs : List Value} {w : World} (h : Own edgC 2 70 w base (.slice (some ⟨g, 0, none⟩) n cap) l xs) (h12 : l.length ≤ 1000) (hs : ∀ x ∈ l, -1000 ≤ x.lft ∧ x.lft ≤ 1000) :
    Calls Try.prog 86 #[.slice (some ⟨g, 0, none⟩) n cap, .func (.func 87) #[] #[]] w fun e w' => e = .returned (.tuple #[]) ∧
      ∃ l' xs', l'.Perm l ∧ l'.Pairwise (fun x y => x.lft ≤ y.lft) ∧ Own edgC 2 70 w' base (.slice (some ⟨g, 0, none⟩) n cap) l' xs' ∧ Kept (fun j => j = g) w w' := by
  obtain ⟨la, hla⟩ : ∃ la : List SmEdg, la.map Subtype.val = l := ⟨l.pmap (fun x hx => ⟨x, hx⟩) hs, by rw [List.map_pmap]; simp⟩
  have hlen : la.length = l.length := by rw [← hla]; simp
  have hrow := h.row
  have hn : n = l.length := by
    rcases hrow.2 with ⟨hv, _⟩ | ⟨g', cap', cur, hv, _⟩
    · cases hv
    · injection hv
  subst hn
  obtain ⟨cur, hb, hgg, hnc, hcm, hcs, htake⟩ : ∃ cur, base ≤ g ∧ w.heap[g]? = some (.cells cur 70 (0, 0)) ∧ l.length ≤ cap ∧ cap ≤ maxLen ∧ cur.size = cap * 2 ∧ cur.toList.take (l.length * 2) = xs := by
    rcases hrow.2 with ⟨hv, _⟩ | ⟨g', cap', cur, hv, r⟩
    · cases hv
    · simp only [Value.slice.injEq, Option.some.injEq, Addr.mk.injEq, and_true, true_and] at hv
      obtain ⟨rfl, rfl⟩ := hv
      exact ⟨cur, r⟩
  have hH : HoldsK encEm 2 w g 0 la.toArray := fun j hj => by
    rw [size_flatK] at hj
    have hj2 : j < la.length * 2 := by simpa using hj
    have hi : j / 2 < l.length := by omega
    obtain ⟨cs, hcc, hl, hcell, hfr⟩ := h.cells (List.getElem?_eq_getElem hi)
    obtain ⟨rfl, _⟩ := hcc
    refine ⟨?_, hfr _⟩
    have hji : j / 2 * 2 + j % 2 = j := by omega
    have hx : (la.toArray[j / 2]!).1 = l[j / 2] := by
      have h1 : j / 2 < la.length := by omega
      rw [getElem!_pos _ _ (by simpa using h1)]
      simp only [List.getElem_toArray]
      have : (la.map Subtype.val)[j / 2]'(by simpa using h1) = l[j / 2] := by simp only [hla]
      rw [List.getElem_map] at this
      exact this
    have hf := flatE_at la.toArray (j / 2) (j % 2) (by simp; omega) (by omega)
    rw [hji] at hf
    show w.cell? ⟨g, 0 + j, none⟩ = some ((flatK encEm 2 la.toArray)[j]!)
    rw [Nat.zero_add, hf]
    unfold encEm encEd
    rw [hx]
    have hc := hcell (j % 2) (([Value.int .i64 (l[j / 2]).lft, .int .i64 (l[j / 2]).rgt])[j % 2]!) (by
      have : j % 2 = 0 ∨ j % 2 = 1 := by omega
      rcases this with e | e <;> rw [e] <;> rfl)
    rw [hji] at hc
    exact hc
  have hcm := AnyQ.slices_SortFunc Try.sortEdge 2 Try.isAgg70 Try.sizeOf70 encEm (fun _ => rfl) (fun x v hv => by simp [encEm, encEd] at hv; rcases hv with rfl | rfl <;> rfl) cmpEm swoEm 87 #[] g 0 cap la.toArray w (enters_of Try.func87 (by kernel_rfl) rfl)
    (fun _ _ _ _ x y => BestCmp_any x y _) hH (lt_of_block hgg) (by simp; omega)
  have e1 : la.toArray.size = l.length := by simpa using hlen
  rw [e1] at hcm
  refine Calls.mono hcm ?_
  rintro e w' ⟨rfl, d', q, os, ⟨hsz, _, hperm⟩, hsort, rfl⟩
  have hds : d'.size = l.length := by rw [hsz]; exact e1
  have hp : (d'.toList.map Subtype.val).Perm l := by
    rw [← hla]
    refine List.Perm.map _ ?_
    have h1 : (d'.extract 0 l.length).toList = d'.toList := by rw [← hds]; simp
    have h2 : (la.toArray.extract 0 l.length).toList = la := by rw [← hlen]; simp
    rw [h1, h2] at hperm
    exact hperm
  have hpl := hp.length_eq
  have hin : ∀ x ∈ l, InI x.lft ∧ InI x.rgt := fun x hx => by
    obtain ⟨i, hi⟩ := List.getElem?_of_mem hx
    obtain ⟨_, hcc, _⟩ := h.cells hi
    exact hcc.2
  have hfl : (flatK encEm 2 d').size = l.length * 2 := by rw [size_flatK, hds]
  have hget : ∀ i (hi : i < d'.size) j, j < 2 → (flatK encEm 2 d').toList[i * 2 + j]? = some ((encEm d'[i])[j]!) := fun i hi j hj => by
    have hlt : i * 2 + j < (flatK encEm 2 d').size := by rw [hfl]; omega
    have := flatE_at d' i j hi hj
    rw [getElem!_pos (flatK encEm 2 d') _ hlt, getElem!_pos d' i hi] at this
    rw [← this]
    simp
  refine ⟨rfl, d'.toList.map Subtype.val, (flatK encEm 2 d').toList, hp, ?_, ⟨⟨?_, .inr ⟨g, cap, _, ?_, hb, gw_at hgg, ?_, ‹_›, ?_, ?_⟩⟩, ?_⟩, gw_kept⟩
  · rw [List.pairwise_map, List.pairwise_iff_getElem]
    intro i j hi hj hij
    have h1 : i < d'.size := by simpa using hi
    have h2 : j < d'.size := by simpa using hj
    have := hsort i j (Nat.zero_le _) hij (by omega)
    rw [getElem!_pos d' i h1, getElem!_pos d' j h2] at this
    have : ¬ cmpEm d'[j] d'[i] < 0 := of_decide_eq_false this
    unfold cmpEm at this
    simp only [Array.getElem_toList]
    omega
  · rw [Array.length_toList, hfl, hpl]
  · rw [hpl]
  · rw [hpl]; exact hnc
  · simp [Go.Sort.putCells, hcs]
  · rw [hpl]
    refine List.ext_getElem? fun i => ?_
    rw [List.getElem?_take]
    by_cases hi : i < l.length * 2
    · rw [if_pos hi]
      have hlt : i < (flatK encEm 2 d').size := by rw [hfl]; exact hi
      have hlt2 : i < cur.size := by rw [hcs]; omega
      simp only [Go.Sort.putCells, Array.getElem?_toList, Array.getElem?_mapIdx]
      rw [Array.getElem?_eq_getElem hlt2, Array.getElem?_eq_getElem hlt]
      simp only [Option.map_some, Nat.zero_le, true_and, Nat.zero_add, Nat.sub_zero, if_pos hlt, id]
      rw [getElem!_pos (flatK encEm 2 d') _ hlt]
    · rw [if_neg hi, List.getElem?_eq_none (by rw [Array.length_toList, hfl]; omega)]
  · intro i x hx
    have hi : i < d'.size := by have := (List.getElem?_eq_some_iff.1 hx).1; simpa using this
    rw [List.getElem?_map, Array.getElem?_toList, Array.getElem?_eq_getElem hi] at hx
    simp only [Option.map_some, Option.some.injEq] at hx
    have hm : x ∈ l := hp.subset (List.mem_map.2 ⟨d'[i], by simp, hx⟩)
    refine ⟨[.int .i64 x.lft, .int .i64 x.rgt], ⟨rfl, hin x hm⟩, rfl, fun j u hu => ?_⟩
    have hj : j < 2 := (List.getElem?_eq_some_iff.1 hu).1
    rw [hget i hi j hj, ← hu]
    unfold encEm encEd
    rw [hx]
    have : j = 0 ∨ j = 1 := by omega
    rcases this with rfl | rfl <;> rfl

/-- .. of no edge: a nil slice too. -/
theorem Sort_edge_none (p : Option Addr) (cap : Nat) (fv : Value) (w : World) : Calls Try.prog 86 #[.slice p 0 cap, fv] w fun e w' => e = .returned (.tuple #[]) ∧ w' = w :=
  AnyF.slices_SortFunc_none Try.sortEdge p cap fv w

/-- An own row of numbers is sorted in place. -/
theorem Sort_ints {base g n cap : Nat} {l : List Int} {xs : List Value} {w : World} (h : Own intC 1 3 w base (.slice (some ⟨g, 0, none⟩) n cap) l xs) (hm : l.length ≤ 1000) :
    Calls Try.prog 75 #[.slice (some ⟨g, 0, none⟩) n cap] w fun e w' => e = .returned (.tuple #[]) ∧
      ∃ l' xs', l'.Perm l ∧ l'.Pairwise (fun x y => x ≤ y) ∧ Own intC 1 3 w' base (.slice (some ⟨g, 0, none⟩) n cap) l' xs' ∧ Kept (fun j => j = g) w w' := by
  have hrow := h.row
  have hn : n = l.length := by
    rcases hrow.2 with ⟨hv, _⟩ | ⟨g', cap', cur, hv, _⟩
    · cases hv
    · injection hv
  subst hn
  obtain ⟨cur, hb, hgg, hnc, hcm, hcs, htake⟩ : ∃ cur, base ≤ g ∧ w.heap[g]? = some (.cells cur 3 (0, 0)) ∧ l.length ≤ cap ∧ cap ≤ maxLen ∧ cur.size = cap * 1 ∧ cur.toList.take (l.length * 1) = xs := by
    rcases hrow.2 with ⟨hv, _⟩ | ⟨g', cap', cur, hv, r⟩
    · cases hv
    · simp only [Value.slice.injEq, Option.some.injEq, Addr.mk.injEq, and_true, true_and] at hv
      obtain ⟨rfl, rfl⟩ := hv
      exact ⟨cur, r⟩
  have hH : Go.Sort.Holds (Value.int .i64) w g 0 l.toArray := fun j hj => by
    have hj : j < l.length := by simpa using hj
    obtain ⟨cs, hcc, hl, hcell, hfr⟩ := h.cells (List.getElem?_eq_getElem hj)
    obtain ⟨rfl, _⟩ := hcc
    refine ⟨?_, hfr _⟩
    have := hcell 0 _ rfl
    rw [Nat.zero_add, getElem!_pos l.toArray j (by simpa using hj)]
    simpa using this
  have hcm2 := AnyM.slices_Sort_int Try.sortInts g 0 cap l w hH (lt_of_block hgg) (by omega)
  refine Calls.mono hcm2 ?_
  rintro e w' ⟨rfl, q, os, rfl⟩
  obtain ⟨l', hl'⟩ : ∃ l', l' = l.mergeSort (fun x y => decide (x ≤ y)) := ⟨_, rfl⟩
  rw [← hl']
  have hp : l'.Perm l := by rw [hl']; exact List.mergeSort_perm _ _
  have hs : l'.Pairwise (fun x y => x ≤ y) := by
    have := List.pairwise_mergeSort (le := fun x y : Int => decide (x ≤ y)) (fun a b c h1 h2 => by simp at *; omega) (fun a b => by simp; omega) l
    rw [← hl'] at this
    exact this.imp (fun h => of_decide_eq_true h)
  have hpl := hp.length_eq
  have hin : ∀ x ∈ l, InI x := fun x hx => by
    obtain ⟨i, hi⟩ := List.getElem?_of_mem hx
    obtain ⟨_, hcc, _⟩ := h.cells hi
    exact hcc.2
  refine ⟨rfl, l', l'.map (Value.int .i64), hp, hs, ⟨⟨by simp, .inr ⟨g, cap, _, ?_, hb, gw_at hgg, ?_, hcm, ?_, ?_⟩⟩, ?_⟩, gw_kept⟩
  · rw [hpl]
  · rw [hpl]; exact hnc
  · simp [Go.Sort.putCells, hcs]
  · refine List.ext_getElem? fun i => ?_
    rw [List.getElem?_take, Nat.mul_one]
    by_cases hi : i < l'.length
    · rw [if_pos hi]
      have hlt2 : i < cur.size := by rw [hcs]; omega
      simp only [Go.Sort.putCells, Array.getElem?_toList, Array.getElem?_mapIdx]
      rw [Array.getElem?_eq_getElem hlt2]
      have hi2 : i < l'.toArray.size := by simpa using hi
      simp only [Option.map_some, Nat.zero_le, true_and, Nat.zero_add, Nat.sub_zero, if_pos hi2]
      rw [getElem!_pos l'.toArray i hi2, List.getElem?_map, List.getElem?_eq_getElem hi]
      simp
    · rw [if_neg hi, List.getElem?_eq_none (by simpa using hi)]
  · intro i x hx
    refine ⟨[.int .i64 x], ⟨rfl, hin x (hp.subset (List.mem_of_getElem? hx))⟩, rfl, fun j u hu => ?_⟩
    rcases j with _ | j
    · simp at hu; subst hu
      rw [Nat.mul_one, Nat.add_zero, List.getElem?_map, hx]; rfl
    · simp at hu
end Go.Proofs.Ytpodgidamoiakaa
