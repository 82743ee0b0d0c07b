/-
  Words, laws and contracts: MatchK, MatchQ, MatchS, MatchO, MatchL, MatchP, MatchR.
-/
import Derived.Test.YtlablioefblmkaaGreatBun15
import Derived.Deep.RegionWith
import Derived.BigQuiet
import Derived.Test.YtlablioefblmkaaGreatSortEdge
import Derived.Shelf.SlSortCmp.NoneTotal
set_option linter.unusedSimpArgs false
set_option linter.unusedVariables false
namespace Go.Proofs.YtlablioefblmkaaGreat
open Go.RowKit Go.Shelf
def inE (left right : Int) (x : Edg) : Bool := betB x.lft 0 (left - 1) && betB x.rgt 0 (right - 1)
def edgE (left right : Int) (l : List Edg) (i : Nat) : Int := if inE left right (l.getD i default) = false then 3 else if (l.take i).contains (l.getD i default) then 6 else 0
def sidesB (left right : Int) : Bool := betB left 0 16 && betB right 0 16
def grE (left right : Int) (l : List Edg) : Int := if sidesB left right = false then 3 else firstE (edgE left right l) l.length
theorem edgE_at {left right : Int} {l : List Edg} {i : Nat} {x : Edg} (h : l[i]? = some x) : edgE left right l i = if inE left right x = false then 3 else if (l.take i).contains x then 6 else 0 := by
  unfold edgE
  rw [List.getD_eq_getElem?_getD, h]; rfl
theorem inE_false {left right : Int} {x : Edg} (h : x.lft < 0 ∨ left ≤ x.lft ∨ x.rgt < 0 ∨ right ≤ x.rgt) : inE left right x = false := by
  unfold inE
  cases hb : betB x.lft 0 (left - 1)
  · rfl
  · have := betB_iff.1 hb
    rw [betB_false (by omega)]; rfl
theorem inE_true {left right : Int} {x : Edg} (h : ¬ x.lft < 0) (h1 : ¬ left ≤ x.lft) (h2 : ¬ x.rgt < 0) (h3 : ¬ right ≤ x.rgt) : inE left right x = true := by
  unfold inE
  rw [betB_true (by omega) (by omega), betB_true (by omega) (by omega)]; rfl
theorem grE_ok {left right : Int} {l : List Edg} (h : grE left right l = 0) : ∃ a b : Nat, left = a ∧ right = b ∧ a ≤ 16 ∧ b ≤ 16 ∧ OkGr a b l ∧ l.Nodup := by
  unfold grE at h
  cases hs : sidesB left right
  · rw [if_pos hs] at h; exact absurd h (by decide)
  · rw [if_neg (by rw [hs]; simp)] at h
    unfold sidesB at hs
    rw [Bool.and_eq_true, betB_iff, betB_iff] at hs
    obtain ⟨a, rfl⟩ := Int.eq_ofNat_of_zero_le hs.1.1
    obtain ⟨b, rfl⟩ := Int.eq_ofNat_of_zero_le hs.2.1
    have key : ∀ (i : Nat) (x : Edg), l[i]? = some x → inE a b x = true ∧ (l.take i).contains x = false := fun i x hx => by
      have h1 := firstE_zero h i (List.getElem?_eq_some_iff.1 hx).1
      rw [edgE_at hx] at h1
      cases h2 : inE a b x
      · rw [if_pos h2] at h1; exact absurd h1 (by decide)
      · rw [if_neg (by rw [h2]; simp)] at h1
        cases h3 : (l.take i).contains x
        · exact ⟨rfl, rfl⟩
        · rw [h3] at h1; exact absurd h1 (by decide)
    refine ⟨a, b, rfl, rfl, by omega, by omega, fun x hx => ?_, ?_⟩
    · obtain ⟨i, hi⟩ := List.getElem?_of_mem hx
      have h1 := (key i x hi).1
      unfold inE at h1
      rw [Bool.and_eq_true, betB_iff, betB_iff] at h1
      omega
    · rw [List.nodup_iff_pairwise_ne, List.pairwise_iff_getElem]
      intro i j hi hj hij he
      have h1 := (key j l[j] (List.getElem?_eq_getElem hj)).2
      have h2 : l[i] ∈ l.take j := by
        rw [List.mem_take_iff_getElem]
        exact ⟨i, by omega, rfl⟩
      rw [he] at h2
      rw [List.contains_iff_mem.2 h2] at h1
      exact absurd h1 (by simp)
theorem graph_small {a b : Nat} {l : List Edg} (h : OkGr a b l) (hn : l.Nodup) (ha : a ≤ 16) (hb : b ≤ 16) : l.length ≤ 256 := by
  have h1 := len_sub (l.map (fun x => x.lft.toNat * 16 + x.rgt.toNat)) (List.range 256) (nodup_map_of hn fun x hx y hy he => by
    have := h x hx
    have := h y hy
    have e1 : x.lft = y.lft := by omega
    have e2 : x.rgt = y.rgt := by omega
    cases x; cases y; simp_all) (fun v hv => by
    obtain ⟨x, hx, rfl⟩ := List.mem_map.1 hv
    have := h x hx
    rw [List.mem_range]; omega)
  rwa [List.length_map, List.length_range] at h1
end Go.Proofs.YtlablioefblmkaaGreat
namespace Go.Proofs.YtlablioefblmkaaGreat
open Go.RowKit Go.Shelf
def IsSize (left right : Nat) (l : List Edg) (k : Nat) : Prop := ∃ (has : List Int) (no : List Nat) (D : Nat → Prop), Asked (nbrs l) right (fun x => x < left) has no D ∧ k + no.length = left
section
variable {left right : Nat} {l : List Edg} {k k2 : Nat}
theorem IsSize.most (h : IsSize left right l k) (hg : OkGr left right l) {M : List (Nat × Nat)} (hM : IsM (nbrs l) M) : M.length ≤ k := by
  obtain ⟨has, no, D, h, e⟩ := h
  have := h.most (nbrs_lt hg) hM
  omega
theorem IsSize.le (h : IsSize left right l k) : k ≤ left := by
  obtain ⟨has, no, D, h, e⟩ := h
  omega
end
theorem IsSize.right {left right : Nat} {l : List Edg} {k : Nat} (h : IsSize left right l k) (hg : OkGr left right l) : k ≤ right := by
  obtain ⟨has, no, D, h, e⟩ := h
  have hb := h.best (nbrs_lt hg)
  have h1 := len_sub _ (List.range right) h.isM.rights (fun v hv => by
    obtain ⟨p, hp, rfl⟩ := List.mem_map.1 hv
    have := (mOf_mem.1 hp).1
    rw [h.len] at this
    exact List.mem_range.2 this)
  rw [List.length_map, List.length_range] at h1
  omega
theorem Best.right {left right : Nat} {l ml : List Edg} (h : Best left right l ml) (hg : OkGr left right l) : ml.length ≤ right := by
  have hM := h.isM hg
  have h1 := len_sub _ (List.range right) hM.rights (fun v hv => by
    obtain ⟨p, hp, rfl⟩ := List.mem_map.1 hv
    exact List.mem_range.2 (nbrs_lt hg _ _ (hM.edge p hp)).2)
  rwa [List.length_map, List.length_map, List.length_range] at h1
theorem IsM.some {N N' : Nat → List Nat} {M M' : List (Nat × Nat)} (h : IsM N M) (hs : M'.Sublist M) (he : ∀ p ∈ M', p.2 ∈ N' p.1) : IsM N' M' :=
  ⟨he, List.Nodup.sublist (hs.map _) h.lefts, List.Nodup.sublist (hs.map _) h.rights⟩
theorem Best.le_of {left right left2 right2 : Nat} {l ml l2 ml2 : List Edg} (h : Best left right l ml) (h2 : Best left2 right2 l2 ml2) (hg : OkGr left right l) (hs : ∀ x ∈ l, x ∈ l2) : ml.length ≤ ml2.length := by
  have hM := h.isM hg
  have := h2.most _ (hM.some (List.Sublist.refl _) (fun p hp => nbrs_mem (hs _ (nbrs_edge hg (hM.edge p hp))) rfl rfl))
  rwa [List.length_map] at this
theorem Best.one {left right left2 right2 : Nat} {l ml ml2 : List Edg} {x : Edg} (h : Best left right l ml) (h2 : Best left2 right2 (l ++ [x]) ml2) (hg : OkGr left right l) (hg2 : OkGr left2 right2 (l ++ [x])) : ml2.length = ml.length ∨ ml2.length = ml.length + 1 := by
  have h1 := h.le_of h2 hg (fun y hy => List.mem_append_left _ hy)
  have hM := h2.isM hg2
  obtain ⟨M, hMe⟩ : ∃ M, M = ml2.map (fun x => (x.lft.toNat, x.rgt.toNat)) := ⟨_, rfl⟩
  rw [← hMe] at hM
  have hnd : M.Nodup := nodup_of_map hM.lefts
  obtain ⟨p, hp⟩ : ∃ p, p = (x.lft.toNat, x.rgt.toNat) := ⟨_, rfl⟩
  have hE := h.most (M.erase p) (hM.some List.erase_sublist fun q hq => by
    have hq1 := (List.Nodup.mem_erase_iff hnd).1 hq
    have he := nbrs_edge hg2 (hM.edge q hq1.2)
    rcases List.mem_append.1 he with he | he
    · exact nbrs_mem he rfl rfl
    · simp only [List.mem_singleton] at he
      exact absurd (by rw [hp, ← he]; simp) hq1.1)
  have hl : M.length ≤ (M.erase p).length + 1 := by
    rw [List.length_erase]
    split <;> omega
  have hml : M.length = ml2.length := by rw [hMe, List.length_map]
  omega
theorem firstE_none {f : Nat → Int} : ∀ {n : Nat}, (∀ i, i < n → f i = 0) → firstE f n = 0
  | 0, _ => rfl
  | n + 1, h => firstE_succ (firstE_none fun i hi => h i (by omega)) (h n (by omega))
def MostOk (left right : Int) (l ml : List Edg) : Prop := (grE left right l ≠ 0 → ml = []) ∧ ∀ a b : Nat, left = a → right = b → grE left right l = 0 → Best a b l ml ∧ IsSize a b l ml.length
def LackOk (left right : Int) (l : List Edg) (sm : List Int) : Prop := (grE left right l ≠ 0 → sm = []) ∧ ∀ a b : Nat, left = a → right = b → grE left right l = 0 → ∃ k, IsSize a b l k ∧ ((sm = [] ∧ k = a) ∨ (k < a ∧ Lacks a l sm))
theorem MostOk.none {left right : Int} {l : List Edg} (h : grE left right l ≠ 0) : MostOk left right l [] := ⟨fun _ => rfl, fun _ _ _ _ h0 => absurd h0 h⟩
theorem LackOk.none {left right : Int} {l : List Edg} (h : grE left right l ≠ 0) : LackOk left right l [] := ⟨fun _ => rfl, fun _ _ _ _ h0 => absurd h0 h⟩
theorem MostOk.of {a b : Nat} {l ml : List Edg} (h0 : grE a b l = 0) (h : Best a b l ml) (hs : IsSize a b l ml.length) : MostOk a b l ml := ⟨fun h => absurd h0 h, fun a' b' ha hb _ => by
  obtain rfl := Int.ofNat.inj ha
  obtain rfl := Int.ofNat.inj hb
  exact ⟨h, hs⟩⟩
theorem LackOk.of {a b : Nat} {l : List Edg} {sm : List Int} (h0 : grE a b l = 0) {k : Nat} (hs : IsSize a b l k) (h : (sm = [] ∧ k = a) ∨ (k < a ∧ Lacks a l sm)) : LackOk a b l sm := ⟨fun h => absurd h0 h, fun a' b' ha hb _ => by
  obtain rfl := Int.ofNat.inj ha
  obtain rfl := Int.ofNat.inj hb
  exact ⟨k, hs, h⟩⟩
end Go.Proofs.YtlablioefblmkaaGreat
namespace Go.Proofs.YtlablioefblmkaaGreat
open Go.RowKit Go.Shelf Go.Lib
open Go.Sort hiding Below Holds
def encEd (x : Edg) : List Value := [.int .i64 x.lft, .int .i64 x.rgt]
abbrev SmEdg := { x : Edg // -1000 ≤ x.lft ∧ x.lft ≤ 1000 }
instance : Inhabited SmEdg := ⟨⟨⟨0, 0⟩, by decide, by decide⟩⟩
def encEm (x : SmEdg) : List Value := encEd x.1
def cmpEm (x y : SmEdg) : Int := x.1.lft - y.1.lft
theorem swoEm : Go.Sort.SWO (ltOf cmpEm) := ⟨fun x => by simp [ltOf, cmpEm], fun x y z h1 h2 => by
  have h1 : cmpEm x y < 0 := of_decide_eq_true h1
  have h2 : cmpEm y z < 0 := of_decide_eq_true h2
  refine decide_eq_true ?_
  unfold cmpEm at *
  omega, fun x y z h1 h2 => by
  have h1 : ¬ cmpEm x y < 0 := of_decide_eq_false h1
  have h2 : ¬ cmpEm y z < 0 := of_decide_eq_false h2
  refine decide_eq_false ?_
  unfold cmpEm at *
  omega⟩
theorem BestCmp_any (x y : SmEdg) (W : World) : Calls Tryz.prog 159 #[.agg #[.int .i64 x.1.lft, .int .i64 x.1.rgt], .agg #[.int .i64 y.1.lft, .int .i64 y.1.rgt]] W fun e w' => e = .returned (.int .i64 (cmpEm x y)) ∧ ∃ q os', w' = Go.Sort.grow (W.drewN q) os' := by
  obtain ⟨⟨a, b⟩, h1, h2⟩ := x
  obtain ⟨⟨c, d⟩, h3, h4⟩ := y
  simp only at h1 h2 h3 h4
  have hs : wrap64 (a - c) = a - c := by unfold wrap64; omega
  go_enter Tryz.func159, Tryz.ntmps159
  go_wp2_with fail
  go_ret
  exact ⟨rfl, 0, _, by rw [Go.Sort.alloc_eq_grow, Go.Sort.alloc_eq_grow, Go.Sort.grow_grow]; rfl⟩
section
variable {w : World} {blk n j : Nat} {F : Array Value → Array Value} {os : Array Obj}
theorem gw_size1 : (w.heap.modify blk (Go.Sort.onCells F)).size = w.heap.size := by simp
theorem gw_old (hj : j < w.heap.size) (hne : j ≠ blk) : (Go.Sort.grow (Go.Sort.mapBlock (Go.Sort.ahead w n) blk F) os).heap[j]? = w.heap[j]? := by
  unfold Go.Sort.grow Go.Sort.mapBlock Go.Sort.ahead
  simp only
  rw [Array.getElem?_append_left (by rw [gw_size1]; exact hj), Array.getElem?_modify, if_neg (fun e => hne e.symm)]
theorem gw_at {cur : Array Value} {e : TypeId} (h : w.heap[blk]? = some (.cells cur e (0, 0))) : (Go.Sort.grow (Go.Sort.mapBlock (Go.Sort.ahead w n) blk F) os).heap[blk]? = some (.cells (F cur) e (0, 0)) := by
  unfold Go.Sort.grow Go.Sort.mapBlock Go.Sort.ahead
  simp only
  rw [Array.getElem?_append_left (by rw [gw_size1]; exact (Array.getElem?_eq_some_iff.1 h).1), Array.getElem?_modify, if_pos rfl, h]
  rfl
theorem gw_size : w.heap.size ≤ (Go.Sort.grow (Go.Sort.mapBlock (Go.Sort.ahead w n) blk F) os).heap.size := by
  unfold Go.Sort.grow Go.Sort.mapBlock Go.Sort.ahead
  simp
theorem gw_kept : Kept (fun j => j = blk) w (Go.Sort.grow (Go.Sort.mapBlock (Go.Sort.ahead w n) blk F) os) := ⟨rfl, rfl, rfl, gw_size, fun _ hj hS => gw_old hj hS⟩
end
theorem flatE_at (d : Array SmEdg) (i j : Nat) (hi : i < d.size) (hj : j < 2) : (flatK encEm 2 d)[i * 2 + j]! = (encEm d[i]!)[j]! := by
  rw [get_flatK _ _ _ _ (by omega), show (i * 2 + j) / 2 = i by omega, show (i * 2 + j) % 2 = j by omega]
theorem Sort_edge {base g n cap : Nat} {l : List Edg} {xs : List Value} {w : World} (h : Own edgC 2 95 w base (.slice (some ⟨g, 0, none⟩) n cap) l xs) (h12 : l.length ≤ 1000) (hs : ∀ x ∈ l, -1000 ≤ x.lft ∧ x.lft ≤ 1000) :
    Calls Tryz.prog 158 #[.slice (some ⟨g, 0, none⟩) n cap, .func (.func 159) #[] #[]] w fun e w' => e = .returned (.tuple #[]) ∧
      ∃ l' xs', l'.Perm l ∧ l'.Pairwise (fun x y => x.lft ≤ y.lft) ∧ Own edgC 2 95 w' base (.slice (some ⟨g, 0, none⟩) n cap) l' xs' ∧ Kept (fun j => j = g) w w' := by
  obtain ⟨la, hla⟩ : ∃ la : List SmEdg, la.map Subtype.val = l := ⟨l.pmap (fun x hx => ⟨x, hx⟩) hs, by rw [List.map_pmap]; simp⟩
  have hlen : la.length = l.length := by rw [← hla]; simp
  have hrow := h.row
  have hn : n = l.length := by
    rcases hrow.2 with ⟨hv, _⟩ | ⟨g', cap', cur, hv, _⟩
    · cases hv
    · injection hv
  subst hn
  obtain ⟨cur, hb, hgg, hnc, hcm, hcs, htake⟩ : ∃ cur, base ≤ g ∧ w.heap[g]? = some (.cells cur 95 (0, 0)) ∧ l.length ≤ cap ∧ cap ≤ maxLen ∧ cur.size = cap * 2 ∧ cur.toList.take (l.length * 2) = xs := by
    rcases hrow.2 with ⟨hv, _⟩ | ⟨g', cap', cur, hv, r⟩
    · cases hv
    · simp only [Value.slice.injEq, Option.some.injEq, Addr.mk.injEq, and_true, true_and] at hv
      obtain ⟨rfl, rfl⟩ := hv
      exact ⟨cur, r⟩
  have hH : HoldsK encEm 2 w g 0 la.toArray := fun j hj => by
    rw [size_flatK] at hj
    have hj2 : j < la.length * 2 := by simpa using hj
    have hi : j / 2 < l.length := by omega
    obtain ⟨cs, hcc, hl, hcell, hfr⟩ := h.cells (List.getElem?_eq_getElem hi)
    obtain ⟨rfl, _⟩ := hcc
    refine ⟨?_, hfr _⟩
    have hji : j / 2 * 2 + j % 2 = j := by omega
    have hx : (la.toArray[j / 2]!).1 = l[j / 2] := by
      have h1 : j / 2 < la.length := by omega
      rw [getElem!_pos _ _ (by simpa using h1)]
      simp only [List.getElem_toArray]
      have : (la.map Subtype.val)[j / 2]'(by simpa using h1) = l[j / 2] := by simp only [hla]
      rw [List.getElem_map] at this
      exact this
    have hf := flatE_at la.toArray (j / 2) (j % 2) (by simp; omega) (by omega)
    rw [hji] at hf
    show w.cell? ⟨g, 0 + j, none⟩ = some ((flatK encEm 2 la.toArray)[j]!)
    rw [Nat.zero_add, hf]
    unfold encEm encEd
    rw [hx]
    have hc := hcell (j % 2) (([Value.int .i64 (l[j / 2]).lft, .int .i64 (l[j / 2]).rgt])[j % 2]!) (by
      have : j % 2 = 0 ∨ j % 2 = 1 := by omega
      rcases this with e | e <;> rw [e] <;> rfl)
    rw [hji] at hc
    exact hc
  have hcm := AnyQ.slices_SortFunc Tryz.sortEdge 2 Tryz.isAgg95 Tryz.sizeOf95 encEm (fun _ => rfl) (fun x v hv => by simp [encEm, encEd] at hv; rcases hv with rfl | rfl <;> rfl) cmpEm swoEm 159 #[] g 0 cap la.toArray w (enters_of Tryz.func159 (by kernel_rfl) rfl)
    (fun _ _ _ _ x y => BestCmp_any x y _) hH (lt_of_block hgg) (by simp; omega)
  have e1 : la.toArray.size = l.length := by simpa using hlen
  rw [e1] at hcm
  refine Calls.mono hcm ?_
  rintro e w' ⟨rfl, d', q, os, ⟨hsz, _, hperm⟩, hsort, rfl⟩
  have hds : d'.size = l.length := by rw [hsz]; exact e1
  have hp : (d'.toList.map Subtype.val).Perm l := by
    rw [← hla]
    refine List.Perm.map _ ?_
    have h1 : (d'.extract 0 l.length).toList = d'.toList := by rw [← hds]; simp
    have h2 : (la.toArray.extract 0 l.length).toList = la := by rw [← hlen]; simp
    rw [h1, h2] at hperm
    exact hperm
  have hpl := hp.length_eq
  have hin : ∀ x ∈ l, InI x.lft ∧ InI x.rgt := fun x hx => by
    obtain ⟨i, hi⟩ := List.getElem?_of_mem hx
    obtain ⟨_, hcc, _⟩ := h.cells hi
    exact hcc.2
  have hfl : (flatK encEm 2 d').size = l.length * 2 := by rw [size_flatK, hds]
  have hget : ∀ i (hi : i < d'.size) j, j < 2 → (flatK encEm 2 d').toList[i * 2 + j]? = some ((encEm d'[i])[j]!) := fun i hi j hj => by
    have hlt : i * 2 + j < (flatK encEm 2 d').size := by rw [hfl]; omega
    have := flatE_at d' i j hi hj
    rw [getElem!_pos (flatK encEm 2 d') _ hlt, getElem!_pos d' i hi] at this
    rw [← this]
    simp
  refine ⟨rfl, d'.toList.map Subtype.val, (flatK encEm 2 d').toList, hp, ?_, ⟨⟨?_, .inr ⟨g, cap, _, ?_, hb, gw_at hgg, ?_, ‹_›, ?_, ?_⟩⟩, ?_⟩, gw_kept⟩
  · rw [List.pairwise_map, List.pairwise_iff_getElem]
    intro i j hi hj hij
    have h1 : i < d'.size := by simpa using hi
    have h2 : j < d'.size := by simpa using hj
    have := hsort i j (Nat.zero_le _) hij (by omega)
    rw [getElem!_pos d' i h1, getElem!_pos d' j h2] at this
    have : ¬ cmpEm d'[j] d'[i] < 0 := of_decide_eq_false this
    unfold cmpEm at this
    simp only [Array.getElem_toList]
    omega
  · rw [Array.length_toList, hfl, hpl]
  · rw [hpl]
  · rw [hpl]; exact hnc
  · simp [Go.Sort.putCells, hcs]
  · rw [hpl]
    refine List.ext_getElem? fun i => ?_
    rw [List.getElem?_take]
    by_cases hi : i < l.length * 2
    · rw [if_pos hi]
      have hlt : i < (flatK encEm 2 d').size := by rw [hfl]; exact hi
      have hlt2 : i < cur.size := by rw [hcs]; omega
      simp only [Go.Sort.putCells, Array.getElem?_toList, Array.getElem?_mapIdx]
      rw [Array.getElem?_eq_getElem hlt2, Array.getElem?_eq_getElem hlt]
      simp only [Option.map_some, Nat.zero_le, true_and, Nat.zero_add, Nat.sub_zero, if_pos hlt, id]
      rw [getElem!_pos (flatK encEm 2 d') _ hlt]
    · rw [if_neg hi, List.getElem?_eq_none (by rw [Array.length_toList, hfl]; omega)]
  · intro i x hx
    have hi : i < d'.size := by have := (List.getElem?_eq_some_iff.1 hx).1; simpa using this
    rw [List.getElem?_map, Array.getElem?_toList, Array.getElem?_eq_getElem hi] at hx
    simp only [Option.map_some, Option.some.injEq] at hx
    have hm : x ∈ l := hp.subset (List.mem_map.2 ⟨d'[i], by simp, hx⟩)
    refine ⟨[.int .i64 x.lft, .int .i64 x.rgt], ⟨rfl, hin x hm⟩, rfl, fun j u hu => ?_⟩
    have hj : j < 2 := (List.getElem?_eq_some_iff.1 hu).1
    rw [hget i hi j hj, ← hu]
    unfold encEm encEd
    rw [hx]
    have : j = 0 ∨ j = 1 := by omega
    rcases this with rfl | rfl <;> rfl
theorem Sort_edge_none (p : Option Addr) (cap : Nat) (fv : Value) (w : World) : Calls Tryz.prog 158 #[.slice p 0 cap, fv] w fun e w' => e = .returned (.tuple #[]) ∧ w' = w :=
  AnyF.slices_SortFunc_none Tryz.sortEdge p cap fv w
theorem Sort_ints {base g n cap : Nat} {l : List Int} {xs : List Value} {w : World} (h : Own intC 1 3 w base (.slice (some ⟨g, 0, none⟩) n cap) l xs) (hm : l.length ≤ 1000) :
    Calls Tryz.prog 156 #[.slice (some ⟨g, 0, none⟩) n cap] w fun e w' => e = .returned (.tuple #[]) ∧
      ∃ l' xs', l'.Perm l ∧ l'.Pairwise (fun x y => x ≤ y) ∧ Own intC 1 3 w' base (.slice (some ⟨g, 0, none⟩) n cap) l' xs' ∧ Kept (fun j => j = g) w w' := by
  have hrow := h.row
  have hn : n = l.length := by
    rcases hrow.2 with ⟨hv, _⟩ | ⟨g', cap', cur, hv, _⟩
    · cases hv
    · injection hv
  subst hn
  obtain ⟨cur, hb, hgg, hnc, hcm, hcs, htake⟩ : ∃ cur, base ≤ g ∧ w.heap[g]? = some (.cells cur 3 (0, 0)) ∧ l.length ≤ cap ∧ cap ≤ maxLen ∧ cur.size = cap * 1 ∧ cur.toList.take (l.length * 1) = xs := by
    rcases hrow.2 with ⟨hv, _⟩ | ⟨g', cap', cur, hv, r⟩
    · cases hv
    · simp only [Value.slice.injEq, Option.some.injEq, Addr.mk.injEq, and_true, true_and] at hv
      obtain ⟨rfl, rfl⟩ := hv
      exact ⟨cur, r⟩
  have hH : Go.Sort.Holds (Value.int .i64) w g 0 l.toArray := fun j hj => by
    have hj : j < l.length := by simpa using hj
    obtain ⟨cs, hcc, hl, hcell, hfr⟩ := h.cells (List.getElem?_eq_getElem hj)
    obtain ⟨rfl, _⟩ := hcc
    refine ⟨?_, hfr _⟩
    have := hcell 0 _ rfl
    rw [Nat.zero_add, getElem!_pos l.toArray j (by simpa using hj)]
    simpa using this
  have hcm2 := AnyM.slices_Sort_int Tryz.sortInts g 0 cap l w hH (lt_of_block hgg) (by omega)
  refine Calls.mono hcm2 ?_
  rintro e w' ⟨rfl, q, os, rfl⟩
  obtain ⟨l', hl'⟩ : ∃ l', l' = l.mergeSort (fun x y => decide (x ≤ y)) := ⟨_, rfl⟩
  rw [← hl']
  have hp : l'.Perm l := by rw [hl']; exact List.mergeSort_perm _ _
  have hs : l'.Pairwise (fun x y => x ≤ y) := by
    have := List.pairwise_mergeSort (le := fun x y : Int => decide (x ≤ y)) (fun a b c h1 h2 => by simp at *; omega) (fun a b => by simp; omega) l
    rw [← hl'] at this
    exact this.imp (fun h => of_decide_eq_true h)
  have hpl := hp.length_eq
  have hin : ∀ x ∈ l, InI x := fun x hx => by
    obtain ⟨i, hi⟩ := List.getElem?_of_mem hx
    obtain ⟨_, hcc, _⟩ := h.cells hi
    exact hcc.2
  refine ⟨rfl, l', l'.map (Value.int .i64), hp, hs, ⟨⟨by simp, .inr ⟨g, cap, _, ?_, hb, gw_at hgg, ?_, hcm, ?_, ?_⟩⟩, ?_⟩, gw_kept⟩
  · rw [hpl]
  · rw [hpl]; exact hnc
  · simp [Go.Sort.putCells, hcs]
  · refine List.ext_getElem? fun i => ?_
    rw [List.getElem?_take, Nat.mul_one]
    by_cases hi : i < l'.length
    · rw [if_pos hi]
      have hlt2 : i < cur.size := by rw [hcs]; omega
      simp only [Go.Sort.putCells, Array.getElem?_toList, Array.getElem?_mapIdx]
      rw [Array.getElem?_eq_getElem hlt2]
      have hi2 : i < l'.toArray.size := by simpa using hi
      simp only [Option.map_some, Nat.zero_le, true_and, Nat.zero_add, Nat.sub_zero, if_pos hi2]
      rw [getElem!_pos l'.toArray i hi2, List.getElem?_map, List.getElem?_eq_getElem hi]
      simp
    · rw [if_neg hi, List.getElem?_eq_none (by simpa using hi)]
  · intro i x hx
    refine ⟨[.int .i64 x], ⟨rfl, hin x (hp.subset (List.mem_of_getElem? hx))⟩, rfl, fun j u hu => ?_⟩
    rcases j with _ | j
    · simp at hu; subst hu
      rw [Nat.mul_one, Nat.add_zero, List.getElem?_map, hx]; rfl
    · simp at hu
end Go.Proofs.YtlablioefblmkaaGreat
namespace Go.Proofs.YtlablioefblmkaaGreat
open Go.RowKit Go.Shelf
theorem edg_elem : ElemOf Tryz.prog 45 95 2 16 := .mk' Tryz.underlying45 (z := .agg #[.int .i64 0, .int .i64 0]) (by kernel_rfl) rfl (by omega)
theorem sl_edg (w : World) (S : Nat → Prop) (a b : Int) (t : TypeId) (ha : InI a) (hb : InI b) (hS : S w.heap.size) : Sl edgC 2 (w.alloc (.cells #[.int .i64 a, .int .i64 b] t)) S (some ⟨w.heap.size, 0, none⟩) 1 1 [⟨a, b⟩] :=
  Sl.lit1 w S t (⟨a, b⟩ : Edg) [.int .i64 a, .int .i64 b] ⟨rfl, ha, hb⟩ hS
theorem bstL_len (has : List Int) (n : Nat) : (bstL has n).length ≤ n := by
  unfold bstL
  exact Nat.le_trans (List.length_filterMap_le _ _) (Nat.le_of_eq List.length_range)
theorem bstL_mem {has : List Int} {n : Nat} {x : Edg} (h : x ∈ bstL has n) : ∃ r, r < n ∧ x.lft = has.getD r (-1) ∧ 0 ≤ x.lft := by
  unfold bstL at h
  obtain ⟨r, hr, he⟩ := List.mem_filterMap.1 h
  by_cases h1 : has.getD r (-1) < 0
  · rw [if_pos h1] at he; cases he
  · rw [if_neg h1] at he
    injection he with he
    subst he
    exact ⟨r, List.mem_range.1 hr, rfl, by simp only; omega⟩
set_option maxRecDepth 100000 in
set_option maxHeartbeats 8000000 in
theorem Best_any (left right : Nat) (A : Option Addr) (n cap : Nat) (l : List Edg) (w : World) (h : Sl edgC 2 w All A n cap l) (hl : left ≤ 16) (hr : right ≤ 16) (hg : OkGr left right l) (hn : n ≤ 1000) :
    Calls Tryz.prog 86 #[.int .i64 (left : Int), .int .i64 (right : Int), .slice A n cap] w fun e w' => ∃ (v : Value) (ml : List Edg) (xs : List Value), e = .returned v ∧ Own edgC 2 95 w' w.heap.size v ml xs ∧ Best left right l ml ∧ IsSize left right l ml.length ∧ Below w.heap.size w w' := by
  have HS := Lib.hid (solve_any left right A n cap l w h hl hr hg hn)
  have HG := Lib.hid hg
  clear hg
  clear h
  go_enter Tryz.func86, Tryz.ntmps86
  go_wp2_with fail
  refine HS.out.mono ?_
  rintro e w1 ⟨P, G, N, O, v, has, no, D, xs0, rfl, hSt, hOw, hAs, hP0, hG0, hN0, hb⟩
  obtain ⟨z, hz⟩ := hSt.st
  have p1 : w1.cell? ⟨P, 1, none⟩ = some (.slice (some ⟨G, 0, none⟩) right right) := hz.cell rfl
  have HSt := Lib.hid hSt
  have HAS := Lib.hid hAs
  have HB1 := Lib.hid hb
  have hs1 := hb.size
  clear hSt hOw hAs hb hz hP0 hG0 hN0 HS
  go_wp2_with fail
  go_loopg [24, 9] right (fun gk i nv wr => ∃ (k : Nat) (xs : List Value), k ≤ right ∧ right - k ≤ gk ∧ i = .int .i64 k ∧ Own edgC 2 95 wr w1.heap.size nv (bstL has k) xs ∧ Below w1.heap.size w1 wr)
  case atStart => exact ⟨0, [], Nat.zero_le _, by omega, rfl, Own.nil _ _ _ _ _, Below.refl _ _⟩
  case round =>
    obtain ⟨k, xs, hk, hgk, rfl, hO, hb⟩ := hrel
    obtain ⟨A2, n2, cap2, rfl, hs2⟩ := hO.sl edgC_good
    have hln := hs2.len
    clear hs2
    by_cases hlt : k < right
    · have c0 := (HSt.out.row.bel hb).cell' (i := k) (by rw [HSt.out.lh]; exact hlt)
      rcases HAS.out.edge k hlt with hh | ⟨d, hh, hda, _⟩
      · rw [hh] at c0
        have HV := Lib.hid (show bstL has (k + 1) = bstL has k by rw [bstL_succ, if_pos (by rw [hh]; decide)])
        have HO := Lib.hid hO
        clear hO hh hln
        go_wp2_with fail
        go_roundg (right - (k + 1))
        case measure => omega
        case rel => exact ⟨k + 1, xs, by omega, by omega, by go_num, by rw [HV.out]; exact HO.out, hb⟩
      · rw [hh] at c0
        have hda : d < left := hda
        have HV := Lib.hid (show bstL has (k + 1) = bstL has k ++ [⟨d, k⟩] by rw [bstL_succ, if_neg (by rw [hh]; omega), hh])
        have hOq := Lib.hid (hO.bel (bel1 wr (.cells #[.int .i64 (d : Int), .int .i64 (k : Int)] 95)))
        have hsw := hb.size
        have hsq : w1.heap.size ≤ (wr.alloc (.cells #[.int .i64 (d : Int), .int .i64 (k : Int)] 95)).heap.size := by simp; omega
        have hby : ((bstL has k).length + 1) * 16 ≤ 140737488355328 := by have := bstL_len has k; omega
        have hd0 : (0 : Int) ≤ (d : Int) := by omega
        have HBQ := Lib.hid (hb.alloc hb.size (.cells #[.int .i64 (d : Int), .int .i64 (k : Int)] 95))
        clear hO hh hln hb
        go_wp2_with (at_builtin; refine list_app (t := 45) (e := 95) (bytes := 16) rfl (.tmp 31) (.tmp 35) rfl edg_elem edgC_good rfl hOq.out rfl (sl_edg _ All (d : Int) (k : Int) 95 (.of (by omega) (by omega)) (.of (by omega) (by omega)) trivial) (fun _ _ hc => hc) hby (by omega) hsq ?_; intro v' w' xs' hown' hg' _)
        go_roundg (right - (k + 1))
        case measure => omega
        case rel => exact ⟨k + 1, xs', by omega, by omega, by go_num, by rw [HV.out]; exact hown', below_app HBQ.out hOq.out hg' hsq⟩
    · obtain rfl : k = right := by omega
      have HB2 := Lib.hid (HB1.out.trans (hb.mono hs1))
      have HSB := Lib.hid hb.size
      by_cases h0 : n2 = 0
      · have hnil : bstL has k = [] := List.eq_nil_of_length_eq_zero (by omega)
        have HL := Lib.hid (best_law HAS.out HG.out (List.Perm.refl (bstL has k)) (by rw [hnil]; exact List.Pairwise.nil))
        rw [hnil] at hO HL
        have HO := Lib.hid (hO.mono edgC_good hs1)
        subst h0
        clear hO hln hnil hb
        go_wp2_with fail
        refine (Sort_edge_none A2 cap2 _ _).mono ?_
        rintro e w3 ⟨rfl, rfl⟩
        go_wp2_with fail
        go_ret
        exact ⟨_, [], xs, rfl, HO.out, HL.out.1, ⟨has, no, D, HAS.out, HL.out.2⟩, HB2.out⟩
      · obtain ⟨g, c9, hv, hg0, hgl⟩ := hO.form (by omega)
        simp only [Value.slice.injEq] at hv
        obtain ⟨rfl, -, rfl⟩ := hv
        have h12 : (bstL has k).length ≤ 1000 := by have := bstL_len has k; omega
        have hbd : ∀ x ∈ bstL has k, -1000 ≤ x.lft ∧ x.lft ≤ 1000 := fun x hx => by
          obtain ⟨r, hr1, hr2, hr3⟩ := bstL_mem hx
          rcases HAS.out.edge r hr1 with e | ⟨d, e, hd, _⟩
          · omega
          · have hd : d < left := hd
            omega
        have hst := Sort_edge (w := wr) (base := w1.heap.size) (g := g) (n := n2) (cap := cap2) hO h12 hbd
        have HST := Lib.hid hst
        clear hst
        clear hO hb h12 hbd hln
        go_wp2_with fail
        refine HST.out.mono ?_
        rintro e w3 ⟨rfl, ml, xs3, hp, hs, hO3, hK⟩
        have HL := Lib.hid (best_law HAS.out HG.out hp hs)
        have HO := Lib.hid (hO3.mono edgC_good hs1)
        have HB3 := Lib.hid (HB2.out.trans (hK.below (B := w.heap.size) HB2.out.size (fun q hq e => by omega)))
        clear hp hs hO3 hK
        go_wp2_with fail
        go_ret
        exact ⟨_, ml, xs3, rfl, HO.out, HL.out.1, ⟨has, no, D, HAS.out, HL.out.2⟩, HB3.out⟩
end Go.Proofs.YtlablioefblmkaaGreat
namespace Go.Proofs.YtlablioefblmkaaGreat
open Go.RowKit Go.Shelf Go.Maps
theorem side_any (n : Int) (w : World) : Calls Tryz.prog 157 #[.int .i64 n] w fun e w' => e = .returned (.bool (betB n 0 16)) ∧ w' = w := by
  go_enter Tryz.func157, Tryz.ntmps157
  by_cases h0 : 0 ≤ n <;> by_cases h1 : n ≤ 16
  · rw [betB_true h0 h1]
    go_wp2_with fail
    go_ret
    exact ⟨rfl, rfl⟩
  · rw [betB_false (by omega)]
    go_wp2_with fail
    go_ret
    exact ⟨rfl, rfl⟩
  · rw [betB_false (by omega)]
    go_wp2_with fail
    go_ret
    exact ⟨rfl, rfl⟩
  · rw [betB_false (by omega)]
    go_wp2_with fail
    go_ret
    exact ⟨rfl, rfl⟩
set_option maxRecDepth 100000 in
set_option maxHeartbeats 4000000 in
theorem CheckM_any (left right : Int) (A : Option Addr) (n cap : Nat) (l : List Edg) (w : World) (h : Sl edgC 2 w All A n cap l) :
    Calls Tryz.prog 81 #[.int .i64 left, .int .i64 right, .slice A n cap] w fun e w' => e = .returned (.int .i64 (grE left right l)) ∧ Below w.heap.size w w' := by
  have hmm := @run_makeMap Tryz.prog
  have hbd := h.bd
  have hle := h.le
  have hmx := h.max
  obtain ⟨r, hr⟩ : ∃ r, r = grE left right l := ⟨_, rfl⟩
  rw [← hr]
  have HSL := Lib.hid h
  unfold grE at hr
  rw [h.len] at hr
  have HR := Lib.hid hr
  clear hr h
  have hb1 := fun W => side_any left W
  have hb2 := fun W => side_any right W
  go_enter Tryz.func81, Tryz.ntmps81
  cases b1 : betB left 0 16
  · rw [b1] at hb1
    have hr : r = 3 := by rw [HR.out, if_pos (by unfold sidesB; rw [b1]; rfl)]
    subst hr
    clear b1
    go_wp2_with fail
    refine (hb1 _).mono ?_
    rintro e w9 ⟨rfl, rfl⟩
    go_wp2_with fail
    go_ret
    exact ⟨rfl, Below.refl _ _⟩
  rw [b1] at hb1
  go_wp2_with fail
  refine (hb1 _).mono ?_
  rintro e w9 ⟨rfl, rfl⟩
  cases b2 : betB right 0 16
  · rw [b2] at hb2
    have hr : r = 3 := by rw [HR.out, if_pos (by unfold sidesB; rw [b1, b2]; rfl)]
    subst hr
    clear b1 b2
    go_wp2_with fail
    refine (hb2 _).mono ?_
    rintro e w9 ⟨rfl, rfl⟩
    go_wp2_with fail
    go_ret
    exact ⟨rfl, Below.refl _ _⟩
  rw [b2] at hb2
  have HR2 := Lib.hid (show r = firstE (edgE left right l) n by rw [HR.out, if_neg (by unfold sidesB; rw [b1, b2]; simp)])
  clear b1 b2 HR
  go_wp2_with fail
  refine (hb2 _).mono ?_
  rintro e w8 ⟨rfl, rfl⟩
  go_wp2_with fail
  go_loopg [21] n (fun gk i wr => ∃ k : Nat, k ≤ n ∧ n - k ≤ gk ∧ i = .int .i64 k ∧ Aside (firstE (edgE left right l) k = 0) ∧ Tally Tryz.prog wr 95 3 w8.heap.size k (cntE (l.take k)) ∧ Below w8.heap.size w8 wr)
  case atStart => exact ⟨0, Nat.zero_le _, by omega, rfl, rfl, by rw [List.take_zero, cntE_nil]; exact Tally.made _ _ _ _, (Below.refl _ _).alloc (Nat.le_refl _) _⟩
  case round =>
    obtain ⟨k, hk, hgk, rfl, HA, hT, hb⟩ := hrel
    by_cases hlt : k < n
    · obtain ⟨b, off, x, c0, c1, rfl, hx, hcs, e0, e1⟩ := (HSL.out.bel hb).at2 hlt
      obtain ⟨hcs, ix, iy⟩ := hcs
      simp only [List.cons.injEq, and_true] at hcs
      obtain ⟨rfl, rfl⟩ := hcs
      have HV := Lib.hid (edgE_at (left := left) (right := right) hx)
      have hBl := hT.lt
      have hs8 := hb.size
      obtain ⟨W4, hW4⟩ : ∃ W4, W4 = wr.alloc (.cells #[.int .i64 x.lft, .int .i64 x.rgt] 95) := ⟨_, rfl⟩
      have hb4 : Below wr.heap.size wr W4 := by rw [hW4]; exact bel1 _ _
      have hE4 : Blk W4 wr.heap.size #[.int .i64 x.lft, .int .i64 x.rgt] 95 := by rw [hW4]; exact blk1 _ _
      have hT4 : Tally Tryz.prog W4.drew 95 3 w8.heap.size k (cntE (l.take k)) := hT.bel hb4.drew
      have hB4 : Below w8.heap.size w8 W4.drew := (hb.trans (hb4.mono hb.size)).drew
      obtain ⟨q, hq⟩ : ∃ q, q = (l.take k).count x := ⟨_, rfl⟩
      have hqk : q ≤ k := by
        rw [hq]
        exact Nat.le_trans List.count_le_length (by rw [List.length_take]; omega)
      have hci : InI (((l.take k).count x : Nat) + 1 : Int) := by rw [← hq]; exact ⟨by omega, by omega⟩
      obtain ⟨st, W2, W3, hl1, hme, hl2, hst, hT3, hg2, hg3⟩ := tally_incr ix iy hT4 (show k < maxLen by omega) hci
      rw [← take_snoc hx] at hT3
      have hl3 := tally_look (x := x) ix iy hT3
      rw [take_snoc hx, List.count_append, List.count_singleton_self, ← hq] at hl3
      rw [← hq] at hl1 hme hl2 hst
      have HCN := Lib.hid (show (l.take k).contains x = decide (0 < q) by
        cases hcn : (l.take k).contains x
        · have h2 : x ∉ l.take k := fun hm => by rw [List.contains_iff_mem.2 hm] at hcn; cases hcn
          rw [hq, List.count_eq_zero.2 h2]; rfl
        · have h2 := List.contains_iff_mem.1 hcn
          rw [hq, decide_eq_true (List.count_pos_iff.2 h2)])
      have hB3 := hB4.grown hg3 (by have := hb4.size; have h2 : W4.drew.heap.size = W4.heap.size := rfl; omega) (fun j hj => by cases hj; exact Nat.le_refl _)
      have hne : some wr.heap.size ≠ some w8.heap.size := fun e => by injection e with e; omega
      have hE40 : W4.drew.cell? ⟨wr.heap.size, 0, none⟩ = some (.int .i64 x.lft) := hE4.cell rfl
      have hE41 : W4.drew.cell? ⟨wr.heap.size, 1, none⟩ = some (.int .i64 x.rgt) := hE4.cell rfl
      have hEl : wr.heap.size < W4.drew.heap.size := hE4.lt
      have mv : ∀ (W : World), W4.drew.grownBy W (some w8.heap.size) → ∀ j, W.cell? ⟨wr.heap.size, j, none⟩ = W4.drew.cell? ⟨wr.heap.size, j, none⟩ := fun W hg j => World.cell?_of_block (a := ⟨wr.heap.size, j, none⟩) (hg.block _ hEl hne)
      have hE20 := (mv W2 hg2 0).trans hE40
      have hE21 := (mv W2 hg2 1).trans hE41
      have hE30 := (mv W3 hg3 0).trans hE40
      have hE31 := (mv W3 hg3 1).trans hE41
      have HT3 := Lib.hid hT3
      have HB3 := Lib.hid hB3
      have hst' : (Instr.entryStore 181 (.map (some w8.heap.size)) (.int .i64 st) (.int .i64 ((q : Int) + 1))).run Tryz.prog W2 = .ok () W3 := hst
      have hme' : (Instr.mapEntry 181 (.map (some w8.heap.size)) (.agg #[.int .i64 x.lft, .int .i64 x.rgt])).run Tryz.prog W4.drew = .ok (.tuple #[.int .i64 q, .int .i64 st]) W2 := hme
      have hl1' : (Instr.lookup 181 (.map (some w8.heap.size)) (.agg #[.int .i64 x.lft, .int .i64 x.rgt]) false).run Tryz.prog W4.drew = .ok (.int .i64 q) W4.drew := hl1
      have hl2' : (Instr.lookup 181 (.map (some w8.heap.size)) (.agg #[.int .i64 x.lft, .int .i64 x.rgt]) false).run Tryz.prog W2 = .ok (.int .i64 q) W2 := hl2
      have hl3' : (Instr.lookup 181 (.map (some w8.heap.size)) (.agg #[.int .i64 x.lft, .int .i64 x.rgt]) false).run Tryz.prog W3 = .ok (.int .i64 ((q : Int) + 1)) W3 := hl3
      have hwq : IntKind.i64.wrap ((q : Int) + 1) = (q : Int) + 1 := by rw [IntKind.wrap_i64]; omega
      clear hx hq hl1 hme hl2 hst hl3 hT3 hB3 hT4 hB4 hg2 hg3 hT hb mv hE4 hb4 hci ix iy
      go_upto_region 7 with (fail)
      rw [← hW4]
      clear hW4
      go_cut [21] (fun i wx => i = .int .i64 k ∧ W3 = wx)
      case first =>
        go_region_with (fail)
        all_goals
          go_wp2_with fail
          go_meet
          exact ⟨rfl, rfl⟩
      obtain ⟨rfl, hw3⟩ := hcut
      subst hw3
      clear hl1' hme' hl2' hst' hE20 hE21 hE40 hE41
      by_cases hbad : x.lft < 0 ∨ left ≤ x.lft ∨ x.rgt < 0 ∨ right ≤ x.rgt
      · have hr : r = 3 := by rw [HR2.out, firstE_at HA (by rw [HV.out, if_pos (inE_false hbad)]; decide) hlt, HV.out, if_pos (inE_false hbad)]
        subst hr
        by_cases f1 : x.lft < 0
        · clear hbad
          go_wp2_with fail
          go_ret
          exact ⟨rfl, HB3.out⟩
        · by_cases f2 : left ≤ x.lft
          · clear hbad
            go_wp2_with fail
            go_ret
            exact ⟨rfl, HB3.out⟩
          · by_cases f3 : x.rgt < 0
            · clear hbad
              go_wp2_with fail
              go_ret
              exact ⟨rfl, HB3.out⟩
            · have f4 : right ≤ x.rgt := by omega
              clear hbad
              go_wp2_with fail
              go_ret
              exact ⟨rfl, HB3.out⟩
      · have f1 : ¬ x.lft < 0 := by omega
        have f2 : ¬ left ≤ x.lft := by omega
        have f3 : ¬ x.rgt < 0 := by omega
        have f4 : ¬ right ≤ x.rgt := by omega
        clear hbad
        have HV2 := Lib.hid (show edgE left right l k = if 0 < q then 6 else 0 by
          rw [HV.out, if_neg (by rw [inE_true f1 f2 f3 f4]; simp), HCN.out]
          by_cases h0 : 0 < q
          · rw [decide_eq_true h0, if_pos rfl, if_pos h0]
          · rw [decide_eq_false h0, if_neg (by simp), if_neg h0])
        clear HV
        by_cases h0 : 0 < q
        · have h6 : edgE left right l k = 6 := by rw [HV2.out, if_pos h0]
          have hr : r = 6 := by rw [HR2.out, firstE_at HA (by rw [h6]; decide) hlt, h6]
          subst hr
          have hq1 : (1 : Int) < (q : Int) + 1 := by omega
          clear h6
          go_wp2_with fail
          go_ret
          exact ⟨rfl, HB3.out⟩
        · have HN := Lib.hid (show edgE left right l k = 0 by rw [HV2.out, if_neg h0])
          have hq1 : ¬ (1 : Int) < (q : Int) + 1 := by omega
          clear h0
          go_wp2_with fail
          go_roundg (n - (k + 1))
          case measure => omega
          case rel => exact ⟨k + 1, by omega, by omega, by go_num, (show Aside _ from firstE_succ HA HN.out), HT3.out, HB3.out⟩
    · obtain rfl : k = n := by omega
      have hr : r = 0 := by rw [HR2.out]; exact HA
      subst hr
      have HB := Lib.hid hb
      clear hb hT
      go_wp2_with fail
      go_ret
      exact ⟨rfl, HB.out⟩
end Go.Proofs.YtlablioefblmkaaGreat
namespace Go.Proofs.YtlablioefblmkaaGreat
open Go.RowKit Go.Shelf
set_option maxRecDepth 100000 in
set_option maxHeartbeats 2000000 in
theorem Most_any (left right : Int) (A : Option Addr) (n cap : Nat) (l : List Edg) (w : World) (h : Sl edgC 2 w All A n cap l) :
    Calls Tryz.prog 29 #[.int .i64 left, .int .i64 right, .slice A n cap] w fun e w' => ∃ (v : Value) (ml : List Edg) (xs : List Value), e = .returned (.tuple #[v, .int .i64 (grE left right l)]) ∧ Own edgC 2 95 w' w.heap.size v ml xs ∧ MostOk left right l ml ∧ Below w.heap.size w w' := by
  have HC := Lib.hid (CheckM_any left right A n cap l w h)
  obtain ⟨r, hr⟩ : ∃ r, r = grE left right l := ⟨_, rfl⟩
  rw [← hr] at HC ⊢
  have HR := Lib.hid hr
  clear hr
  have HH := Lib.hid h
  clear h
  go_enter Tryz.func29, Tryz.ntmps29
  go_wp2_with fail
  refine HC.out.mono ?_
  rintro e w1 ⟨rfl, hb⟩
  by_cases h0 : r = 0
  · have hR := HR.out
    rw [h0] at hR
    obtain ⟨a, b, rfl, rfl, ha, hb16, hg, hnd⟩ := grE_ok hR.symm
    have hlen := HH.out.len
    have hsm := graph_small hg hnd ha hb16
    have HBS := Lib.hid (Best_any a b A n cap l w1 (HH.out.bel hb) ha hb16 hg (by omega))
    have HRR := Lib.hid hR
    have HB1 := Lib.hid hb
    subst h0
    clear hR HR hg hnd hlen hsm hb HC
    go_wp2_with fail
    refine HBS.out.mono ?_
    rintro e w2 ⟨v, ml, xs, rfl, hO, hbest, hsz, hb2⟩
    have HO := Lib.hid (hO.mono edgC_good HB1.out.size)
    have HM := Lib.hid (MostOk.of HRR.out.symm hbest hsz)
    have HB2 := Lib.hid (HB1.out.trans (hb2.mono HB1.out.size))
    clear hO hbest hsz hb2
    go_wp2_with fail
    go_ret2
    exact ⟨v, ml, xs, rfl, HO.out, HM.out, HB2.out⟩
  · have HM := Lib.hid (MostOk.none (left := left) (right := right) (l := l) (by rw [← HR.out]; exact h0))
    have h0' : (r == 0) = false := by simpa using h0
    clear h0
    go_wp2_with fail
    go_ret2
    exact ⟨_, [], [], rfl, Own.nil _ _ _ _ _, HM.out, hb⟩
end Go.Proofs.YtlablioefblmkaaGreat
namespace Go.Proofs.YtlablioefblmkaaGreat
open Go.RowKit Go.Shelf
theorem Own.oneI {w : World} {b base : Nat} {y : Int} (h : Blk w b #[.int .i64 y] 3) (hb : base ≤ b) (hy : InI y) : Own intC 1 3 w base (.slice (some ⟨b, 0, none⟩) 1 1) [y] [.int .i64 y] :=
  ⟨⟨rfl, .inr ⟨b, 1, _, rfl, hb, h, Nat.le_refl _, by decide, rfl, rfl⟩⟩, fun i x hx => by
    rcases i with _ | i
    · simp at hx; subst hx
      exact ⟨[.int .i64 y], ⟨rfl, hy⟩, rfl, fun j u hu => by rcases j with _ | j <;> simp_all⟩
    · simp at hx⟩
theorem lackL_len (n0 : Nat) (has : List Int) (met : List Bool) (n : Nat) : (lackL n0 has met n).length ≤ n + 1 ∧ 0 < (lackL n0 has met n).length := by
  unfold lackL metL
  rw [List.length_cons, List.length_map]
  have := List.length_filter_le (fun r => met.getD r true) (List.range n)
  rw [List.length_range] at this
  omega
set_option maxRecDepth 100000 in
set_option maxHeartbeats 8000000 in
theorem Lack_any (left right : Int) (A : Option Addr) (n cap : Nat) (l : List Edg) (w : World) (h : Sl edgC 2 w All A n cap l) :
    Calls Tryz.prog 80 #[.int .i64 left, .int .i64 right, .slice A n cap] w fun e w' => ∃ (v : Value) (sm : List Int) (xs : List Value), e = .returned (.tuple #[v, .int .i64 (grE left right l)]) ∧ Own intC 1 3 w' w.heap.size v sm xs ∧ LackOk left right l sm ∧ Below w.heap.size w w' := by
  have HC := Lib.hid (CheckM_any left right A n cap l w h)
  obtain ⟨r, hr⟩ : ∃ r, r = grE left right l := ⟨_, rfl⟩
  rw [← hr] at HC ⊢
  have HR := Lib.hid hr
  clear hr
  have HH := Lib.hid h
  clear h
  go_enter Tryz.func80, Tryz.ntmps80
  go_wp2_with fail
  refine HC.out.mono ?_
  rintro e w1 ⟨rfl, hb⟩
  by_cases h0 : r = 0
  · have hR := HR.out
    rw [h0] at hR
    obtain ⟨a, b, rfl, rfl, ha, hb16, hg, hnd⟩ := grE_ok hR.symm
    have hlen := HH.out.len
    have hsm := graph_small hg hnd ha hb16
    have HS := Lib.hid (solve_any a b A n cap l w1 (HH.out.bel hb) ha hb16 hg (by omega))
    have HRR := Lib.hid hR
    have HG := Lib.hid hg
    have HB1 := Lib.hid hb
    have hs0 := hb.size
    subst h0
    clear hR HR hg hnd hlen hsm hb HC HH
    go_wp2_with fail
    refine HS.out.mono ?_
    rintro e w2 ⟨P, G, N, O, v, has, no, D, xs0, rfl, hSt, hOw, hAs, hP0, hG0, hN0, hb2⟩
    have hb := HB1.out.trans (hb2.mono HB1.out.size)
    have HB2 := Lib.hid hb
    have hs2 := hb.size
    obtain ⟨A7, n7, c7, rfl, hs7⟩ := hOw.sl intC_good
    have hl7 : no.length = n7 := by have := hs7.len; rwa [List.length_map] at this
    clear hs7 hb2 hb HS
    by_cases hz : n7 = 0
    · have hnil : no = [] := List.eq_nil_of_length_eq_zero (by omega)
      have HL := Lib.hid (LackOk.of HRR.out.symm (sm := []) (k := a) ⟨has, no, D, hAs, by rw [hnil]; rfl⟩ (.inl ⟨rfl, rfl⟩))
      subst hz
      clear hSt hOw hAs hnil hl7
      go_wp2_with fail
      go_ret2
      exact ⟨_, [], [], rfl, Own.nil _ _ _ _ _, HL.out, HB2.out⟩
    · obtain ⟨n0, hn0⟩ : ∃ n0, no[0]? = some n0 := ⟨_, List.getElem?_eq_getElem (by omega)⟩
      have hm0 := List.mem_of_getElem? hn0
      have hnA : n0 < a := hAs.noA n0 hm0
      obtain ⟨g, c9, hv, hg0, hgl⟩ := hOw.form (by rw [List.length_map]; omega)
      simp only [Value.slice.injEq] at hv
      obtain ⟨rfl, -, rfl⟩ := hv
      have hx0 : (no.map Int.ofNat)[0]? = some (n0 : Int) := by rw [List.getElem?_map, hn0]; rfl
      have hNl := hSt.le
      have hPG := hSt.pg
      have hPn := hSt.pn
      have hGn := hSt.gn
      have HFG := Lib.hid (forget_any P G N (some ⟨O, 0, none⟩) a a b (rowsOf a l) has w2 hSt hb16)
      have HOW := Lib.hid hOw
      have HAS := Lib.hid hAs
      have HM0 := Lib.hid hm0
      have HRG2 := Lib.hid (rgts_rows HG.out)
      have HRB := Lib.hid (rows_bd HG.out)
      have HKA := Lib.hid (show n7 + (a - n7) = a ∧ a - n7 < a from by have := hAs.most (nbrs_lt HG.out) (M := []) ⟨by simp, by simp, by simp⟩; simp at this; omega)
      have hne7 : ((n7 : Int) == 0) = false := by have : ¬ (n7 : Int) = 0 := (by omega); simpa using this
      have hz0 : (0 : Int) < (n7 : Int) := by omega
      have hz1 : ¬ (n7 : Int) = 0 := by omega
      clear hSt hOw hAs hn0 hm0 hgl
      go_wp2_with fail
      refine HFG.out.mono ?_
      rintro e w5 ⟨rfl, hM5, hS5, hK5⟩
      have hO5 := HOW.out.keep intC_good (fun q hq hql => hK5.block q hql (by omega))
      obtain ⟨cs, ⟨hcs, _⟩, _, hcell, _⟩ := hO5.cells hx0
      subst hcs
      have e0 : w5.cell? ⟨g, 0, none⟩ = some (.int .i64 (n0 : Int)) := hcell 0 _ rfl
      have hcall := find_any P G w2.heap.size (some ⟨O, 0, none⟩) a a b (rowsOf a l) (by omega) hPG (by omega) HRB.out _ has (List.replicate b false) n0 w5 hM5 hnA (Nat.le_refl _) (fun r hr => (HAS.out.edge r hr).imp id (fun ⟨d, e, h1, _⟩ => ⟨d, e, h1⟩)) (by omega)
      rw [HRG2.out] at hcall
      have HCALL := Lib.hid hcall
      have HO5 := Lib.hid hO5
      have HK5 := Lib.hid hK5
      have hs5 := hK5.size
      clear hM5 hS5 hK5 hcall hO5 hcell HFG
      go_wp2_with fail
      refine HCALL.out.mono ?_
      rintro e w6 ⟨bb, has', met', rfl, hA6, hK6, hT6, hF6⟩
      cases bb
      rotate_left
      · exact absurd (HAS.out.noD n0 HM0.out) ((hT6 rfl).shut D HAS.out.shut).1
      obtain ⟨rfl, h6⟩ := hF6 rfl
      have hK7 : Kept (fun q => q = P ∨ q = G) w2 w6 := ((HK5.out.mono (T := fun q => q = P ∨ q = G ∨ q = w2.heap.size) (fun q _ e => .inl e)).trans (hK6.mono (fun q _ e => .inr e))).mono (fun q hq e => by
        rcases e with e | e | e
        · exact .inl e
        · exact .inr e
        · omega)
      have hs6 := hK7.size
      have hO6 := HOW.out.keep intC_good (fun q hq hql => hK7.block q hql (by rintro (e | e) <;> omega))
      obtain ⟨cs, ⟨hcs, _⟩, _, hcell, _⟩ := hO6.cells hx0
      subst hcs
      have e0 : w6.cell? ⟨g, 0, none⟩ = some (.int .i64 (n0 : Int)) := hcell 0 _ rfl
      have HB6 := Lib.hid (HB2.out.trans (hK7.below (B := w.heap.size) (by omega) (fun q hq e => by rcases e with e | e <;> omega)))
      have HA6 := Lib.hid hA6
      have HF6 := Lib.hid h6
      have hI0 : InI (n0 : Int) := .of (by omega) (by omega)
      obtain ⟨W7, hW7⟩ : ∃ W7, W7 = w6.alloc (.cells #[.int .i64 (n0 : Int)] 3) := ⟨_, rfl⟩
      have hb7 : Below w6.heap.size w6 W7 := by rw [hW7]; exact bel1 _ _
      have hL7 : Blk W7 w6.heap.size #[.int .i64 (n0 : Int)] 3 := by rw [hW7]; exact blk1 _ _
      have HO7 := Lib.hid (Own.oneI hL7 (Nat.le_refl _) hI0)
      have p2 : W7.cell? ⟨P, 2, none⟩ = some (.slice (some ⟨w2.heap.size, 0, none⟩) b b) := (hA6.st.bel hb7).cell rfl
      have HB7 := Lib.hid hb7
      clear hO6 hcell hA6 h6 hT6 hF6 hK6 hK7 hL7 hb7 hI0 HCALL HO5 HK5
      go_upto_region 10 with (fail)
      rw [← hW7]
      clear hW7
      go_wp2_with fail
      go_loopg [47, 11] b (fun gk i nv wr => ∃ (k : Nat) (xs : List Value), k ≤ b ∧ b - k ≤ gk ∧ i = .int .i64 k ∧ Own intC 1 3 wr w6.heap.size nv (lackL n0 has' met' k) xs ∧ Below w6.heap.size w6 wr)
      case atStart => exact ⟨0, _, Nat.zero_le _, by omega, rfl, HO7.out, HB7.out⟩
      case round =>
        obtain ⟨k, xs, hk, hgk, rfl, hO, hb⟩ := hrel
        obtain ⟨A2, n2, cap2, rfl, hsl2⟩ := hO.sl intC_good
        have hln := hsl2.len
        clear hsl2
        have hsw := hb.size
        by_cases hlt : k < b
        · have hMk := HA6.out
          have c0 := RowB.cell (hMk.mt.bel hb : RowB wr _ _) (i := k) (by rw [hMk.lm]; exact hlt)
          have p1 : wr.cell? ⟨P, 1, none⟩ = some (.slice (some ⟨G, 0, none⟩) b b) := (hMk.st.bel hb).cell rfl
          have g0 := RowI.cell' (hMk.row.bel hb : RowI wr _ _ _) (i := k) (by rw [hMk.lh]; exact hlt)
          obtain ⟨v, hv⟩ : ∃ v, v = met'.getD k true := ⟨_, rfl⟩
          rw [← hv] at c0
          clear hMk
          cases v
          · have HV := Lib.hid (show lackL n0 has' met' (k + 1) = lackL n0 has' met' k by rw [lackL_succ, if_neg (by rw [← hv]; simp)])
            have HO := Lib.hid hO
            clear hO hv hln
            go_wp2_with fail
            go_roundg (b - (k + 1))
            case measure => omega
            case rel => exact ⟨k + 1, xs, by omega, by omega, by go_num, by rw [HV.out]; exact HO.out, hb⟩
          · have hy0 : InI (has'.getD k (-1)) := by
              rcases HAS.out.edge k hlt with e | ⟨d, e, hd, _⟩
              · rw [e]; exact .of (by decide) (by decide)
              · have hd : d < a := hd
                rw [e]; exact .of (by omega) (by omega)
            have hV0 : lackL n0 has' met' (k + 1) = lackL n0 has' met' k ++ [has'.getD k (-1)] := by rw [lackL_succ, if_pos hv.symm]
            obtain ⟨y, hy⟩ : ∃ y, y = has'.getD k (-1) := ⟨_, rfl⟩
            rw [← hy] at g0 hy0 hV0
            have HV := Lib.hid hV0
            have hOq := Lib.hid (hO.bel (bel1 wr (.cells #[.int .i64 y] 3)))
            have hsq : w6.heap.size ≤ (wr.alloc (.cells #[.int .i64 y] 3)).heap.size := by simp; omega
            have hby : ((lackL n0 has' met' k).length + 1) * 8 ≤ 140737488355328 := by have := (lackL_len n0 has' met' k).1; omega
            have HBQ := Lib.hid (hb.alloc hb.size (.cells #[.int .i64 y] 3))
            clear hO hv hln hV0 hb hy
            go_wp2_with (at_builtin; refine list_app (t := 44) (e := 3) (bytes := 8) rfl (.tmp 53) (.tmp 61) rfl int_elem intC_good rfl hOq.out rfl (sl_int _ All y 3 hy0 trivial) (fun _ _ hc => hc) hby (by omega) hsq ?_; intro v' w' xs' hown' hg' _)
            go_roundg (b - (k + 1))
            case measure => omega
            case rel => exact ⟨k + 1, xs', by omega, by omega, by go_num, by rw [HV.out]; exact hown', below_app HBQ.out hOq.out hg' hsq⟩
        · obtain rfl : k = b := by omega
          have hll := lackL_len n0 has' met' k
          obtain ⟨g2, c2, hv, hg2, _⟩ := hO.form hll.2
          simp only [Value.slice.injEq] at hv
          obtain ⟨rfl, -, rfl⟩ := hv
          have hbx := HB6.out.trans (hb.mono HB6.out.size)
          have HB8 := Lib.hid hbx
          have hs8 := HB6.out.size
          have HSO := Lib.hid (Sort_ints hO (by omega))
          clear hO hb hbx
          go_wp2_with fail
          refine HSO.out.mono ?_
          rintro e w3 ⟨rfl, sm, xs3, hp, hs, hO3, hK⟩
          have HL := Lib.hid (LackOk.of HRR.out.symm (k := a - n7) ⟨has', no, D, HAS.out, by have := HKA.out.1; rw [hl7]; omega⟩ (.inr ⟨HKA.out.2, lack_law HAS.out HG.out HM0.out HF6.out hp hs⟩))
          have HO := Lib.hid (hO3.mono intC_good hs8)
          have hnot : ∀ q, q < w.heap.size → ¬ q = g2 := fun q hq e => by omega
          have HB9 := Lib.hid (HB8.out.trans (hK.below (B := w.heap.size) HB8.out.size hnot))
          clear hp hs hO3 hK HSO
          go_wp2_with fail
          go_ret2
          exact ⟨_, sm, xs3, rfl, HO.out, HL.out, HB9.out⟩
  · have HM := Lib.hid (LackOk.none (left := left) (right := right) (l := l) (by rw [← HR.out]; exact h0))
    have h0' : (r == 0) = false := by simpa using h0
    clear h0
    go_wp2_with fail
    go_ret2
    exact ⟨_, [], [], rfl, Own.nil _ _ _ _ _, HM.out, hb⟩
end Go.Proofs.YtlablioefblmkaaGreat
