/-
  Words, laws and contracts: StockQ, StockL.
-/
import Derived.Test.YtoilcdgpeilgaaaGreatBun20
import Derived.Shelf.Spec.SlicesInsertGrow
set_option linter.unusedSimpArgs false
set_option linter.unusedVariables false
namespace Go.Proofs.YtoilcdgpeilgaaaGreat
open Go.RowKit Go.Shelf
theorem Own.insert {α : Type} {c : Cod α} {size : Nat} {e : TypeId} {w w' : World} {base : Nat} {v v' : Value} {l : List α} {xs : List Value} {i : Nat} {b : α} {vc : List Value} (h : Own c size e w base v l xs) (hi : i ≤ l.length) (hvc : vc.length = size)
    (hb : c w' (Beside base v') b vc) (hmove : ∀ x cs, c w (Beside base v) x cs → c w' (Beside base v') x cs) (hrow : w'.ownsRow base e size v' (l.length + 1) (xs.take (i * size) ++ vc ++ xs.drop (i * size))) :
    Own c size e w' base v' (l.take i ++ b :: l.drop i) (xs.take (i * size) ++ vc ++ xs.drop (i * size)) := by
  have hxl : xs.length = l.length * size := h.row.1
  have hmul : i * size ≤ l.length * size := Nat.mul_le_mul_right _ hi
  have htl : (xs.take (i * size)).length = i * size := by rw [List.length_take]; omega
  have hlen : (l.take i ++ b :: l.drop i).length = l.length + 1 := by rw [List.length_append, List.length_take, List.length_cons, List.length_drop]; omega
  refine ⟨by rw [hlen]; exact hrow, fun q x hx => ?_⟩
  rcases Nat.lt_trichotomy q i with hq | hq | hq
  · rw [List.getElem?_append_left (by rw [List.length_take]; omega), List.getElem?_take, if_pos hq] at hx
    obtain ⟨cs, hc, hl, hcell⟩ := h.el q x hx
    refine ⟨cs, hmove _ _ hc, hl, fun j u hu => ?_⟩
    have hj : j < size := by have := (List.getElem?_eq_some_iff.1 hu).1; omega
    have h1 : (q + 1) * size ≤ i * size := Nat.mul_le_mul_right _ hq
    rw [Nat.add_mul] at h1
    rw [List.getElem?_append_left (by rw [List.length_append, htl]; omega), List.getElem?_append_left (by rw [htl]; omega), List.getElem?_take, if_pos (by omega)]
    exact hcell j u hu
  · subst hq
    rw [List.getElem?_append_right (by rw [List.length_take]; omega), List.length_take, Nat.min_eq_left hi, Nat.sub_self] at hx
    simp at hx
    subst hx
    refine ⟨vc, hb, hvc, fun j u hu => ?_⟩
    have hj : j < size := by have := (List.getElem?_eq_some_iff.1 hu).1; omega
    rw [List.getElem?_append_left (by rw [List.length_append, htl]; omega), List.getElem?_append_right (by rw [htl]; omega), htl]
    rwa [show q * size + j - q * size = j by omega]
  · rw [List.getElem?_append_right (by rw [List.length_take]; omega), List.length_take, Nat.min_eq_left hi] at hx
    obtain ⟨d, hd⟩ : ∃ d, q - i = d + 1 := ⟨q - i - 1, by omega⟩
    rw [hd, List.getElem?_cons_succ, List.getElem?_drop] at hx
    obtain ⟨cs, hc, hl, hcell⟩ := h.el _ x hx
    refine ⟨cs, hmove _ _ hc, hl, fun j u hu => ?_⟩
    have hj : j < size := by have := (List.getElem?_eq_some_iff.1 hu).1; omega
    have h2 : q * size = i * size + (d + 1) * size := by rw [← Nat.add_mul]; congr 1; omega
    have h3 : (d + 1) * size = d * size + size := by rw [Nat.add_mul, Nat.one_mul]
    rw [List.getElem?_append_right (by rw [List.length_append, htl, hvc]; omega), List.length_append, htl, hvc, List.getElem?_drop]
    rw [show i * size + (q * size + j - (i * size + size)) = (i + d) * size + j by rw [Nat.add_mul]; omega]
    exact hcell j u hu
theorem bok_info : ∃ i : TypeInfo, Tryz.prog.info? 37 = some i ∧ i.size = 11 ∧ i.bytes = 104 ∧ i.zero = some (.agg #[.int .i64 0, .int .i64 0, .int .i64 0, .int .i64 0, .bool false, .int .i64 0, .int .i64 0, .int .i64 0, .int .i64 0, .int .i64 0, .slice none 0 0]) := by
  have h0 : (Tryz.prog.info? 37).map (fun i => (i.zero, i.size, i.bytes)) = some (some (.agg #[.int .i64 0, .int .i64 0, .int .i64 0, .int .i64 0, .bool false, .int .i64 0, .int .i64 0, .int .i64 0, .int .i64 0, .int .i64 0, .slice none 0 0]), 11, 104) := by kernel_rfl
  obtain ⟨i, hi, hz0, hz1, hz2⟩ := info_parts h0
  exact ⟨i, hi, hz1, hz2, hz0⟩
theorem run_copy_bok {w : World} {g : Nat} {cur : Array Value} {t : TypeId} (hg : Blk w g cur t) (ty : TypeId) (o dLen dCap : Nat) (a : Addr) (sLen sCap k : Nat) (cs : List Value) (hk : k = Nat.min sLen dLen) (hn : cs.length = k * 11)
    (hsrc : ∀ j v, cs[j]? = some v → w.cell? (a.add j) = some v) (hfit : o + cs.length ≤ cur.size) (h1 : ∀ v ∈ cs, v.oneCell' = true) :
    (Builtin.copy_ #[30, 30] ty #[.slice (some ⟨g, o, none⟩) dLen dCap, .slice (some a) sLen sCap]).run Tryz.prog w =
      .ok (goInt k) (w.setRow g (cur.toList.take o ++ cs ++ cur.toList.drop (o + cs.length)).toArray) := by
  have hl := run_loadCells_list (P := Tryz.prog) w a cs hsrc
  have hst := run_storeCells_at Tryz.prog g o t cs 0 cur w hg (by simpa using hfit) h1
  obtain ⟨i, hi, hs, _⟩ := bok_info
  rw [hn] at hl
  subst hk
  simp [Builtin.copy_, run_underlying Tryz.underlying30, Builtin.lenOf, Builtin.firstCells, sizeOf, typeInfo, hi, hs, hl, hst]
theorem shift_cells {cur xs vc : List Value} {i n cap : Nat} (hc : cur.length = cap * 11) (htk : cur.take (n * 11) = xs) (hin : i < n) (hnc : n + 1 ≤ cap) (hv : vc.length = 11) {C1 F : List Value}
    (hC1 : C1 = cur.take ((i + 1) * 11) ++ xs.drop (i * 11) ++ cur.drop ((i + 1) * 11 + (xs.drop (i * 11)).length)) (hF : F = C1.take (i * 11) ++ vc ++ C1.drop (i * 11 + vc.length)) :
    C1.length = cap * 11 ∧ F.length = cap * 11 ∧ F.take ((n + 1) * 11) = xs.take (i * 11) ++ vc ++ xs.drop (i * 11) := by
  have hxl : xs.length = n * 11 := by rw [← htk, List.length_take]; omega
  have hdl : (xs.drop (i * 11)).length = (n - i) * 11 := by rw [List.length_drop, hxl]; omega
  have hP : (cur.take ((i + 1) * 11)).length = (i + 1) * 11 := by rw [List.length_take]; omega
  have hl1 : C1.length = cap * 11 := by rw [hC1, List.length_append, List.length_append, hP, hdl, List.length_drop]; omega
  have h1 : C1.take (i * 11) = xs.take (i * 11) := by
    rw [hC1, List.append_assoc, List.take_append_of_le_length (by rw [hP]; omega), List.take_take, ← htk, List.take_take]
    congr 1; omega
  have h2 : C1.drop (i * 11 + vc.length) = xs.drop (i * 11) ++ cur.drop ((i + 1) * 11 + (xs.drop (i * 11)).length) := by
    rw [hC1, List.append_assoc, hv, show i * 11 + 11 = (cur.take ((i + 1) * 11)).length by rw [hP]; omega, List.drop_left]
  have hF2 : F = (xs.take (i * 11) ++ vc ++ xs.drop (i * 11)) ++ cur.drop ((i + 1) * 11 + (xs.drop (i * 11)).length) := by rw [hF, h1, h2]; simp
  have hl3 : (xs.take (i * 11) ++ vc ++ xs.drop (i * 11)).length = (n + 1) * 11 := by rw [List.length_append, List.length_append, List.length_take, hxl, hv, hdl]; omega
  refine ⟨hl1, ?_, ?_⟩
  · rw [hF2, List.length_append, hl3, List.length_drop, hdl, hc]; omega
  · rw [hF2, ← hl3, List.take_left]
theorem add_lit2 (b o j : Nat) : (⟨b, o, none⟩ : Addr).add j = ⟨b, o + j, none⟩ := by
  unfold Addr.add; split
  · next h0 => rw [h0]; rfl
  · rfl
theorem Insert_shift {c : Cod Bkg} (hgc : Good c) {w : World} {base g n cap i m vb q : Nat} {l : List Bkg} {xs : List Value} {b : Bkg} {vc : List Value} (hm : m = 1) (h : Own c 11 37 w base (.slice (some ⟨g, 0, none⟩) n cap) l xs) (hi : i < n) (hroom : n + m ≤ cap) (hn : n ≤ 1000)
    (hV : Blk w vb vc.toArray 37) (hvl : vc.length = 11) (hbc : c w (Beside base (.slice (some ⟨g, 0, none⟩) n cap)) b vc) (hvb : vb ≠ g) :
    Calls Tryz.prog 230 #[.slice (some ⟨g, 0, none⟩) n cap, .int .i64 (i : Int), .slice (some ⟨vb, 0, none⟩) m q] w fun e w' => ∃ xs', e = .returned (.slice (some ⟨g, 0, none⟩) (n + m) cap) ∧ Own c 11 37 w' base (.slice (some ⟨g, 0, none⟩) (n + m) cap) (l.take i ++ b :: l.drop i) xs' ∧ Kept (fun k => k = g) w w' := by
  have hz1 : ¬ ((m : Int) = 0) := by omega
  have hz2 : ¬ ((i : Int) = (n : Int)) := by omega
  have hgl := h.lt
  obtain ⟨cur, hcur, hcs, htk, hnc, hcm, hbg, hln⟩ : ∃ cur : Array Value, Blk w g cur 37 ∧ cur.size = cap * 11 ∧ cur.toList.take (l.length * 11) = xs ∧ n ≤ cap ∧ cap ≤ maxLen ∧ base ≤ g ∧ n = l.length := by
    rcases h.row.2 with ⟨hv, _⟩ | ⟨g', cap', cur, hv, hb, hgg, hnc, hcm, hcs, htake⟩
    · cases hv
    · simp only [Value.slice.injEq, Option.some.injEq, Addr.mk.injEq, and_true] at hv
      obtain ⟨rfl, rfl, rfl⟩ := hv
      exact ⟨cur, hgg, hcs, htake, hnc, hcm, hb, rfl⟩
  have hov : ∀ lb cb, (callFunc 254 #[.slice (some ⟨vb, 0, none⟩) m q, .slice (some ⟨g, (i + m) * 11, none⟩) lb cb]).run Tryz.prog w = .ok (.value (.bool false)) w := fun lb cb => by
    rw [run_callFunc_extern Tryz.func254 (by kernel_rfl) (by kernel_rfl) (by kernel_rfl) (e := Extern.SlicesOverlaps.overlaps #[30, 30] #[4]) (by kernel_rfl),
      Lib.run_overlaps_apart w 30 4 37 Tryz.underlying30 11 (fun W => by obtain ⟨i, hi, hs, _⟩ := bok_info; simp [sizeOf, typeInfo, hi, hs]) ⟨vb, 0, none⟩ ⟨g, (i + m) * 11, none⟩ m q lb cb hvb 37 37 11 cur.size
        (by have h9 : w.heap[vb]? = some (.cells vc.toArray 37 (0, 0)) := hV; simp [World.shape?, h9, hvl]) (by have h9 : w.heap[g]? = some (.cells cur 37 (0, 0)) := hcur; simp [World.shape?, h9]) (by rw [hcs]; omega) (hV.free 0) (hV.free 11)]
    rfl
  have hw1 : IntKind.i64.wrap ((i : Int) + (m : Int)) = (i : Int) + (m : Int) := by rw [IntKind.wrap_i64]; omega
  have hb1 : (0 : Int) ≤ (i : Int) + (m : Int) := by omega
  have hin : i ≤ n := by omega
  have htn : ((i : Int) + (m : Int)).toNat = i + m := by omega
  have hb2 : ¬ (cap = i + m) := by omega
  have hb3 : (i : Int) ≤ (n : Int) + (m : Int) := by omega
  have hb4 : ¬ (cap = i) := by omega
  have hmax : cap ≤ 9223372036854775807 := by unfold maxLen at hcm; omega
  subst hln
  have hxs : cur.toList.take (l.length * 11) = xs := htk
  have hcl : cur.toList.length = cap * 11 := by rw [Array.length_toList, hcs]
  have hxl : xs.length = l.length * 11 := by rw [← hxs, List.length_take]; omega
  obtain ⟨C1, hC1⟩ : ∃ C, C = cur.toList.take ((i + 1) * 11) ++ xs.drop (i * 11) ++ cur.toList.drop ((i + 1) * 11 + (xs.drop (i * 11)).length) := ⟨_, rfl⟩
  obtain ⟨F, hF⟩ : ∃ F, F = C1.take (i * 11) ++ vc ++ C1.drop (i * 11 + vc.length) := ⟨_, rfl⟩
  obtain ⟨hl1, hl2, htF⟩ := shift_cells hcl hxs hi (by omega) hvl hC1 hF
  have hdl : (xs.drop (i * 11)).length = (l.length - i) * 11 := by rw [List.length_drop, hxl]; omega
  have hx1 : ∀ u ∈ xs, u.oneCell' = true := fun u hu => by
    obtain ⟨j, hj⟩ := List.getElem?_of_mem hu
    have hjl : j < l.length * 11 := by have := (List.getElem?_eq_some_iff.1 hj).1; omega
    obtain ⟨cs, hc, hl, hcell⟩ := h.el (j / 11) l[j / 11] (List.getElem?_eq_getElem (by omega))
    have := hcell (j % 11) (cs[j % 11]'(by omega)) (List.getElem?_eq_getElem (by omega))
    rw [show j / 11 * 11 + j % 11 = j by omega, hj] at this
    injection this with this
    rw [this]
    exact hgc.one hc _ (List.getElem_mem _)
  have hv1 : ∀ u ∈ vc, u.oneCell' = true := fun u hu => hgc.one hbc _ hu
  have hcd : Blk w.drew g cur 37 := hcur
  have hcp1 : ∀ ty dc sc, (Builtin.copy_ #[30, 30] ty #[.slice (some ⟨g, (i + m) * 11, none⟩) (l.length + m - (i + m)) dc, .slice (some ⟨g, i * 11, none⟩) (l.length + m - i) sc]).run Tryz.prog w.drew = .ok (goInt ((l.length - i : Nat))) (w.drew.setRow g C1.toArray) := fun ty dc sc => by
    have hk : l.length - i = Nat.min (l.length + m - i) (l.length + m - (i + m)) := by simp only [Nat.min_def]; split <;> omega
    have := run_copy_bok hcd ty ((i + m) * 11) (l.length + m - (i + m)) dc ⟨g, i * 11, none⟩ (l.length + m - i) sc (l.length - i) (xs.drop (i * 11)) hk hdl (fun j v hj => by
      rw [add_lit2]
      refine hcd.cell ?_
      rw [List.getElem?_drop, ← hxs, List.getElem?_take] at hj
      by_cases hjj : i * 11 + j < l.length * 11
      · rw [if_pos hjj, Array.getElem?_toList] at hj; exact hj
      · rw [if_neg hjj] at hj; cases hj) (by rw [hdl, hcs]; omega) (fun u hu => hx1 u (List.mem_of_mem_drop hu))
    rw [hm] at this ⊢
    rw [hC1]
    exact this
  have hC1b : Blk (w.drew.setRow g C1.toArray) g C1.toArray 37 := hcd.row _
  have hVb : Blk (w.drew.setRow g C1.toArray) vb vc.toArray 37 := Blk.rowOther (show Blk w.drew vb vc.toArray 37 from hV) hvb _
  have hcp2 : ∀ ty dc, (Builtin.copy_ #[30, 30] ty #[.slice (some ⟨g, i * 11, none⟩) (l.length + m - i) dc, .slice (some ⟨vb, 0, none⟩) m q]).run Tryz.prog (w.drew.setRow g C1.toArray) = .ok (goInt (1 : Nat)) ((w.drew.setRow g C1.toArray).setRow g F.toArray) := fun ty dc => by
    have hk : 1 = Nat.min m (l.length + m - i) := by simp only [Nat.min_def]; split <;> omega
    have := run_copy_bok hC1b ty (i * 11) (l.length + m - i) dc ⟨vb, 0, none⟩ m q 1 vc hk hvl (fun j v hj => by
      rw [add_lit2, Nat.zero_add]
      exact hVb.cell (by simpa using hj)) (by rw [hvl]; simp only [List.size_toArray, hl1]; omega) hv1
    rw [hF]
    exact this
  have HFIN := Lib.hid (show ∃ xs', Own c 11 37 ((w.drew.setRow g C1.toArray).setRow g F.toArray) base (.slice (some ⟨g, 0, none⟩) (l.length + m) cap) (l.take i ++ b :: l.drop i) xs' ∧ Kept (fun k => k = g) w ((w.drew.setRow g C1.toArray).setRow g F.toArray) from by
    have hK : Kept (fun k => k = g) w ((w.drew.setRow g C1.toArray).setRow g F.toArray) := ((Kept.refl (fun k => k = g) w).drew.setRow (.inl rfl) _).setRow (.inl rfl) _
    have hmv : ∀ (x : Bkg) (cs : List Value), c w (Beside base (.slice (some ⟨g, 0, none⟩) l.length cap)) x cs → c ((w.drew.setRow g C1.toArray).setRow g F.toArray) (Beside base (.slice (some ⟨g, 0, none⟩) (l.length + m) cap)) x cs := fun x cs hc =>
      hgc.keep hc fun k hk hlt => ⟨hK.block k hlt (fun e => hk.2 (by rw [e]; rfl)), hk.1, fun e => hk.2 e⟩
    refine ⟨_, h.insert (Nat.le_of_lt hi) hvl (hmv _ _ hbc) hmv ?_, hK⟩
    refine ⟨by rw [← htF, List.length_take]; omega, .inr ⟨g, cap, F.toArray, by rw [hm], hbg, hC1b.row _, by omega, hcm, by simpa using hl2, by rw [← htF]⟩⟩)
  clear hbc htk hcs hxs hcl hxl hC1 hF hl1 hl2 htF hdl hx1 hv1 hcd hC1b hVb h hgl hcur
  have HM := Lib.hid hm
  clear hm
  go_enter Tryz.func230, Tryz.ntmps230
  go_wp2_with (simp only [hov])
  go_region_law (refine step_copy_runI rfl _ _ 30 30 rfl _ _ (by simp [Act.eval, Act.put]) (by simp [Act.eval, Act.put]) (hcp1 _ _ _) ?_)
  all_goals
    go_wp2_with (at_builtin; refine wpList_copy_runI _ rfl _ _ 30 30 rfl _ _ rfl rfl (hcp2 _ _) ?_)
    go_ret
    obtain ⟨xs', h1, h2⟩ := HFIN.out
    exact ⟨xs', rfl, h1, h2⟩
theorem grow_cells {row xs vc : List Value} {i n G : Nat} (hc : row.length = G * 11) (htk : row.take (i * 11) = xs.take (i * 11)) (hxl : xs.length = n * 11) (hin : i < n) (hnc : n + 1 ≤ G) (hv : vc.length = 11) {R1 R2 : List Value}
    (h1 : R1 = row.take (i * 11) ++ vc ++ row.drop (i * 11 + vc.length)) (h2 : R2 = R1.take ((i + 1) * 11) ++ xs.drop (i * 11) ++ R1.drop ((i + 1) * 11 + (xs.drop (i * 11)).length)) :
    R1.length = G * 11 ∧ R2.length = G * 11 ∧ R2.take ((n + 1) * 11) = xs.take (i * 11) ++ vc ++ xs.drop (i * 11) := by
  have hdl : (xs.drop (i * 11)).length = (n - i) * 11 := by rw [List.length_drop, hxl]; omega
  have htl : (xs.take (i * 11)).length = i * 11 := by rw [List.length_take]; omega
  have hl1 : R1.length = G * 11 := by rw [h1, List.length_append, List.length_append, htk, htl, hv, List.length_drop]; omega
  have hP : R1.take ((i + 1) * 11) = xs.take (i * 11) ++ vc := by
    have hl : (xs.take (i * 11) ++ vc).length = (i + 1) * 11 := by rw [List.length_append, htl, hv]; omega
    rw [h1, htk, ← hl, List.take_left]
  have hR : R2 = (xs.take (i * 11) ++ vc ++ xs.drop (i * 11)) ++ R1.drop ((i + 1) * 11 + (xs.drop (i * 11)).length) := by rw [h2, hP]
  have hl3 : (xs.take (i * 11) ++ vc ++ xs.drop (i * 11)).length = (n + 1) * 11 := by rw [List.length_append, List.length_append, htl, hv, hdl]; omega
  refine ⟨hl1, ?_, ?_⟩
  · rw [hR, List.length_append, hl3, List.length_drop, hdl, hl1]; omega
  · rw [hR, ← hl3, List.take_left]
set_option maxRecDepth 100000 in
set_option maxHeartbeats 4000000 in
theorem Insert_grow {c : Cod Bkg} (hgc : Good c) {w : World} {base g n cap i m vb q : Nat} {l : List Bkg} {xs : List Value} {b : Bkg} {vc : List Value} (hm : m = 1) (h : Own c 11 37 w base (.slice (some ⟨g, 0, none⟩) n cap) l xs) (hi : i < n) (hroom : cap < n + m) (hn : n ≤ 1000) (hbw : base ≤ w.heap.size)
    (hV : Blk w vb vc.toArray 37) (hvl : vc.length = 11) (hbc : c w (Beside base (.slice (some ⟨g, 0, none⟩) n cap)) b vc) :
    Calls Tryz.prog 230 #[.slice (some ⟨g, 0, none⟩) n cap, .int .i64 (i : Int), .slice (some ⟨vb, 0, none⟩) m q] w fun e w' => ∃ N G xs', e = .returned (.slice (some ⟨N, 0, none⟩) (n + m) G) ∧ Own c 11 37 w' base (.slice (some ⟨N, 0, none⟩) (n + m) G) (l.take i ++ b :: l.drop i) xs' ∧ Kept (fun k => k = g) w w' := by
  have hz1 : ¬ ((m : Int) = 0) := by omega
  have hz2 : ¬ ((i : Int) = (n : Int)) := by omega
  have hz3 : (cap : Int) < (n : Int) + (m : Int) := by omega
  obtain ⟨cur, hcur, hcs, htk, hnc, hcm, hbg, hln⟩ : ∃ cur : Array Value, Blk w g cur 37 ∧ cur.size = cap * 11 ∧ cur.toList.take (l.length * 11) = xs ∧ n ≤ cap ∧ cap ≤ maxLen ∧ base ≤ g ∧ n = l.length := by
    rcases h.row.2 with ⟨hv, _⟩ | ⟨g', cap', cur, hv, hb, hgg, hnc, hcm, hcs, htake⟩
    · cases hv
    · simp only [Value.slice.injEq, Option.some.injEq, Addr.mk.injEq, and_true] at hv
      obtain ⟨rfl, rfl, rfl⟩ := hv
      exact ⟨cur, hgg, hcs, htake, hnc, hcm, hb, rfl⟩
  subst hln
  have hxs : cur.toList.take (l.length * 11) = xs := htk
  have hcl : cur.toList.length = cap * 11 := by rw [Array.length_toList, hcs]
  have hxl : xs.length = l.length * 11 := by rw [← hxs, List.length_take, hcl]; omega
  have hx1 : ∀ u ∈ xs, u.oneCell' = true := fun u hu => by
    obtain ⟨j, hj⟩ := List.getElem?_of_mem hu
    have hjl : j < l.length * 11 := by have := (List.getElem?_eq_some_iff.1 hj).1; omega
    obtain ⟨cs, hc, hl, hcell⟩ := h.el (j / 11) l[j / 11] (List.getElem?_eq_getElem (by omega))
    have := hcell (j % 11) (cs[j % 11]'(by omega)) (List.getElem?_eq_getElem (by omega))
    rw [show j / 11 * 11 + j % 11 = j by omega, hj] at this
    injection this with this
    rw [this]
    exact hgc.one hc _ (List.getElem_mem _)
  have hv1 : ∀ u ∈ vc, u.oneCell' = true := fun u hu => hgc.one hbc _ hu
  have hxc : ∀ (X : World), X.heap[g]? = w.heap[g]? → ∀ j v, xs[j]? = some v → X.cell? ⟨g, j, none⟩ = some v := fun X hX j v hj => by
    have hcX : Blk X g cur 37 := hX.trans hcur
    refine hcX.cell ?_
    rw [← hxs, List.getElem?_take] at hj
    by_cases hjj : j < l.length * 11
    · rw [if_pos hjj, Array.getElem?_toList] at hj; exact hj
    · rw [if_neg hjj] at hj; cases hj
  obtain ⟨i0, hi0, hzs, hzb, hz0⟩ := bok_info
  obtain ⟨z, hz⟩ : ∃ z : Value, z = .agg #[.int .i64 0, .int .i64 0, .int .i64 0, .int .i64 0, .bool false, .int .i64 0, .int .i64 0, .int .i64 0, .int .i64 0, .int .i64 0, .slice none 0 0] := ⟨_, rfl⟩
  rw [← hz] at hz0
  have hzc : ∀ k, (Builtin.zeroCells z.cells k).size = k * 11 := fun k => by rw [hz]; simp [Builtin.zeroCells, Value.cells]
  have hik : i + (l.length + m - i) = l.length + m := by omega
  have hkk : (l.length : Int) + (m : Int) - (i : Int) = ((l.length + m - i : Nat) : Int) := by omega
  have hold : (Builtin.firstCells i0.size i (.slice (some ⟨g, 0, none⟩) i cap)).run Tryz.prog w.drew = .ok (xs.take (i * 11)).toArray w.drew := by
    rw [hzs]
    exact run_firstCells_some w.drew 11 i ⟨g, 0, none⟩ i cap (xs.take (i * 11)) (by rw [List.length_take]; omega) (fun j v hj => by
      rw [add_lit2, Nat.zero_add]
      rw [List.getElem?_take] at hj
      split at hj
      · exact hxc _ rfl j v hj
      · cases hj)
  obtain ⟨G, hG⟩ : ∃ G, G = grownCap w (l.length + m) cap 37 := ⟨_, rfl⟩
  obtain ⟨ROW, hROW⟩ : ∃ ROW : Array Value, ROW = (xs.take (i * 11)).toArray ++ Builtin.zeroCells z.cells (l.length + m - i) ++ Builtin.zeroCells z.cells (G - (l.length + m)) := ⟨_, rfl⟩
  have hrz : ∀ ty, (Builtin.append_ #[30, 3] ty #[.slice (some ⟨g, 0, none⟩) i cap, .int .i64 ((l.length : Int) + (m : Int) - (i : Int))]).run Tryz.prog w =
      .ok (.slice (some ⟨w.heap.size, 0, none⟩) (l.length + m) G) (w.drew.alloc (.cells ROW 37)) := fun ty => by
    have h := Lib.run_append_grow_zeros w 30 3 ty 37 i0 z .i64 .i64 Tryz.underlying30 Tryz.underlying3 hi0 hz0 (some ⟨g, 0, none⟩) i cap (xs.take (i * 11)) hold (l.length + m - i) (by omega) (by omega) (by omega) (by omega) (by rw [hzb]; omega) (by rw [hzb, hik]; exact growslice_fits hroom (by omega))
    rw [hik, ← hG] at h
    rw [hkk, hROW]
    exact h
  have hGn : l.length + m ≤ G := by rw [hG]; exact grownCap_ge w _ _ _
  have hGm : G ≤ maxLen := by rw [hG]; exact grownCap_le_maxLen w _ _ _ (by unfold maxLen; omega)
  have hRl : ROW.toList.length = G * 11 := by
    rw [hROW]
    simp only [Array.toList_append, List.length_append, List.length_take, Array.length_toList, hzc, hxl]
    omega
  have hRt : ROW.toList.take (i * 11) = xs.take (i * 11) := by
    have ht : (xs.take (i * 11)).length = i * 11 := by rw [List.length_take]; omega
    rw [hROW]
    simp only [Array.toList_append, List.append_assoc]
    rw [List.take_append_of_le_length (by omega), List.take_take, Nat.min_self]
  obtain ⟨R1, hR1⟩ : ∃ R, R = ROW.toList.take (i * 11) ++ vc ++ ROW.toList.drop (i * 11 + vc.length) := ⟨_, rfl⟩
  obtain ⟨R2, hR2⟩ : ∃ R, R = R1.take ((i + 1) * 11) ++ xs.drop (i * 11) ++ R1.drop ((i + 1) * 11 + (xs.drop (i * 11)).length) := ⟨_, rfl⟩
  obtain ⟨hl1, hl2, htF⟩ := grow_cells hRl hRt hxl hi (by omega) hvl hR1 hR2
  have hdl : (xs.drop (i * 11)).length = (l.length - i) * 11 := by rw [List.length_drop, hxl]; omega
  obtain ⟨N, hN⟩ : ∃ N, N = w.heap.size := ⟨_, rfl⟩
  rw [← hN] at hrz
  have hgN : g ≠ N := by have := hcur.lt; omega
  have hvN : vb ≠ N := by have := hV.lt; omega
  obtain ⟨W1, hW1⟩ : ∃ W1, W1 = w.drew.alloc (.cells ROW 37) := ⟨_, rfl⟩
  rw [← hW1] at hrz
  have hB1 : Below w.heap.size w W1 := by rw [hW1]; exact (Below.refl _ w).drew.alloc (Nat.le_refl _) _
  have hRB : Blk W1 N ROW 37 := by rw [hW1, hN]; exact Blk.new w.drew ROW _
  have hcpA : ∀ ty dc, (Builtin.copy_ #[30, 30] ty #[.slice (some ⟨N, i * 11, none⟩) (l.length + m - i) dc, .slice (some ⟨vb, 0, none⟩) m q]).run Tryz.prog W1 = .ok (goInt (1 : Nat)) (W1.setRow N R1.toArray) := fun ty dc => by
    have hk : 1 = Nat.min m (l.length + m - i) := by simp only [Nat.min_def]; split <;> omega
    have := run_copy_bok hRB ty (i * 11) (l.length + m - i) dc ⟨vb, 0, none⟩ m q 1 vc hk hvl (fun j v hj => by
      rw [add_lit2, Nat.zero_add]
      exact (hV.bel hB1).cell (by simpa using hj)) (by rw [hvl, ← Array.length_toList, hRl]; omega) hv1
    rw [hR1]
    exact this
  have hRB1 : Blk (W1.setRow N R1.toArray).drew N R1.toArray 37 := hRB.row _
  have hcpB : ∀ ty dc sc, (Builtin.copy_ #[30, 30] ty #[.slice (some ⟨N, (i + m) * 11, none⟩) (l.length + m - (i + m)) dc, .slice (some ⟨g, i * 11, none⟩) (l.length - i) sc]).run Tryz.prog (W1.setRow N R1.toArray).drew = .ok (goInt ((l.length - i : Nat))) ((W1.setRow N R1.toArray).drew.setRow N R2.toArray) := fun ty dc sc => by
    have hk : l.length - i = Nat.min (l.length - i) (l.length + m - (i + m)) := by simp only [Nat.min_def]; split <;> omega
    have := run_copy_bok hRB1 ty ((i + m) * 11) (l.length + m - (i + m)) dc ⟨g, i * 11, none⟩ (l.length - i) sc (l.length - i) (xs.drop (i * 11)) hk hdl (fun j v hj => by
      rw [add_lit2]
      refine hxc _ ?_ _ _ (by rwa [List.getElem?_drop] at hj)
      show (W1.setRow N R1.toArray).heap[g]? = _
      rw [setRow_other _ _ _ _ hgN]
      exact hB1.block g hcur.lt) (by rw [hdl]; simp only [List.size_toArray, hl1]; omega) (fun u hu => hx1 u (List.mem_of_mem_drop hu))
    rw [hm] at this ⊢
    rw [hR2]
    exact this
  have HFIN := Lib.hid (show ∃ xs', Own c 11 37 ((W1.setRow N R1.toArray).drew.setRow N R2.toArray) base (.slice (some ⟨N, 0, none⟩) (l.length + m) G) (l.take i ++ b :: l.drop i) xs' ∧ Kept (fun k => k = g) w ((W1.setRow N R1.toArray).drew.setRow N R2.toArray) from by
    have hK0 : Kept (fun _ => False) w ((W1.setRow N R1.toArray).drew.setRow N R2.toArray) := (((Kept.of_below (S := fun _ => False) hB1 (fun k hk h2 => by omega)).setRow (z := N) (.inr (by omega)) _).drew).setRow (z := N) (.inr (by omega)) _
    have hmv : ∀ (x : Bkg) (cs : List Value), c w (Beside base (.slice (some ⟨g, 0, none⟩) l.length cap)) x cs → c ((W1.setRow N R1.toArray).drew.setRow N R2.toArray) (Beside base (.slice (some ⟨N, 0, none⟩) (l.length + m) G)) x cs := fun x cs hc =>
      hgc.keep hc fun k hk hlt => ⟨hK0.block k hlt (fun h => h), hk.1, fun e => by simp only [Value.ownBlock, Option.some.injEq] at e; omega⟩
    refine ⟨_, h.insert (Nat.le_of_lt hi) hvl (hmv _ _ hbc) hmv ?_, hK0.mono fun _ _ h => h.elim⟩
    refine ⟨by rw [← htF, List.length_take]; omega, .inr ⟨N, G, R2.toArray, by rw [hm], by omega, hRB1.row _, by omega, hGm, by simpa using hl2, by rw [← htF]⟩⟩)
  have hw1 : IntKind.i64.wrap ((i : Int) + (m : Int)) = (i : Int) + (m : Int) := by rw [IntKind.wrap_i64]; omega
  have hb1 : (0 : Int) ≤ (i : Int) + (m : Int) := by omega
  have hin : i ≤ l.length := by omega
  have htn : ((i : Int) + (m : Int)).toNat = i + m := by omega
  have hb3 : (i : Int) ≤ (l.length : Int) := by omega
  have hG63 : G ≤ 9223372036854775807 := by unfold maxLen at hGm; omega
  have hGi : ¬ (G = i) := by omega
  have hGim : ¬ (G = i + m) := by omega
  have hci : ¬ (cap = i) := by omega
  have hicap : (i : Int) ≤ (cap : Int) := by omega
  have hb4 : (i : Int) + (m : Int) ≤ (l.length : Int) + (m : Int) := by omega
  have HM := Lib.hid hm
  have hmax : cap ≤ 9223372036854775807 := by unfold maxLen at hcm; omega
  clear hbc htk hcs hxs hxl hcl hR1 hR2 hl1 hl2 htF hdl hx1 hv1 hRB hRB1 h hcur hm hkk hik hold hROW hG hRl hRt hW1 hN hz hz0 hzc hi0 hzs hzb hxc hB1 hV
  go_enter Tryz.func230, Tryz.ntmps230
  go_wp2_with (first
    | (at_builtin; refine Lib.wpList_append_run _ rfl _ _ _ _ rfl _ _ rfl rfl _ _ (hrz _) ?_)
    | (at_builtin; refine wpList_copy_runI _ rfl _ _ 30 30 rfl _ _ rfl rfl (hcpA _ _) ?_))
  go_region_law (refine step_copy_runI rfl _ _ 30 30 rfl _ _ (by simp [Act.eval, Act.put]) (by simp [Act.eval, Act.put]) (hcpB _ _ _) ?_)
  all_goals
    go_wp2_with fail
    go_ret
    obtain ⟨xs', h1, h2⟩ := HFIN.out
    exact ⟨N, G, xs', rfl, h1, h2⟩
set_option maxRecDepth 100000 in
set_option maxHeartbeats 4000000 in
theorem Insert_end {c : Cod Bkg} (hgc : Good c) {w : World} {base n cap m vb q : Nat} {A : Option Addr} {l : List Bkg} {xs : List Value} {b : Bkg} {vc : List Value} (hm : m = 1) (hq : m ≤ q) (hqm : q ≤ maxLen) (h : Own c 11 37 w base (.slice A n cap) l xs) (hn : n ≤ 1000) (hbw : base ≤ w.heap.size)
    (hV : Blk w vb vc.toArray 37) (hvl : vc.length = 11) (hbc : c w (Beside base (.slice A n cap)) b vc) (hvb : Beside base (.slice A n cap) vb) :
    Calls Tryz.prog 230 #[.slice A n cap, .int .i64 (n : Int), .slice (some ⟨vb, 0, none⟩) m q] w fun e w' => ∃ A' n' c' xs', e = .returned (.slice A' n' c') ∧ Own c 11 37 w' base (.slice A' n' c') (l ++ [b]) xs' ∧ Kept (fun k => (Value.slice A n cap).ownBlock = some k) w w' := by
  have hz1 : ¬ ((m : Int) = 0) := by omega
  have hl1 := h.lt
  have hln : n = l.length := by
    obtain ⟨A', n', c', hv, hs⟩ := h.sl hgc
    simp only [Value.slice.injEq] at hv
    rw [hv.2.1, hs.len]
  have hsl : Sl c 11 w (Beside base (.slice A n cap)) (some ⟨vb, 0, none⟩) m q [b] := by
    refine ⟨hm.symm, hq, hqm, fun i x hx => ?_⟩
    rcases i with _ | i
    · simp at hx; subst hx
      exact ⟨vb, 0, vc, rfl, hvb, hbc, hvl, fun j u hu => by simp only [Nat.zero_mul, Nat.zero_add]; exact hV.cell (by simpa using hu)⟩
    · simp at hx
  have hby : (l.length + m) * 104 ≤ 140737488355328 := by omega
  have hnc : n ≤ cap := by
    rcases h.row.2 with ⟨hv, _⟩ | ⟨g', cap', cur, hv, hb, hgg, hnc, _⟩
    · simp only [Value.slice.injEq] at hv; omega
    · simp only [Value.slice.injEq] at hv; omega
  have hA : A = none ∧ n = 0 ∧ cap = 0 ∨ ∃ g, A = some ⟨g, 0, none⟩ := by
    rcases h.row.2 with ⟨hv, _⟩ | ⟨g', cap', cur, hv, _⟩
    · simp only [Value.slice.injEq] at hv; exact .inl hv
    · simp only [Value.slice.injEq] at hv; exact .inr ⟨g', hv.1⟩
  have HPO := Lib.hid (fun (v' : Value) (w' : World) (xs' : List Value) (hown : Own c 11 37 w' base v' (l ++ [b]) xs') (hg : w.grownBy w' (Value.slice A n cap).ownBlock) =>
    (⟨hown, ⟨hg.os, hg.tape, hg.output, hg.size, fun j hj hnb => hg.block j hj (fun e => hnb e.symm)⟩⟩ : Own c 11 37 w' base v' (l ++ [b]) xs' ∧ Kept (fun k => (Value.slice A n cap).ownBlock = some k) w w'))
  have HO := Lib.hid h
  have HSL := Lib.hid hsl
  have HM := Lib.hid hm
  have HNL := Lib.hid hln
  have hm1 : (m : Int) = 1 := by omega
  clear h hsl hbc hV hvb hm hln hm1
  rcases hA with ⟨rfl, rfl, rfl⟩ | ⟨g, rfl⟩
  · go_enter Tryz.func230, Tryz.ntmps230
    go_wp2_with (at_builtin; refine list_app (t := 30) (e := 37) (bytes := 104) rfl (.tmp 23) (.tmp 24) rfl bok_elem hgc rfl HO.out rfl HSL.out (fun _ _ h => h) hby (by omega) hbw ?_; intro v' w' xs' hown' hg' _; obtain ⟨A8, n8, c8, rfl, _⟩ := hown'.sl hgc; obtain ⟨p1, p2⟩ := HPO.out _ _ _ hown' hg')
    go_ret
    exact ⟨_, _, _, xs', rfl, p1, p2⟩
  · have hn63 : (n : Int) ≤ (n : Int) := Int.le_refl _
    by_cases hcap : cap = n
    · subst hcap
      go_enter Tryz.func230, Tryz.ntmps230
      go_wp2_with (at_builtin; refine list_app (t := 30) (e := 37) (bytes := 104) rfl (.tmp 23) (.tmp 24) rfl bok_elem hgc rfl HO.out rfl HSL.out (fun _ _ h => h) hby (by omega) hbw ?_; intro v' w' xs' hown' hg' _; obtain ⟨A8, n8, c8, rfl, _⟩ := hown'.sl hgc; obtain ⟨p1, p2⟩ := HPO.out _ _ _ hown' hg')
      go_ret
      exact ⟨_, _, _, xs', rfl, p1, p2⟩
    · go_enter Tryz.func230, Tryz.ntmps230
      go_wp2_with (at_builtin; refine list_app (t := 30) (e := 37) (bytes := 104) rfl (.tmp 23) (.tmp 24) rfl bok_elem hgc rfl HO.out rfl HSL.out (fun _ _ h => h) hby (by omega) hbw ?_; intro v' w' xs' hown' hg' _; obtain ⟨A8, n8, c8, rfl, _⟩ := hown'.sl hgc; obtain ⟨p1, p2⟩ := HPO.out _ _ _ hown' hg')
      go_ret
      exact ⟨_, _, _, xs', rfl, p1, p2⟩
theorem Insert_bkg {c : Cod Bkg} (hgc : Good c) {w : World} {base n cap i vb : Nat} {A : Option Addr} {l : List Bkg} {xs : List Value} {b : Bkg} {vc : List Value} (h : Own c 11 37 w base (.slice A n cap) l xs) (hi : i ≤ l.length) (hn : l.length ≤ 1000) (hbw : base ≤ w.heap.size)
    (hV : Blk w vb vc.toArray 37) (hvl : vc.length = 11) (hbc : c w (Beside base (.slice A n cap)) b vc) (hvb : Beside base (.slice A n cap) vb) :
    Calls Tryz.prog 230 #[.slice A n cap, .int .i64 (i : Int), .slice (some ⟨vb, 0, none⟩) 1 1] w fun e w' => ∃ A' n' c' xs', e = .returned (.slice A' n' c') ∧ Own c 11 37 w' base (.slice A' n' c') (l.take i ++ b :: l.drop i) xs' ∧ Kept (fun k => (Value.slice A n cap).ownBlock = some k) w w' := by
  have hln : n = l.length := by
    obtain ⟨A', n', c', hv, hs⟩ := h.sl hgc
    simp only [Value.slice.injEq] at hv
    rw [hv.2.1, hs.len]
  by_cases hlt : i < n
  · obtain ⟨g, c9, hv, hbg, hgl⟩ := h.form (by omega)
    simp only [Value.slice.injEq] at hv
    obtain ⟨rfl, hn9, rfl⟩ := hv
    have hvg : vb ≠ g := fun e => hvb.2 (by rw [e]; rfl)
    by_cases hr : n + 1 ≤ cap
    · refine (Insert_shift hgc rfl h hlt hr (by omega) hV hvl hbc hvg).mono ?_
      rintro e w' ⟨xs', rfl, ho, hk⟩
      exact ⟨_, _, _, xs', rfl, ho, hk.mono fun k _ hk => by rw [hk]; rfl⟩
    · refine (Insert_grow hgc rfl h hlt (by omega) (by omega) hbw hV hvl hbc).mono ?_
      rintro e w' ⟨N, G, xs', rfl, ho, hk⟩
      exact ⟨_, _, _, xs', rfl, ho, hk.mono fun k _ hk => by rw [hk]; rfl⟩
  · obtain rfl : i = n := by omega
    refine (Insert_end hgc rfl (Nat.le_refl _) (by unfold maxLen; omega) h (by omega) hbw hV hvl hbc hvb).mono ?_
    rintro e w' ⟨A', n', c', xs', rfl, ho, hk⟩
    refine ⟨A', n', c', xs', rfl, ?_, hk⟩
    rw [List.take_of_length_le (by omega), List.drop_eq_nil_of_le (by omega)]
    exact ho
end Go.Proofs.YtoilcdgpeilgaaaGreat
namespace Go.Proofs.YtoilcdgpeilgaaaGreat
open Go.RowKit Go.Shelf
def Rise (l : List Bkg) : Prop := ∀ (i j : Nat) (a b : Bkg), i < j → l[i]? = some a → l[j]? = some b → a.id < b.id
theorem rise_of {l : List Bkg} (h : ∀ i, i + 1 < l.length → (l.getD i default).id < (l.getD (i + 1) default).id) : Rise l := by
  have key : ∀ d i : Nat, i + 1 + d < l.length → (l.getD i default).id < (l.getD (i + 1 + d) default).id := by
    intro d
    induction d with
    | zero => exact fun i hi => h i hi
    | succ d ih =>
      intro i hi
      have h1 := ih i (by omega)
      have h2 := h (i + 1 + d) (by omega)
      exact Int.lt_trans h1 h2
  intro i j a b hij ha hb
  have hj := (List.getElem?_eq_some_iff.1 hb).1
  have := key (j - (i + 1)) i (by omega)
  rw [show i + 1 + (j - (i + 1)) = j by omega, List.getD_eq_getElem?_getD, List.getD_eq_getElem?_getD, ha, hb] at this
  exact this
def hasId (l : List Bkg) (t : Int) : Bool := l.any (fun b => decide (b.id = t))
def posI (l : List Bkg) (t : Int) : Nat := l.findIdx (fun b => decide (t ≤ b.id))
def LowTo (l : List Bkg) (t : Int) (i : Nat) : Prop := ∀ (q : Nat) (b : Bkg), q < i → l[q]? = some b → b.id < t
def HighFrom (l : List Bkg) (t : Int) (i : Nat) : Prop := ∀ (q : Nat) (b : Bkg), i ≤ q → l[q]? = some b → t ≤ b.id
theorem pos_of {l : List Bkg} {t : Int} {i : Nat} (hi : i ≤ l.length) (hlo : LowTo l t i) (hhi : HighFrom l t i) : posI l t = i := by
  unfold posI
  rcases Nat.lt_or_ge i l.length with h | h
  · rw [List.findIdx_eq h]
    refine ⟨decide_eq_true (hhi i _ (Nat.le_refl _) (List.getElem?_eq_getElem h)), fun j hj => ?_⟩
    have := hlo j _ hj (List.getElem?_eq_getElem (by omega))
    simp; omega
  · obtain rfl : i = l.length := by omega
    rw [List.findIdx_eq_length]
    intro x hx
    obtain ⟨q, hq⟩ := List.getElem?_of_mem hx
    have := hlo q x (List.getElem?_eq_some_iff.1 hq).1 hq
    simp; omega
theorem has_of {l : List Bkg} {t : Int} {i : Nat} {b : Bkg} (hr : Rise l) (hlo : LowTo l t i) (hhi : HighFrom l t i) (hb : l[i]? = some b) : hasId l t = decide (b.id = t) := by
  unfold hasId
  by_cases h : b.id = t
  · rw [decide_eq_true h]
    exact List.any_eq_true.2 ⟨b, List.mem_of_getElem? hb, decide_eq_true h⟩
  · rw [decide_eq_false h]
    refine List.any_eq_false.2 fun x hx => ?_
    obtain ⟨q, hq⟩ := List.getElem?_of_mem hx
    simp only [decide_eq_true_eq]
    intro he
    rcases Nat.lt_trichotomy q i with h1 | h1 | h1
    · have := hlo q x h1 hq; omega
    · subst h1; rw [hb] at hq; injection hq with hq; subst hq; exact h he
    · have h2 := hr i q b x h1 hb hq
      have h3 := hhi i b (Nat.le_refl _) hb
      omega
theorem has_no {l : List Bkg} {t : Int} (hlo : LowTo l t l.length) : hasId l t = false := by
  unfold hasId
  refine List.any_eq_false.2 fun x hx => ?_
  obtain ⟨q, hq⟩ := List.getElem?_of_mem hx
  have := hlo q x (List.getElem?_eq_some_iff.1 hq).1 hq
  simp; omega
theorem has_far {l : List Bkg} {t : Int} (h : ∀ b ∈ l, b.id ≠ t) : hasId l t = false := by
  unfold hasId
  refine List.any_eq_false.2 fun x hx => ?_
  simpa using h x hx
set_option maxRecDepth 100000 in
theorem placeCmp_any (b : Bkg) (v : Value) (t : Int) (w : World) : Calls Tryz.prog 229 #[.agg (bkgA b v), .int .i64 t] w fun e w' => e = .returned (.int .i64 (wrap64 (b.id - t))) ∧ Below w.heap.size w w' := by
  obtain ⟨id, kind, state, gst, lev, cab, cat, frm, upto, til, fol⟩ := b
  go_enter Tryz.func229, Tryz.ntmps229
  go_wp2_with fail
  go_ret
  exact ⟨rfl, bel1 _ _⟩
def SmallN (t : Int) : Prop := -1000000000 ≤ t ∧ t ≤ 1000000000
set_option maxRecDepth 100000 in
set_option maxHeartbeats 4000000 in
theorem binS_any (C : Option Addr) (n cap : Nat) (l : List Bkg) (t : Int) (w : World) (hl : Sl bkgC 11 w All C n cap l) (hr : Rise l) (hid : ∀ b ∈ l, 1 ≤ b.id ∧ b.id ≤ 999999) (hn : n ≤ 16) (ht : InI t) :
    Calls Tryz.prog 228 #[.slice C n cap, .int .i64 t, .func (.func 229) #[] #[]] w fun e w' => ∃ i : Nat, e = .returned (.tuple #[.int .i64 (i : Int), .bool (hasId l t)]) ∧ i ≤ l.length ∧ (SmallN t → i = posI l t) ∧ Below w.heap.size w w' := by
  have hmx := hl.max
  have HN := Lib.hid hl.len
  have HL := Lib.hid hl
  have HR := Lib.hid hr
  clear hr
  have HID := Lib.hid hid
  clear hid
  have HT := Lib.hid ht
  clear ht
  obtain ⟨q, hq⟩ : ∃ q, q = hasId l t := ⟨_, rfl⟩
  rw [← hq]
  have HQ := Lib.hid hq
  clear hq
  have eg := enters_of Tryz.func229 (by kernel_rfl) rfl
  clear hl
  go_enter Tryz.func228, Tryz.ntmps228
  go_wp2_with fail
  go_loopg [9, 10] n (fun gk vi vj wr => ∃ i j : Nat, i ≤ j ∧ j ≤ n ∧ j - i ≤ gk ∧ vi = .int .i64 i ∧ vj = .int .i64 j ∧ Aside (SmallN t → LowTo l t i ∧ HighFrom l t j) ∧ Below w.heap.size w wr)
  case atStart => exact ⟨0, n, Nat.zero_le _, Nat.le_refl _, by omega, rfl, rfl, fun _ => ⟨fun q b h => absurd h (Nat.not_lt_zero _), fun q b h hq => by have := (List.getElem?_eq_some_iff.1 hq).1; have := HN.out; omega⟩, Below.refl _ _⟩
  case round =>
    obtain ⟨i, j, hij, hjn, hgk, rfl, rfl, HA, hb⟩ := hrel
    by_cases hlt : i < j
    · obtain ⟨k, hk⟩ : ∃ k : Nat, k = (i + j) / 2 := ⟨_, rfl⟩
      have hki : i ≤ k := by omega
      have hkj : k < j := by omega
      have HK := Lib.hid hk
      have hw1 : IntKind.i64.wrap ((i : Int) + j) = (i : Int) + j := IntWalk.i64_in _ (by omega)
      go_upto_region 4 with (fail)
      go_cut [11] (fun v wx => v = .int .i64 (k : Int) ∧ wr = wx)
      case first => as_aux_lemma =>
        clear hk
        go_wp2_with fail
        go_meet
        exact ⟨by congr 1; rw [HK.out]; omega, rfl⟩
      obtain ⟨rfl, rfl⟩ := hcut
      have hkn : k < n := by omega
      obtain ⟨ab, off, ⟨id, kind, state, gst, lev, cab, cat, frm, upto, til, fol⟩, A3, n3, c3, hA, hx, hF, hI, hcel⟩ := (HL.out.bel hb).bkg hkn
      subst hA
      have y0 : wr.cell? ⟨ab, off + k * 11, none⟩ = some (.int .i64 id) := hcel 0 _ rfl
      have y1 : wr.cell? ⟨ab, off + k * 11 + 1, none⟩ = some (.int .i64 kind) := hcel 1 _ rfl
      have y2 : wr.cell? ⟨ab, off + k * 11 + 2, none⟩ = some (.int .i64 state) := hcel 2 _ rfl
      have y3 : wr.cell? ⟨ab, off + k * 11 + 3, none⟩ = some (.int .i64 gst) := hcel 3 _ rfl
      have y4 : wr.cell? ⟨ab, off + k * 11 + 4, none⟩ = some (.bool lev) := hcel 4 _ rfl
      have y5 : wr.cell? ⟨ab, off + k * 11 + 5, none⟩ = some (.int .i64 cab) := hcel 5 _ rfl
      have y6 : wr.cell? ⟨ab, off + k * 11 + 6, none⟩ = some (.int .i64 cat) := hcel 6 _ rfl
      have y7 : wr.cell? ⟨ab, off + k * 11 + 7, none⟩ = some (.int .i64 frm) := hcel 7 _ rfl
      have y8 : wr.cell? ⟨ab, off + k * 11 + 8, none⟩ = some (.int .i64 upto) := hcel 8 _ rfl
      have y9 : wr.cell? ⟨ab, off + k * 11 + 9, none⟩ = some (.int .i64 til) := hcel 9 _ rfl
      have y10 : wr.cell? ⟨ab, off + k * 11 + 10, none⟩ = some (.slice A3 n3 c3) := hcel 10 _ rfl
      have hk0 : (0 : Int) ≤ (k : Int) := Int.natCast_nonneg _
      have hk1 : (k : Int) < (n : Int) := by omega
      have HIB := Lib.hid (HID.out _ (List.mem_of_getElem? hx))
      have HCALL := Lib.hid (fun W => placeCmp_any ⟨id, kind, state, gst, lev, cab, cat, frm, upto, til, fol⟩ (.slice A3 n3 c3) t W)
      obtain ⟨z, hz⟩ : ∃ z, z = wrap64 (id - t) := ⟨_, rfl⟩
      have HZ := Lib.hid (show SmallN t → z = id - t from fun hs => by
        have h1 := HIB.out
        have h2 := hs.1
        have h3 := hs.2
        simp only at h1
        rw [hz]
        exact IntWalk.wrap64_in _ (by omega))
      simp only at HCALL
      rw [← hz] at HCALL
      have HX := Lib.hid hx
      clear hx
      clear hcel hF hI hz hk
      go_wp2_with fail
      refine (HCALL.out _).mono ?_
      rintro e w1 ⟨rfl, hb1⟩
      replace hb := hb.trans (hb1.mono hb.size)
      clear hb1 y0 y1 y2 y3 y4 y5 y6 y7 y8 y9 y10
      by_cases hz0 : z < 0
      · have HA2 := Lib.hid (show SmallN t → LowTo l t (k + 1) ∧ HighFrom l t j from fun hs => by
          obtain ⟨h1, h2⟩ := HA hs
          refine ⟨fun q b hq hb' => ?_, h2⟩
          have h3 := HZ.out hs
          rcases Nat.lt_or_ge q k with h4 | h4
          · have h5 := HR.out q k b _ h4 hb' HX.out
            simp only at h5
            omega
          · obtain rfl : q = k := by omega
            rw [HX.out] at hb'
            injection hb' with hb'
            subst hb'
            simp only
            omega)
        go_wp2_with fail
        go_roundg (j - (k + 1))
        case measure => omega
        case rel => exact ⟨k + 1, j, by omega, hjn, by omega, by go_num, rfl, HA2.out, hb⟩
      · have HA2 := Lib.hid (show SmallN t → LowTo l t i ∧ HighFrom l t k from fun hs => by
          obtain ⟨h1, h2⟩ := HA hs
          refine ⟨h1, fun q b hq hb' => ?_⟩
          have h3 := HZ.out hs
          rcases Nat.lt_or_ge k q with h4 | h4
          · have h5 := HR.out k q _ b h4 HX.out hb'
            simp only at h5
            omega
          · obtain rfl : q = k := by omega
            rw [HX.out] at hb'
            injection hb' with hb'
            subst hb'
            simp only
            omega)
        go_wp2_with fail
        go_roundg (k - i)
        case measure => omega
        case rel => exact ⟨i, k, by omega, by omega, by omega, rfl, rfl, HA2.out, hb⟩
    · obtain rfl : i = j := by omega
      have HPOS := Lib.hid (show SmallN t → i = posI l t from fun hs => (pos_of (by rw [HN.out]; exact hjn) (HA hs).1 (HA hs).2).symm)
      have HFAR := Lib.hid (show ¬ SmallN t → q = false from fun hs => by
        rw [HQ.out]
        refine has_far fun b hb' he => hs ?_
        have := HID.out b hb'
        exact ⟨by omega, by omega⟩)
      by_cases hin : i < n
      · obtain ⟨ab, off, ⟨id, kind, state, gst, lev, cab, cat, frm, upto, til, fol⟩, A3, n3, c3, hA, hx, hF, hI, hcel⟩ := (HL.out.bel hb).bkg hin
        subst hA
        have y0 : wr.cell? ⟨ab, off + i * 11, none⟩ = some (.int .i64 id) := hcel 0 _ rfl
        have y1 : wr.cell? ⟨ab, off + i * 11 + 1, none⟩ = some (.int .i64 kind) := hcel 1 _ rfl
        have y2 : wr.cell? ⟨ab, off + i * 11 + 2, none⟩ = some (.int .i64 state) := hcel 2 _ rfl
        have y3 : wr.cell? ⟨ab, off + i * 11 + 3, none⟩ = some (.int .i64 gst) := hcel 3 _ rfl
        have y4 : wr.cell? ⟨ab, off + i * 11 + 4, none⟩ = some (.bool lev) := hcel 4 _ rfl
        have y5 : wr.cell? ⟨ab, off + i * 11 + 5, none⟩ = some (.int .i64 cab) := hcel 5 _ rfl
        have y6 : wr.cell? ⟨ab, off + i * 11 + 6, none⟩ = some (.int .i64 cat) := hcel 6 _ rfl
        have y7 : wr.cell? ⟨ab, off + i * 11 + 7, none⟩ = some (.int .i64 frm) := hcel 7 _ rfl
        have y8 : wr.cell? ⟨ab, off + i * 11 + 8, none⟩ = some (.int .i64 upto) := hcel 8 _ rfl
        have y9 : wr.cell? ⟨ab, off + i * 11 + 9, none⟩ = some (.int .i64 til) := hcel 9 _ rfl
        have y10 : wr.cell? ⟨ab, off + i * 11 + 10, none⟩ = some (.slice A3 n3 c3) := hcel 10 _ rfl
        have hk0 : (0 : Int) ≤ (i : Int) := Int.natCast_nonneg _
        have hk1 : (i : Int) < (n : Int) := by omega
        have HCALL := Lib.hid (fun W => placeCmp_any ⟨id, kind, state, gst, lev, cab, cat, frm, upto, til, fol⟩ (.slice A3 n3 c3) t W)
        obtain ⟨z, hz⟩ : ∃ z, z = wrap64 (id - t) := ⟨_, rfl⟩
        have hie := hI.id
        have htt := HT.out
        have HZ := Lib.hid (show z = 0 ↔ id = t from by
          rw [hz]
          simp only at hie
          unfold InI at hie htt
          constructor
          · intro h0
            unfold wrap64 at h0
            omega
          · intro h0
            subst h0
            rw [Int.sub_self]
            exact IntWalk.wrap64_in _ (by omega))
        simp only at HCALL
        rw [← hz] at HCALL
        have HQZ := Lib.hid (show q = decide (z = 0) from by
          by_cases hs : SmallN t
          · rw [HQ.out, has_of HR.out (HA hs).1 (HA hs).2 hx]
            simp only
            exact decide_eq_decide.2 HZ.out.symm
          · rw [HFAR.out hs, eq_comm, decide_eq_false_iff_not]
            intro h0
            refine hs ?_
            have h1 := HZ.out.1 h0
            have h2 := HID.out _ (List.mem_of_getElem? hx)
            simp only at h2
            exact ⟨by omega, by omega⟩)
        clear hcel hF hI hz hie htt hx
        go_wp2_with fail
        refine (HCALL.out _).mono ?_
        rintro e w1 ⟨rfl, hb1⟩
        replace hb := hb.trans (hb1.mono hb.size)
        clear hb1 y0 y1 y2 y3 y4 y5 y6 y7 y8 y9 y10
        by_cases hz0 : z = 0
        · obtain rfl : q = true := by rw [HQZ.out, decide_eq_true hz0]
          subst hz0
          go_wp2_with fail
          go_ret2
          exact ⟨i, rfl, by have := HN.out; omega, HPOS.out, hb⟩
        · obtain rfl : q = false := by rw [HQZ.out, decide_eq_false hz0]
          have h0' : (z == 0) = false := by simpa using hz0
          clear hz0
          go_wp2_with fail
          go_ret2
          exact ⟨i, rfl, by have := HN.out; omega, HPOS.out, hb⟩
      · obtain rfl : i = n := by omega
        obtain rfl : q = false := by
          by_cases hs : SmallN t
          · rw [HQ.out]; exact has_no (by rw [HN.out]; exact (HA hs).1)
          · exact HFAR.out hs
        go_wp2_with fail
        go_ret2
        exact ⟨i, rfl, by have := HN.out; omega, HPOS.out, hb⟩
set_option maxRecDepth 100000 in
set_option maxHeartbeats 4000000 in
theorem Place_any (x : Sai) (p : SaiV) (t : Int) (w : World) (hl : Sl bkgC 11 w All p.C p.nb p.cb x.bks) (hr : Rise x.bks) (hid : ∀ b ∈ x.bks, 1 ≤ b.id ∧ b.id ≤ 999999) (hn : x.bks.length ≤ 16) (ht : InI t) :
    Calls Tryz.prog 164 #[.agg (saiA x p), .int .i64 t] w fun e w' => ∃ i : Nat, e = .returned (.tuple #[.int .i64 (i : Int), .bool (hasId x.bks t)]) ∧ i ≤ x.bks.length ∧ (SmallN t → i = posI x.bks t) ∧ Below w.heap.size w w' := by
  obtain ⟨A, n, cap, B, m, cap2, D, nd, cd, E, ne, ce, C, nb, cb⟩ := p
  simp only at hl
  have hnb : nb ≤ 16 := by rw [← hl.len]; exact hn
  have HBS := Lib.hid (fun W h => binS_any C nb cb x.bks t W h hr hid hnb ht)
  have HL := Lib.hid hl
  clear hl hr hid hn
  go_enter Tryz.func164, Tryz.ntmps164
  go_upto_region 0 with (fail)
  go_cut [2, 4, 5] (fun q _ _ wx => ∃ g, q = .pointer (some ⟨g, 0, none⟩) ∧ Blk wx g (saiA x ⟨A, n, cap, B, m, cap2, D, nd, cd, E, ne, ce, C, nb, cb⟩) 32 ∧ Below w.heap.size w wx)
  case first => as_aux_lemma =>
    go_wp2_with fail
    go_meet
    exact ⟨_, rfl, blk1 _ _, bel1 _ _⟩
  obtain ⟨g, rfl, hG, hbw⟩ := hcut
  have s11 : wc.cell? ⟨g, 11, none⟩ = some (.slice C nb cb) := hG.cell rfl
  have HCALL := Lib.hid (HBS.out wc (HL.out.bel hbw))
  clear hG
  go_wp2_with fail
  refine HCALL.out.mono ?_
  rintro e w2 ⟨i, rfl, hi, HP, hb2⟩
  have HPP := Lib.hid HP
  have HII := Lib.hid hi
  clear HP hi
  go_wp2_with fail
  go_ret2
  exact ⟨i, rfl, HII.out, HPP.out, hbw.trans (hb2.mono hbw.size)⟩
def atI (l : List Bkg) (t : Int) : Int := idxF (fun b => decide (b.id = t)) l
end Go.Proofs.YtoilcdgpeilgaaaGreat
