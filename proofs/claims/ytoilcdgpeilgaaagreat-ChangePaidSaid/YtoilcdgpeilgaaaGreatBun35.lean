/-
  Words, laws and contracts: ChgJ, ChgK, ChgL.
-/
import Derived.Test.YtoilcdgpeilgaaaGreatBun28
import Derived.Test.YtoilcdgpeilgaaaGreatBun32
import Derived.Test.YtoilcdgpeilgaaaGreatBun34
import Derived.BigQuiet
set_option linter.unusedSimpArgs false
set_option linter.unusedVariables false
namespace Go.Proofs.YtoilcdgpeilgaaaGreat
open Go.RowKit Go.Shelf
theorem saiE_mk {y : Sai} (h1 : shipE y.ship = 0) (h2 : fareE y.fares y.ship.cats.length y.ship.legs = 0) (h3 : betB y.day 0 9999 = true) (h4 : betB y.leaves 0 9999 = true) (h5 : y.bks.length ≤ 16) (h6 : ∀ b ∈ y.bks, ofE y.ship b = 0) (h7 : Rise y.bks)
    (h8 : y.bks.any (badB y.closed) = false) (h9 : roomE y = 0) : saiE y = 0 := by
  have hb : bksE y = 0 := by
    unfold bksE
    rw [if_neg (by omega), show firstE (bkE1 y) y.bks.length = 0 from firstE_none fun i hi => by
      have hx : y.bks[i]? = some y.bks[i] := List.getElem?_eq_getElem hi
      rw [bkE1_at hx, h6 _ (List.getElem_mem hi), if_neg (by simp), if_neg]
      rintro ⟨h0, hle⟩
      have hp : y.bks.getD (i - 1) default = y.bks[i - 1]'(by omega) := by rw [List.getD_eq_getElem?_getD, List.getElem?_eq_getElem (by omega)]; rfl
      rw [hp] at hle
      have := h7 (i - 1) i _ _ (by omega) (List.getElem?_eq_getElem (by omega)) hx
      omega, if_neg (by simp), if_neg (by rw [h8]; simp)]
  unfold saiE
  rw [h1, if_neg (by simp), h2, if_neg (by simp), if_neg (by rw [h3, h4]; simp), hb, if_neg (by simp), h9]
  rfl
def keyB (b : Bkg) : Bkg := { b with state := if liveB b = true then 1 else 3, til := 0, fol := [] }
theorem key_live (b : Bkg) : liveB (keyB b) = liveB b := by
  unfold keyB
  cases h : liveB b <;> simp [liveB]
theorem key_has (c : Int) (b : Bkg) : hasB c (keyB b) = hasB c b := by unfold hasB; rw [key_live]; rfl
theorem key_open (b : Bkg) : openB (keyB b) = openB b := by unfold openB; rw [key_live]; rfl
theorem spL_key (l : List Bkg) (c : Int) : spL (l.map keyB) c = spL l c := by
  induction l with
  | nil => rfl
  | cons b l ih =>
    unfold spL at ih ⊢
    rw [List.map_cons, List.filter_cons, List.filter_cons, key_has]
    split
    · rw [List.map_cons, List.map_cons, ih]; rfl
    · exact ih
theorem soulK_key (l : List Bkg) (k : Nat) : soulK (l.map keyB) k = soulK l k := by
  unfold soulK
  rw [List.map_map]
  congr 1
  refine List.map_congr_left fun b _ => ?_
  show (if liveB (keyB b) = true ∧ b.frm ≤ k ∧ (k : Int) < b.upto then b.gst else 0) = _
  rw [key_live]
theorem emptyB_key (l : List Bkg) (c : Nat) : emptyB (l.map keyB) c = emptyB l c := by
  unfold emptyB
  rw [List.any_map]
  congr 2
  funext b
  exact key_has c b
theorem mayL_key (x : Sai) (l : List Bkg) (b : Bkg) : mayL (bksS x (l.map keyB)) (keyB b) = mayL (bksS x l) b := by
  unfold mayL
  show ((List.range x.ship.cabs.length).filter (fun c : Nat => eligB x.ship (keyB b) (c : Int) && emptyB (l.map keyB) c)).map Int.ofNat = ((List.range x.ship.cabs.length).filter (fun c : Nat => eligB x.ship b (c : Int) && emptyB l c)).map Int.ofNat
  congr 2
  funext c
  rw [emptyB_key]; rfl
theorem openL_key (x : Sai) (l : List Bkg) : openL (bksS x (l.map keyB)) = (openL (bksS x l)).map keyB := by
  unfold openL
  show (l.map keyB).filter openB = (l.filter openB).map keyB
  rw [List.filter_map]
  congr 2
  funext b
  exact key_open b
theorem edgF_key (x : Sai) (l : List Bkg) : ∀ (m : List Bkg) (i : Nat), edgF (bksS x (l.map keyB)) (m.map keyB) i = edgF (bksS x l) m i
  | [], _ => rfl
  | b :: m, i => by rw [List.map_cons, edgF, edgF, mayL_key, edgF_key x l m (i + 1)]
theorem takB_key (l : List Bkg) (c : Int) : takB (l.map keyB) c = takB l c := by unfold takB; rw [spL_key]
theorem room_key (x : Sai) (l : List Bkg) : roomE (bksS x (l.map keyB)) = roomE (bksS x l) := by
  have h1 : twiceB (bksS x (l.map keyB)) = twiceB (bksS x l) := by
    unfold twiceB
    show ((List.range x.ship.cabs.length).any fun c => !takB (l.map keyB) (c : Int)) = ((List.range x.ship.cabs.length).any fun c => !takB l (c : Int))
    congr 1
    funext c
    rw [takB_key]
  have h2 : soulL (l.map keyB) x.ship.legs.toNat = soulL l x.ship.legs.toNat := by
    unfold soulL
    exact List.map_congr_left fun k _ => soulK_key l k
  have h3 : idsL (bksS x (l.map keyB)) = idsL (bksS x l) := by
    unfold idsL
    rw [openL_key, List.map_map]
    rfl
  have h4 : edgL (bksS x (l.map keyB)) = edgL (bksS x l) := by
    unfold edgL
    rw [openL_key, edgF_key]
  unfold roomE
  rw [h1, h3, h4]
  show (if _ then _ else if x.ship.souls < mx (soulL (l.map keyB) x.ship.legs.toNat) then _ else _) = (if _ then _ else if x.ship.souls < mx (soulL l x.ship.legs.toNat) then _ else _)
  rw [h2]
theorem has_live (c : Int) (b : Bkg) : (hasB c b && liveB b) = hasB c b := by unfold hasB; cases liveB b <;> simp
theorem spL_live (l : List Bkg) (c : Int) : spL (l.filter liveB) c = spL l c := by
  unfold spL
  rw [List.filter_filter]
  congr 2
  funext b
  exact has_live c b
theorem soulK_live (l : List Bkg) (k : Nat) : soulK (l.filter liveB) k = soulK l k := by
  unfold soulK
  induction l with
  | nil => rfl
  | cons b l ih =>
    rw [List.filter_cons]
    split
    · rw [List.map_cons, List.map_cons, List.sum_cons, List.sum_cons, ih]
    · next h => rw [List.map_cons, List.sum_cons, ih, if_neg (fun hh => h hh.1)]; omega
theorem emptyB_live (l : List Bkg) (c : Nat) : emptyB (l.filter liveB) c = emptyB l c := by
  unfold emptyB
  rw [List.any_filter]
  congr 2
  funext b
  unfold hasB
  cases liveB b <;> simp
theorem openL_live (x : Sai) (l : List Bkg) : openL (bksS x (l.filter liveB)) = openL (bksS x l) := by
  unfold openL
  show (l.filter liveB).filter openB = l.filter openB
  rw [List.filter_filter]
  congr 1
  funext b
  unfold openB
  cases liveB b <;> simp
theorem mayL_live (x : Sai) (l : List Bkg) (b : Bkg) : mayL (bksS x (l.filter liveB)) b = mayL (bksS x l) b := by
  unfold mayL
  show ((List.range x.ship.cabs.length).filter (fun c : Nat => eligB x.ship b (c : Int) && emptyB (l.filter liveB) c)).map Int.ofNat = ((List.range x.ship.cabs.length).filter (fun c : Nat => eligB x.ship b (c : Int) && emptyB l c)).map Int.ofNat
  congr 2
  funext c
  rw [emptyB_live]
theorem edgF_may {x y : Sai} (hm : ∀ b, mayL x b = mayL y b) : ∀ (l : List Bkg) (i : Nat), edgF x l i = edgF y l i
  | [], _ => rfl
  | b :: l, i => by rw [edgF, edgF, hm, edgF_may hm l (i + 1)]
theorem room_live (x : Sai) (l : List Bkg) : roomE (bksS x (l.filter liveB)) = roomE (bksS x l) := by
  have h1 : twiceB (bksS x (l.filter liveB)) = twiceB (bksS x l) := by
    unfold twiceB
    show ((List.range x.ship.cabs.length).any fun c => !takB (l.filter liveB) (c : Int)) = ((List.range x.ship.cabs.length).any fun c => !takB l (c : Int))
    congr 1
    funext c
    unfold takB
    rw [spL_live]
  have h2 : soulL (l.filter liveB) x.ship.legs.toNat = soulL l x.ship.legs.toNat := by
    unfold soulL
    exact List.map_congr_left fun k _ => soulK_live l k
  have h3 : idsL (bksS x (l.filter liveB)) = idsL (bksS x l) := by
    unfold idsL
    rw [openL_live]
  have h4 : edgL (bksS x (l.filter liveB)) = edgL (bksS x l) := by
    unfold edgL
    rw [openL_live, edgF_may (mayL_live x l)]
  unfold roomE
  rw [h1, h3, h4]
  show (if _ then _ else if x.ship.souls < mx (soulL (l.filter liveB) x.ship.legs.toNat) then _ else _) = (if _ then _ else if x.ship.souls < mx (soulL l x.ship.legs.toNat) then _ else _)
  rw [h2]
theorem room_sub {x : Sai} {l : List Bkg} (h : saiE x = 0) (hs : l.Sublist x.bks) : roomE (bksS x l) = 0 := (sai_ok (saiE_sub h hs (all_sub hs (room_ok (sai_ok h).room).2.2))).room
theorem ok_of {X : Shp} {b : Bkg} (h : OkBk X b) : ofE X b = 0 := by
  unfold ofE
  rw [if_neg (by rw [h.kind, h.state]; simp), if_neg (by rw [h.id, betB_iff.2 h.gst]; simp), if_neg (by rw [h.span]; simp), if_neg (by rw [h.kindE]; simp), if_neg (by rw [h.til]; simp), if_neg (fun hh => hh.2 (h.opt hh.1))]
  exact h.fol
theorem mem_set_of {l : List Bkg} {k : Nat} {b c : Bkg} (h : c ∈ l.set k b) : c ∈ l ∨ c = b := List.mem_or_eq_of_mem_set h
theorem set_ok {x : Sai} {k : Nat} {b b' : Bkg} (h : saiE x = 0) (hb : x.bks[k]? = some b) (hid : b'.id = b.id) (hof : OkBk x.ship b') (hbad : badB x.closed b' = false) (hr : roomE (setS x k b') = 0) : saiE (setS x k b') = 0 := by
  have ho := sai_ok h
  refine saiE_mk (bks_zero h).1 ho.fares ho.day ho.leaves (by show (x.bks.set k b').length ≤ 16; rw [List.length_set]; exact ho.bs.len) (fun c hc => ?_) (rise_set (rise_of ho.bs.rise) hb hid) ?_ hr
  · rcases mem_set_of hc with h1 | h1
    · exact ok_of (ho.bs.bk c h1)
    · rw [h1]; exact ok_of hof
  · refine List.any_eq_false.2 fun c hc => ?_
    rcases mem_set_of hc with h1 | h1
    · exact List.any_eq_false.1 ho.bs.bad c h1
    · rw [h1]; show ¬ badB x.closed b' = true; rw [hbad]; simp
theorem set_key {l : List Bkg} {k : Nat} {b b' : Bkg} (hb : l[k]? = some b) (h : keyB b' = keyB b) : (l.set k b').map keyB = l.map keyB := by
  rw [List.map_set, h]
  refine List.ext_getElem? fun i => ?_
  by_cases hi : i = k
  · subst hi
    have hil := (List.getElem?_eq_some_iff.1 hb).1
    rw [List.getElem?_set_self (by rw [List.length_map]; exact hil), List.getElem?_map, hb]; rfl
  · rw [List.getElem?_set_ne (fun e => hi e.symm)]
theorem room_set {x : Sai} {k : Nat} {b b' : Bkg} (h : saiE x = 0) (hb : x.bks[k]? = some b) (hk : keyB b' = keyB b) : roomE (setS x k b') = 0 := by
  have h1 := room_key x (x.bks.set k b')
  rw [set_key hb hk, room_key] at h1
  exact h1.symm.trans (sai_ok h).room
theorem filter_dead {l : List Bkg} {k : Nat} {b b' : Bkg} (hb : l[k]? = some b) (h : liveB b' = false) : (l.set k b').filter liveB = (lessL l k).filter liveB := by
  have hk := (List.getElem?_eq_some_iff.1 hb).1
  rw [List.set_eq_take_append_cons_drop, if_pos hk, List.filter_append, List.filter_cons, if_neg (by rw [h]; simp)]
  unfold lessL
  rw [List.filter_append]
theorem room_dead {x : Sai} {k : Nat} {b b' : Bkg} (h : saiE x = 0) (hb : x.bks[k]? = some b) (hd : liveB b' = false) : roomE (setS x k b') = 0 := by
  have h1 := room_live x (x.bks.set k b')
  rw [filter_dead hb hd, room_live] at h1
  exact h1.symm.trans (room_sub h (less_sub x.bks k))
theorem bad_key {c : Bool} {b b' : Bkg} (h1 : b'.kind = b.kind) (h2 : liveB b' = liveB b) (h3 : b'.cab = b.cab) : badB c b' = badB c b := by unfold badB; rw [h1, h2, h3]
section
variable {x : Sai} {t : Int}
theorem sure_right (h : sureEx x t = 0) : saiE (sureX x t) = 0 ∧ ∃ (k : Nat) (b b' : Bkg), x.bks[k]? = some b ∧ b.id = t ∧ b'.id = t ∧ sureX x t = setS x k b' ∧ saiE x = 0 := by
  unfold sureEx chE chE1 at h
  by_cases h0 : saiE x ≠ 0
  · rw [if_pos h0] at h; exact absurd h h0
  rw [if_neg h0] at h
  by_cases hl : isLive x t = true
  rotate_left
  · rw [if_neg hl] at h; omega
  rw [if_pos hl] at h
  have h0 := Decidable.not_not.1 h0
  have ho := sai_ok h0
  obtain ⟨b, h1, h2, h3, h4, h5, h6⟩ := live_at (rise_of ho.bs.rise) hl
  unfold sureX
  rw [h6] at h ⊢
  unfold sureE at h
  have hst : b.state = 1 := by
    by_cases hs : b.state = 1
    · exact hs
    · rw [if_neg hs] at h; omega
  have hb := ho.bs.bk b (List.mem_of_getElem? h1)
  have hlv : liveB (sureB b) = liveB b := by unfold liveB sureB; simp [hst]
  refine ⟨set_ok h0 h1 rfl ⟨hb.kind, show betB (2 : Int) 1 3 = true by decide, hb.id, hb.gst, hb.span, hb.kindE, show betB (0 : Int) 0 9999 = true by decide, fun hh => absurd rfl hh, hb.fol⟩ ?_ (room_set h0 h1 ?_), _, b, sureB b, h1, h2, h2, rfl, h0⟩
  · exact (bad_key (c := x.closed) (b := b) (b' := sureB b) rfl hlv rfl).trans (by simpa using List.any_eq_false.1 ho.bs.bad b (List.mem_of_getElem? h1))
  · unfold keyB
    rw [hlv]
    rfl
theorem paid_right {a : Int} (h : paidEx x t a = 0) : saiE (paidX x t a) = 0 ∧ ∃ (k : Nat) (b b' : Bkg), x.bks[k]? = some b ∧ b.id = t ∧ b'.id = t ∧ paidX x t a = setS x k b' ∧ saiE x = 0 := by
  unfold paidEx chE chE1 at h
  by_cases h0 : saiE x ≠ 0
  · rw [if_pos h0] at h; exact absurd h h0
  rw [if_neg h0] at h
  by_cases hl : isLive x t = true
  rotate_left
  · rw [if_neg hl] at h; omega
  rw [if_pos hl] at h
  have h0 := Decidable.not_not.1 h0
  have ho := sai_ok h0
  obtain ⟨b, h1, h2, h3, h4, h5, h6⟩ := live_at (rise_of ho.bs.rise) hl
  unfold paidX
  rw [h6] at h ⊢
  have hf : checkFolio (paidB x b a).fol = 0 := by
    unfold paidE at h
    by_cases q1 : betB a 1 100000000 = false
    · rw [if_pos q1] at h; omega
    rw [if_neg q1] at h
    by_cases q2 : dueOf b.fol < a
    · rw [if_pos q2] at h; omega
    rw [if_neg q2] at h
    exact h
  have hb := ho.bs.bk b (List.mem_of_getElem? h1)
  refine ⟨set_ok h0 h1 rfl ⟨hb.kind, hb.state, hb.id, hb.gst, hb.span, hb.kindE, hb.til, hb.opt, hf⟩ ?_ (room_set h0 h1 rfl), _, b, paidB x b a, h1, h2, h2, rfl, h0⟩
  exact (bad_key (c := x.closed) (b := b) (b' := paidB x b a) rfl rfl rfl).trans (by simpa using List.any_eq_false.1 ho.bs.bad b (List.mem_of_getElem? h1))
theorem gone_ok {X : Shp} {b : Bkg} {day : Int} (hb : OkBk X b) (h : goneE x b day = 0) : OkBk X (goneB x b day) := by
  have hf : checkFolio (goneB x b day).fol = 0 := by
    unfold goneE at h
    by_cases q : b.state = 2 ∧ 100000000 < faresOf b.fol
    · rw [if_pos q] at h; omega
    · rw [if_neg q] at h; exact h
  exact ⟨hb.kind, show betB (3 : Int) 1 3 = true by decide, hb.id, hb.gst, hb.span, hb.kindE, show betB (0 : Int) 0 9999 = true by decide, fun hh => absurd rfl hh, hf⟩
theorem gone_right (h : goneEx x t = 0) : saiE (goneX x t) = 0 ∧ ∃ (k : Nat) (b b' : Bkg), x.bks[k]? = some b ∧ b.id = t ∧ b'.id = t ∧ goneX x t = setS x k b' ∧ saiE x = 0 := by
  unfold goneEx chE chE1 at h
  by_cases h0 : saiE x ≠ 0
  · rw [if_pos h0] at h; exact absurd h h0
  rw [if_neg h0] at h
  by_cases hl : isLive x t = true
  rotate_left
  · rw [if_neg hl] at h; omega
  rw [if_pos hl] at h
  have h0 := Decidable.not_not.1 h0
  have ho := sai_ok h0
  obtain ⟨b, h1, h2, h3, h4, h5, h6⟩ := live_at (rise_of ho.bs.rise) hl
  unfold goneX
  rw [h6] at h ⊢
  have hb := ho.bs.bk b (List.mem_of_getElem? h1)
  have hd : liveB (goneB x b x.day) = false := by unfold liveB goneB; simp
  exact ⟨set_ok h0 h1 rfl (gone_ok hb h) (by unfold badB; rw [hd]; simp) (room_dead h0 h1 hd), _, b, goneB x b x.day, h1, h2, h2, rfl, h0⟩
theorem move_right {c : Int} (h : moveEx x t c = 0) : saiE (moveX x t c) = 0 ∧ ∃ (k : Nat) (b b' : Bkg), x.bks[k]? = some b ∧ b.id = t ∧ b'.id = t ∧ moveX x t c = setS x k b' ∧ saiE x = 0 := by
  unfold moveEx chE chE1 at h
  by_cases h0 : saiE x ≠ 0
  · rw [if_pos h0] at h; exact absurd h h0
  rw [if_neg h0] at h
  by_cases hl : isLive x t = true
  rotate_left
  · rw [if_neg hl] at h; omega
  rw [if_pos hl] at h
  have h0 := Decidable.not_not.1 h0
  have ho := sai_ok h0
  obtain ⟨b, h1, h2, h3, h4, h5, h6⟩ := live_at (rise_of ho.bs.rise) hl
  unfold moveX
  rw [h6] at h ⊢
  unfold moveE at h
  by_cases q1 : b.cab < 0
  · rw [if_pos q1] at h; omega
  rw [if_neg q1] at h
  by_cases q2 : c < 0 ∨ (x.ship.cabs.length : Int) ≤ c
  · rw [if_pos q2] at h; omega
  rw [if_neg q2] at h
  by_cases q3 : c = b.cab
  · rw [if_pos q3] at h; omega
  rw [if_neg q3] at h
  by_cases q4 : ofE x.ship (moveB b c) ≠ 0
  · rw [if_pos q4] at h; exact absurd h q4
  rw [if_neg q4] at h
  refine ⟨set_ok h0 h1 rfl (bk_ok (Decidable.not_not.1 q4)) ?_ h, _, b, moveB b c, h1, h2, h2, rfl, h0⟩
  have hbad : badB x.closed b = false := by simpa using List.any_eq_false.1 ho.bs.bad b (List.mem_of_getElem? h1)
  refine Eq.trans ?_ hbad
  unfold badB moveB
  show (decide (b.kind = 2) && (liveB b && (decide (c < 0) == x.closed))) = _
  rw [decide_eq_false q1, decide_eq_false (show ¬ c < 0 by omega)]
end
end Go.Proofs.YtoilcdgpeilgaaaGreat
namespace Go.Proofs.YtoilcdgpeilgaaaGreat
open Go.RowKit Go.Shelf
def payC : Sai := paidX cruiseX 7 200
theorem ch_cruise {t E : Int} (h : isLive cruiseX t = true) : chE cruiseX t E = E := by
  rw [chE_ok cruise_e]
  unfold chE1
  rw [if_pos h]
theorem sure_c : sureEx cruiseX 9 = 0 := (ch_cruise (by kernel_rfl)).trans (by decide)
theorem pay_c : paidEx cruiseX 7 200 = 0 := (ch_cruise (by kernel_rfl)).trans (by decide)
theorem gone_c : goneEx payC 7 = 0 := by
  unfold goneEx
  rw [chE_ok (show saiE payC = 0 from (paid_right pay_c).1)]
  decide
theorem move_c9 : moveEx cruiseX 9 0 = 4 := (ch_cruise (by kernel_rfl)).trans (by unfold moveE; rw [if_pos (by decide)])
theorem move_c7 : moveEx cruiseX 7 0 = 4 := (ch_cruise (by kernel_rfl)).trans (by
  unfold moveE
  rw [if_neg (by decide), if_neg (by decide), if_neg (by decide), if_pos (by decide)]
  decide)
theorem SaiR.bk {w : World} {x : Sai} {p : SaiV} (h : SaiR w x p) {k : Nat} {b : Bkg} (hb : x.bks[k]? = some b) : ∃ ab off A3 n3 c3, p.C = some ⟨ab, off, none⟩ ∧ x.bks.length = p.nb ∧ (∀ j u, (bkgA b (.slice A3 n3 c3)).toList[j]? = some u → w.cell? ⟨ab, off + k * 11 + j, none⟩ = some u) ∧
    Sl entryC 3 w All A3 n3 c3 b.fol ∧ BkIn b := by
  have hl := h.bks.len
  have hk := (List.getElem?_eq_some_iff.1 hb).1
  obtain ⟨ab, off, b', A3, n3, c3, hA, hx, hF, hI, hcel⟩ := h.bks.bkg (show k < p.nb by omega)
  obtain rfl : b' = b := by rw [hx] at hb; injection hb
  exact ⟨ab, off, A3, n3, c3, hA, hl, hcel, hF, hI⟩
set_option maxRecDepth 100000 in
set_option maxHeartbeats 8000000 in
theorem changeBegun_any (w : World) : Calls Tryz.prog 37 #[] w fun e w' => e = .returned (.bool true) ∧ Below w.heap.size w w' := by
  have h9 : InI 9 := .of (by decide) (by decide)
  have h7 : InI 7 := .of (by decide) (by decide)
  have HC1 := Lib.hid (fun p X hX => Sure_any cruiseX p 9 X hX h9)
  have HC2 := Lib.hid (fun p X hX => Pay_any cruiseX p 7 200 X hX h7 (.of (by decide) (by decide)))
  have HC3 := Lib.hid (fun p X hX => CancelS_any payC p 7 X hX h7)
  have HC4 := Lib.hid (fun p X hX => Move_any cruiseX p 9 0 X hX h9 zero_in)
  have HC5 := Lib.hid (fun p X hX => Move_any cruiseX p 7 0 X hX h7 zero_in)
  rw [sure_c] at HC1
  rw [pay_c, show paidX cruiseX 7 200 = payC from rfl] at HC2
  rw [gone_c] at HC3
  rw [move_c9] at HC4
  rw [move_c7] at HC5
  clear h9 h7
  have hb : Below w.heap.size w w := Below.refl _ _
  have HB := Lib.hid hb
  clear hb
  go_enter Tryz.func37, Tryz.ntmps37
  go_upto_region 1 with (fail)
  go_cut [1, 2] (fun q e wx => e = .int .i64 0 ∧ (∃ z y p', q = .pointer (some ⟨z, 0, none⟩) ∧ Blk wx z (saiA y p') 32 ∧ y = okS 0 (sureX cruiseX 9) ∧ SaiR wx y p') ∧ Below w.heap.size w wx)
  case first =>
    go_wp2_with fail
    refine (cruise_any _).mono ?_
    rintro e w4 ⟨p4, rfl, hS4, hb4⟩
    have HC := Lib.hid (HC1.out p4 _ hS4)
    have HB4 := Lib.hid hb4
    clear hS4 hb4
    go_wp2_with fail
    refine HC.out.mono ?_
    rintro e w8 ⟨⟨y, p', rfl, hy, hO⟩, hb8⟩
    have HO8 := Lib.hid hO.sai
    have HY8 := Lib.hid hy
    have HB8 := Lib.hid (HB4.out.trans (hb8.mono HB4.out.size))
    clear hO hy hb8
    go_wp2_with (refine wpList_store_row rfl 32 (.tmp 1) (.tmp 14) rfl w8.heap.size (saiA y p') rfl rfl 32 _ (Blk.new w8 #[.int .i64 0, .int .i64 0, .slice none 0 0, .slice none 0 0, .slice none 0 0, .int .i64 0, .int .i64 0, .slice none 0 0, .int .i64 0, .int .i64 0, .int .i64 0, .slice none 0 0, .bool false] 32) (by kernel_rfl) rfl (by simp [Value.oneCell']) ?_)
    go_meet
    have hbe : Below w8.heap.size w8 ((w8.alloc (.cells #[.int .i64 0, .int .i64 0, .slice none 0 0, .slice none 0 0, .slice none 0 0, .int .i64 0, .int .i64 0, .slice none 0 0, .int .i64 0, .int .i64 0, .int .i64 0, .slice none 0 0, .bool false] 32)).setRow w8.heap.size (saiA y p')) := below_setRow (bel1 w8 _) (Nat.le_refl _) _
    exact ⟨rfl, ⟨_, y, p', rfl, (Blk.new w8 _ _).row _, HY8.out, HO8.out.bel hbe⟩, HB8.out.trans (hbe.mono HB8.out.size)⟩
  obtain ⟨rfl, ⟨z1, y1, p1, rfl, hZ1, hy1, hS1⟩, hbn⟩ := hcut
  obtain ⟨V1, hV1⟩ : ∃ V, V = wc := ⟨_, rfl⟩
  subst hV1
  have HZ1 := Lib.hid hZ1
  have HS1 := Lib.hid hS1
  have HY1 := Lib.hid hy1
  have hb := HB.out.trans (hbn.mono HB.out.size)
  have HB := Lib.hid hb
  clear hZ1 hS1 hy1 hb
  go_upto_region 2 with (fail)
  go_cut [3, 4] (fun q e wx => e = .int .i64 0 ∧ (∃ z y p', q = .pointer (some ⟨z, 0, none⟩) ∧ Blk wx z (saiA y p') 32 ∧ y = okS 0 payC ∧ SaiR wx y p') ∧ Below V1.heap.size V1 wx)
  case first =>
    go_wp2_with fail
    refine (cruise_any _).mono ?_
    rintro e w4 ⟨p4, rfl, hS4, hb4⟩
    have HC := Lib.hid (HC2.out p4 _ hS4)
    have HB4 := Lib.hid hb4
    clear hS4 hb4
    go_wp2_with fail
    refine HC.out.mono ?_
    rintro e w8 ⟨⟨y, p', rfl, hy, hO⟩, hb8⟩
    have HO8 := Lib.hid hO.sai
    have HY8 := Lib.hid hy
    have HB8 := Lib.hid (HB4.out.trans (hb8.mono HB4.out.size))
    clear hO hy hb8
    go_wp2_with (refine wpList_store_row rfl 32 (.tmp 3) (.tmp 19) rfl w8.heap.size (saiA y p') rfl rfl 32 _ (Blk.new w8 #[.int .i64 0, .int .i64 0, .slice none 0 0, .slice none 0 0, .slice none 0 0, .int .i64 0, .int .i64 0, .slice none 0 0, .int .i64 0, .int .i64 0, .int .i64 0, .slice none 0 0, .bool false] 32) (by kernel_rfl) rfl (by simp [Value.oneCell']) ?_)
    go_meet
    have hbe : Below w8.heap.size w8 ((w8.alloc (.cells #[.int .i64 0, .int .i64 0, .slice none 0 0, .slice none 0 0, .slice none 0 0, .int .i64 0, .int .i64 0, .slice none 0 0, .int .i64 0, .int .i64 0, .int .i64 0, .slice none 0 0, .bool false] 32)).setRow w8.heap.size (saiA y p')) := below_setRow (bel1 w8 _) (Nat.le_refl _) _
    exact ⟨rfl, ⟨_, y, p', rfl, (Blk.new w8 _ _).row _, HY8.out, HO8.out.bel hbe⟩, HB8.out.trans (hbe.mono HB8.out.size)⟩
  obtain ⟨rfl, ⟨z2, y2, p2, rfl, hZ2, hy2, hS2⟩, hbn⟩ := hcut
  obtain ⟨V2, hV2⟩ : ∃ V, V = wc := ⟨_, rfl⟩
  subst hV2
  have HZ2 := Lib.hid hZ2
  have HS2 := Lib.hid hS2
  have HY2 := Lib.hid hy2
  have hb := HB.out.trans (hbn.mono HB.out.size)
  have HB := Lib.hid hb
  clear hZ2 hS2 hy2 hb
  replace HZ1 := Lib.hid (HZ1.out.bel hbn)
  replace HS1 := Lib.hid (HS1.out.bel hbn)
  clear hbn
  obtain rfl : y2 = payC := HY2.out
  go_upto_region 3 with (fail)
  go_cut [5, 6] (fun q e wx => e = .int .i64 0 ∧ (∃ z y p', q = .pointer (some ⟨z, 0, none⟩) ∧ Blk wx z (saiA y p') 32 ∧ y = okS 0 (goneX payC 7) ∧ SaiR wx y p') ∧ Below V2.heap.size V2 wx)
  case first =>
    have HC := Lib.hid (HC3.out p2 _ HS2.out)
    have HB4 := Lib.hid (Below.refl V2.heap.size V2)
    go_wp2_with (refine wpList_load_row rfl 32 (.tmp 3) rfl z2 rfl 32 _ (0, 0) _ HZ2.out Tryz.underlying32 rfl (by kernel_rfl) ?_)
    go_wp2_with fail
    refine HC.out.mono ?_
    rintro e w8 ⟨⟨y, p', rfl, hy, hO⟩, hb8⟩
    have HO8 := Lib.hid hO.sai
    have HY8 := Lib.hid hy
    have HB8 := Lib.hid (HB4.out.trans (hb8.mono HB4.out.size))
    clear hO hy hb8
    go_wp2_with (refine wpList_store_row rfl 32 (.tmp 5) (.tmp 24) rfl w8.heap.size (saiA y p') rfl rfl 32 _ (Blk.new w8 #[.int .i64 0, .int .i64 0, .slice none 0 0, .slice none 0 0, .slice none 0 0, .int .i64 0, .int .i64 0, .slice none 0 0, .int .i64 0, .int .i64 0, .int .i64 0, .slice none 0 0, .bool false] 32) (by kernel_rfl) rfl (by simp [Value.oneCell']) ?_)
    go_meet
    have hbe : Below w8.heap.size w8 ((w8.alloc (.cells #[.int .i64 0, .int .i64 0, .slice none 0 0, .slice none 0 0, .slice none 0 0, .int .i64 0, .int .i64 0, .slice none 0 0, .int .i64 0, .int .i64 0, .int .i64 0, .slice none 0 0, .bool false] 32)).setRow w8.heap.size (saiA y p')) := below_setRow (bel1 w8 _) (Nat.le_refl _) _
    exact ⟨rfl, ⟨_, y, p', rfl, (Blk.new w8 _ _).row _, HY8.out, HO8.out.bel hbe⟩, HB8.out.trans (hbe.mono HB8.out.size)⟩
  obtain ⟨rfl, ⟨z3, y3, p3, rfl, hZ3, hy3, hS3⟩, hbn⟩ := hcut
  obtain ⟨V3, hV3⟩ : ∃ V, V = wc := ⟨_, rfl⟩
  subst hV3
  replace HZ1 := Lib.hid (HZ1.out.bel hbn)
  replace HS1 := Lib.hid (HS1.out.bel hbn)
  replace HZ2 := Lib.hid (HZ2.out.bel hbn)
  replace HS2 := Lib.hid (HS2.out.bel hbn)
  have HZ3 := Lib.hid hZ3
  have HS3 := Lib.hid hS3
  have HY3 := Lib.hid hy3
  have hb := HB.out.trans (hbn.mono HB.out.size)
  have HB := Lib.hid hb
  clear hZ3 hS3 hy3 hb hbn
  go_upto_region 4 with (fail)
  go_cut [7, 8] (fun q e wx => e = .int .i64 4 ∧ (∃ z y p', q = .pointer (some ⟨z, 0, none⟩) ∧ Blk wx z (saiA y p') 32 ∧ y = okS 4 (moveX cruiseX 9 0) ∧ SaiR wx y p') ∧ Below V3.heap.size V3 wx)
  case first =>
    go_wp2_with fail
    refine (cruise_any _).mono ?_
    rintro e w4 ⟨p4, rfl, hS4, hb4⟩
    have HC := Lib.hid (HC4.out p4 _ hS4)
    have HB4 := Lib.hid hb4
    clear hS4 hb4
    go_wp2_with fail
    refine HC.out.mono ?_
    rintro e w8 ⟨⟨y, p', rfl, hy, hO⟩, hb8⟩
    have HO8 := Lib.hid hO.sai
    have HY8 := Lib.hid hy
    have HB8 := Lib.hid (HB4.out.trans (hb8.mono HB4.out.size))
    clear hO hy hb8
    go_wp2_with (refine wpList_store_row rfl 32 (.tmp 7) (.tmp 29) rfl w8.heap.size (saiA y p') rfl rfl 32 _ (Blk.new w8 #[.int .i64 0, .int .i64 0, .slice none 0 0, .slice none 0 0, .slice none 0 0, .int .i64 0, .int .i64 0, .slice none 0 0, .int .i64 0, .int .i64 0, .int .i64 0, .slice none 0 0, .bool false] 32) (by kernel_rfl) rfl (by simp [Value.oneCell']) ?_)
    go_meet
    have hbe : Below w8.heap.size w8 ((w8.alloc (.cells #[.int .i64 0, .int .i64 0, .slice none 0 0, .slice none 0 0, .slice none 0 0, .int .i64 0, .int .i64 0, .slice none 0 0, .int .i64 0, .int .i64 0, .int .i64 0, .slice none 0 0, .bool false] 32)).setRow w8.heap.size (saiA y p')) := below_setRow (bel1 w8 _) (Nat.le_refl _) _
    exact ⟨rfl, ⟨_, y, p', rfl, (Blk.new w8 _ _).row _, HY8.out, HO8.out.bel hbe⟩, HB8.out.trans (hbe.mono HB8.out.size)⟩
  obtain ⟨rfl, ⟨z4, y4, p4, rfl, hZ4, hy4, hS4⟩, hbn⟩ := hcut
  obtain ⟨V4, hV4⟩ : ∃ V, V = wc := ⟨_, rfl⟩
  subst hV4
  have HZ4 := Lib.hid hZ4
  have HS4 := Lib.hid hS4
  have HY4 := Lib.hid hy4
  have hb := HB.out.trans (hbn.mono HB.out.size)
  have HB := Lib.hid hb
  clear hZ4 hS4 hy4 hb
  replace HZ1 := Lib.hid (HZ1.out.bel hbn)
  replace HS1 := Lib.hid (HS1.out.bel hbn)
  replace HZ2 := Lib.hid (HZ2.out.bel hbn)
  replace HS2 := Lib.hid (HS2.out.bel hbn)
  replace HZ3 := Lib.hid (HZ3.out.bel hbn)
  replace HS3 := Lib.hid (HS3.out.bel hbn)
  clear hbn
  go_upto_region 5 with (fail)
  go_cut [9, 10] (fun q e wx => e = .int .i64 4 ∧ (∃ z y p', q = .pointer (some ⟨z, 0, none⟩) ∧ Blk wx z (saiA y p') 32 ∧ y = okS 4 (moveX cruiseX 7 0) ∧ SaiR wx y p') ∧ Below V4.heap.size V4 wx)
  case first =>
    go_wp2_with fail
    refine (cruise_any _).mono ?_
    rintro e w4 ⟨p4, rfl, hS4, hb4⟩
    have HC := Lib.hid (HC5.out p4 _ hS4)
    have HB4 := Lib.hid hb4
    clear hS4 hb4
    go_wp2_with fail
    refine HC.out.mono ?_
    rintro e w8 ⟨⟨y, p', rfl, hy, hO⟩, hb8⟩
    have HO8 := Lib.hid hO.sai
    have HY8 := Lib.hid hy
    have HB8 := Lib.hid (HB4.out.trans (hb8.mono HB4.out.size))
    clear hO hy hb8
    go_wp2_with (refine wpList_store_row rfl 32 (.tmp 9) (.tmp 34) rfl w8.heap.size (saiA y p') rfl rfl 32 _ (Blk.new w8 #[.int .i64 0, .int .i64 0, .slice none 0 0, .slice none 0 0, .slice none 0 0, .int .i64 0, .int .i64 0, .slice none 0 0, .int .i64 0, .int .i64 0, .int .i64 0, .slice none 0 0, .bool false] 32) (by kernel_rfl) rfl (by simp [Value.oneCell']) ?_)
    go_meet
    have hbe : Below w8.heap.size w8 ((w8.alloc (.cells #[.int .i64 0, .int .i64 0, .slice none 0 0, .slice none 0 0, .slice none 0 0, .int .i64 0, .int .i64 0, .slice none 0 0, .int .i64 0, .int .i64 0, .int .i64 0, .slice none 0 0, .bool false] 32)).setRow w8.heap.size (saiA y p')) := below_setRow (bel1 w8 _) (Nat.le_refl _) _
    exact ⟨rfl, ⟨_, y, p', rfl, (Blk.new w8 _ _).row _, HY8.out, HO8.out.bel hbe⟩, HB8.out.trans (hbe.mono HB8.out.size)⟩
  obtain ⟨rfl, ⟨z5, y5, p5, rfl, hZ5, hy5, hS5⟩, hbn⟩ := hcut
  obtain ⟨V5, hV5⟩ : ∃ V, V = wc := ⟨_, rfl⟩
  subst hV5
  have HZ5 := Lib.hid hZ5
  have HS5 := Lib.hid hS5
  have HY5 := Lib.hid hy5
  have hb := HB.out.trans (hbn.mono HB.out.size)
  have HB := Lib.hid hb
  clear hZ5 hS5 hy5 hb
  replace HZ1 := Lib.hid (HZ1.out.bel hbn)
  replace HS1 := Lib.hid (HS1.out.bel hbn)
  replace HZ2 := Lib.hid (HZ2.out.bel hbn)
  replace HS2 := Lib.hid (HS2.out.bel hbn)
  replace HZ3 := Lib.hid (HZ3.out.bel hbn)
  replace HS3 := Lib.hid (HS3.out.bel hbn)
  clear hbn HC1 HC2 HC3 HC4 HC5
  obtain rfl : y1 = sureX cruiseX 9 := HY1.out
  obtain rfl : y3 = goneX payC 7 := HY3.out
  obtain ⟨A1, o1, D1, n1, m1, hA1, hl1, hc1, _, _⟩ := HS1.out.bk (k := 1) (b := sureB promisedF) (by kernel_rfl)
  obtain ⟨A2, o2, D2, n2, m2, hA2, hl2, hc2, hF2, _⟩ := HS2.out.bk (k := 0) (b := paidB cruiseX namedF 200) (by kernel_rfl)
  obtain ⟨A3, o3, D3, n3, m3, hA3, hl3, hc3, hF3, _⟩ := HS3.out.bk (k := 0) (b := goneB payC (paidB cruiseX namedF 200) 2) (by kernel_rfl)
  have a11 : V5.cell? ⟨z1, 11, none⟩ = some (.slice (some ⟨A1, o1, none⟩) 2 p1.cb) := by have : V5.cell? ⟨z1, 11, none⟩ = some (.slice p1.C p1.nb p1.cb) := HZ1.out.cell rfl; rw [hA1, show p1.nb = 2 from hl1.symm] at this; exact this
  have b11 : V5.cell? ⟨z2, 11, none⟩ = some (.slice (some ⟨A2, o2, none⟩) 2 p2.cb) := by have : V5.cell? ⟨z2, 11, none⟩ = some (.slice p2.C p2.nb p2.cb) := HZ2.out.cell rfl; rw [hA2, show p2.nb = 2 from hl2.symm] at this; exact this
  have c11 : V5.cell? ⟨z3, 11, none⟩ = some (.slice (some ⟨A3, o3, none⟩) 2 p3.cb) := by have : V5.cell? ⟨z3, 11, none⟩ = some (.slice p3.C p3.nb p3.cb) := HZ3.out.cell rfl; rw [hA3, show p3.nb = 2 from hl3.symm] at this; exact this
  have a2 : V5.cell? ⟨A1, o1 + 11 + 2, none⟩ = some (.int .i64 2) := hc1 2 _ rfl
  have b10 : V5.cell? ⟨A2, o2 + 10, none⟩ = some (.slice D2 2 m2) := by have := hc2 10 _ rfl; rw [show n2 = 2 from hF2.len.symm] at this; simpa using this
  have c2 : V5.cell? ⟨A3, o3 + 2, none⟩ = some (.int .i64 3) := by have : V5.cell? ⟨A3, o3 + 0 * 11 + 2, none⟩ = some (.int .i64 3) := hc3 2 _ rfl; simpa using this
  have c10 : V5.cell? ⟨A3, o3 + 10, none⟩ = some (.slice D3 4 m3) := by have := hc3 10 _ rfl; rw [show n3 = 4 from hF3.len.symm.trans (by decide)] at this; simpa using this
  clear hA1 hl1 hc1 hA2 hl2 hc2 hF2 hA3 hl3 hc3 hF3
  go_wp2_with fail
  go_ret
  exact ⟨rfl, HB.out⟩
end Go.Proofs.YtoilcdgpeilgaaaGreat
namespace Go.Proofs.YtoilcdgpeilgaaaGreat
open Go.RowKit Go.Shelf
theorem due_snoc (l : List Entry) (d k : Int) : dueOf (l ++ [⟨d, k, -dueOf l⟩]) = 0 := by
  unfold dueOf sumBy
  simp [List.filter_append]
  omega
theorem ch_parts {x : Sai} {t E : Int} (h : chE x t E = 0) : saiE x = 0 ∧ isLive x t = true ∧ E = 0 := by
  have h0 : chE x t 0 = 0 := by
    by_cases h1 : chE x t 0 = 0
    · exact h1
    · rw [ch_ne h1] at h; exact h
  obtain ⟨a, b, c⟩ := ch_zero h0
  exact ⟨a, b, (c E).symm.trans h⟩
theorem paid_at {x : Sai} {t a : Int} {k : Nat} {b : Bkg} (h : paidEx x t a = 0) (hk : k = posI x.bks t) (hb : x.bks[k]? = some b) : (paidX x t a).bks[k]? = some (paidB x b a) ∧ checkFolio (paidB x b a).fol = 0 := by
  obtain ⟨h0, hl, hE⟩ := ch_parts h
  have hc : curB x t = b := by unfold curB; rw [← hk, List.getD_eq_getElem?_getD, hb]; rfl
  rw [hc] at hE
  refine ⟨by unfold paidX; rw [hc, ← hk]; exact set_get hb, ?_⟩
  unfold paidE at hE
  by_cases q1 : betB a 1 100000000 = false
  · rw [if_pos q1] at hE; omega
  rw [if_neg q1] at hE
  by_cases q2 : dueOf b.fol < a
  · rw [if_pos q2] at hE; omega
  rw [if_neg q2] at hE
  exact hE
theorem gone_at {x : Sai} {t : Int} {k : Nat} {b : Bkg} (hk : k = posI x.bks t) (hb : x.bks[k]? = some b) : (goneX x t).bks[k]? = some (goneB x b x.day) := by
  have hc : curB x t = b := by unfold curB; rw [← hk, List.getD_eq_getElem?_getD, hb]; rfl
  unfold goneX
  rw [hc, ← hk]
  exact set_get hb
theorem gone_opt {x : Sai} {b : Bkg} {day : Int} (h : b.state = 1) : ∀ (i : Nat) (e : Entry), b.fol.length ≤ i → (goneB x b day).fol[i]? = some e → e.kind = 4 := by
  have hp : penV x b day = 0 := by unfold penV; rw [if_neg (fun h2 => by have := h2.1; omega)]
  intro i e hi he
  have he : (cancelL b.fol day (penV x b day))[i]? = some e := he
  rw [hp] at he
  unfold cancelL at he
  have key : ∀ (l : List Entry) (d m : Int) (i : Nat) (e : Entry), l.length ≤ i → (putL l d 4 m)[i]? = some e → e.kind = 4 := fun l d m i e hi he => by
    unfold putL at he
    split at he
    · rw [List.getElem?_eq_none hi] at he; cases he
    · rw [List.getElem?_append_right hi] at he
      have h0 : i - l.length = 0 := by have := (List.getElem?_eq_some_iff.1 he).1; simp at this; omega
      rw [h0] at he
      simp at he
      rw [← he]
  rw [show ∀ l : List Entry, putL l day 3 0 = l from fun l => if_pos rfl] at he
  obtain ⟨l2, hl2⟩ : ∃ q, q = putL b.fol day 4 (-faresOf b.fol) := ⟨_, rfl⟩
  rw [← hl2] at he
  rcases Nat.lt_or_ge i l2.length with h1 | h1
  · have h2 : l2[i]? = some e := by
      unfold putL at he
      split at he
      · exact he
      · rw [List.getElem?_append_left h1] at he; exact he
    rw [hl2] at h2
    exact key _ _ _ _ _ hi h2
  · exact key _ _ _ _ _ h1 he
theorem move_back {x : Sai} {t c : Int} {k : Nat} {b : Bkg} (h : moveEx x t c = 0) (hk : k = posI x.bks t) (hb : x.bks[k]? = some b) : moveEx (moveX x t c) t b.cab = 0 ∧ moveX (moveX x t c) t b.cab = x := by
  obtain ⟨h0, hl, hE⟩ := ch_parts h
  have hr := (move_right h).1
  have ho := sai_ok h0
  have hc : curB x t = b := by unfold curB; rw [← hk, List.getD_eq_getElem?_getD, hb]; rfl
  obtain ⟨b2, g1, g2, g3, g4, g5, g6⟩ := live_at (rise_of ho.bs.rise) hl
  obtain rfl : b = b2 := g6 ▸ hc.symm
  rw [hc, ← hk] at hE
  have hd : moveX x t c = setS x k (moveB b c) := by unfold moveX; rw [hc, ← hk]
  have hri := rise_set (i := k) (b' := moveB b c) (rise_of ho.bs.rise) hb rfl
  have hp : posI (x.bks.set k (moveB b c)) t = k := by
    have hkl := (List.getElem?_eq_some_iff.1 hb).1
    refine pos_of (by rw [List.length_set]; omega) (fun q d hq hd => ?_) (fun q d hq hd => ?_)
    · have := hri q k d (moveB b c) hq hd (List.getElem?_set_self hkl)
      have e : (moveB b c).id = t := g2
      omega
    · rcases Nat.lt_or_ge k q with h1 | h1
      · have := hri k q (moveB b c) d h1 (List.getElem?_set_self hkl) hd
        have e : (moveB b c).id = t := g2
        omega
      · obtain rfl : q = k := by omega
        rw [List.getElem?_set_self hkl] at hd
        injection hd with hd
        subst hd
        exact Int.le_of_eq g2.symm
  have hset : (x.bks.set k (moveB b c))[k]? = some (moveB b c) := List.getElem?_set_self (List.getElem?_eq_some_iff.1 hb).1
  have hcur : curB (setS x k (moveB b c)) t = moveB b c := by
    unfold curB
    show (x.bks.set k (moveB b c)).getD (posI (x.bks.set k (moveB b c)) t) default = _
    rw [hp, List.getD_eq_getElem?_getD, hset]; rfl
  have hhas : hasId (x.bks.set k (moveB b c)) t = true := by
    unfold hasId
    exact List.any_eq_true.2 ⟨moveB b c, List.mem_of_getElem? hset, decide_eq_true g2⟩
  have hlive : isLive (setS x k (moveB b c)) t = true := by
    unfold isLive
    rw [hcur, show (setS x k (moveB b c)).bks = x.bks.set k (moveB b c) from rfl, hhas]
    unfold liveB moveB
    simpa using g5
  have hback : setS (setS x k (moveB b c)) k b = x := by
    rw [set_set]
    unfold setS
    rw [show x.bks.set k b = x.bks from by
      refine List.ext_getElem? fun i => ?_
      by_cases hi : i = k
      · subst hi; rw [List.getElem?_set_self (List.getElem?_eq_some_iff.1 hb).1, hb]
      · rw [List.getElem?_set_ne (fun e => hi e.symm)]]
  have hmm : moveB (moveB b c) b.cab = b := rfl
  rw [hd]
  have hX : moveX (setS x k (moveB b c)) t b.cab = x := by
    unfold moveX
    rw [hcur, show (setS x k (moveB b c)).bks = x.bks.set k (moveB b c) from rfl, hp, hmm, hback]
  refine ⟨?_, hX⟩
  rw [hd] at hr
  unfold moveE at hE
  by_cases q1 : b.cab < 0
  · rw [if_pos q1] at hE; omega
  rw [if_neg q1] at hE
  by_cases q2 : c < 0 ∨ (x.ship.cabs.length : Int) ≤ c
  · rw [if_pos q2] at hE; omega
  rw [if_neg q2] at hE
  by_cases q3 : c = b.cab
  · rw [if_pos q3] at hE; omega
  have hbk := ho.bs.bk b (List.mem_of_getElem? hb)
  have hcl := cab_lt hbk.kindE
  unfold moveEx
  rw [chE_ok hr]
  unfold chE1
  rw [if_pos hlive, hcur, show (setS x k (moveB b c)).bks = x.bks.set k (moveB b c) from rfl, hp]
  unfold moveE
  rw [if_neg (show ¬ (moveB b c).cab < 0 from fun h => q2 (.inl h)), if_neg (show ¬ (b.cab < 0 ∨ ((setS x k (moveB b c)).ship.cabs.length : Int) ≤ b.cab) from fun h => by
    rcases h with h | h
    · exact q1 h
    · have : (x.ship.cabs.length : Int) ≤ b.cab := h
      omega), if_neg (show ¬ b.cab = (moveB b c).cab from fun e => q3 e.symm), hmm, show ofE (setS x k (moveB b c)).ship b = 0 from ok_of hbk, if_neg (by simp), hback]
  exact ho.room
end Go.Proofs.YtoilcdgpeilgaaaGreat
