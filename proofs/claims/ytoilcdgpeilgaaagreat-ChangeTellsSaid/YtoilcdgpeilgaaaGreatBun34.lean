/-
  Words, laws and contracts: ChgJ, ChgK.
-/
import Derived.Test.YtoilcdgpeilgaaaGreatBun29
import Derived.Test.YtoilcdgpeilgaaaGreatBun33
import Derived.BigQuiet
set_option linter.unusedSimpArgs false
set_option linter.unusedVariables false
namespace Go.Proofs.YtoilcdgpeilgaaaGreat
open Go.RowKit Go.Shelf
theorem saiE_mk {y : Sai} (h1 : shipE y.ship = 0) (h2 : fareE y.fares y.ship.cats.length y.ship.legs = 0) (h3 : betB y.day 0 9999 = true) (h4 : betB y.leaves 0 9999 = true) (h5 : y.bks.length ≤ 16) (h6 : ∀ b ∈ y.bks, ofE y.ship b = 0) (h7 : Rise y.bks)
    (h8 : y.bks.any (badB y.closed) = false) (h9 : roomE y = 0) : saiE y = 0 := by
  have hb : bksE y = 0 := by
    unfold bksE
    rw [if_neg (by omega), show firstE (bkE1 y) y.bks.length = 0 from firstE_none fun i hi => by
      have hx : y.bks[i]? = some y.bks[i] := List.getElem?_eq_getElem hi
      rw [bkE1_at hx, h6 _ (List.getElem_mem hi), if_neg (by simp), if_neg]
      rintro ⟨h0, hle⟩
      have hp : y.bks.getD (i - 1) default = y.bks[i - 1]'(by omega) := by rw [List.getD_eq_getElem?_getD, List.getElem?_eq_getElem (by omega)]; rfl
      rw [hp] at hle
      have := h7 (i - 1) i _ _ (by omega) (List.getElem?_eq_getElem (by omega)) hx
      omega, if_neg (by simp), if_neg (by rw [h8]; simp)]
  unfold saiE
  rw [h1, if_neg (by simp), h2, if_neg (by simp), if_neg (by rw [h3, h4]; simp), hb, if_neg (by simp), h9]
  rfl
def keyB (b : Bkg) : Bkg := { b with state := if liveB b = true then 1 else 3, til := 0, fol := [] }
theorem key_live (b : Bkg) : liveB (keyB b) = liveB b := by
  unfold keyB
  cases h : liveB b <;> simp [liveB]
theorem key_has (c : Int) (b : Bkg) : hasB c (keyB b) = hasB c b := by unfold hasB; rw [key_live]; rfl
theorem key_open (b : Bkg) : openB (keyB b) = openB b := by unfold openB; rw [key_live]; rfl
theorem spL_key (l : List Bkg) (c : Int) : spL (l.map keyB) c = spL l c := by
  induction l with
  | nil => rfl
  | cons b l ih =>
    unfold spL at ih ⊢
    rw [List.map_cons, List.filter_cons, List.filter_cons, key_has]
    split
    · rw [List.map_cons, List.map_cons, ih]; rfl
    · exact ih
theorem soulK_key (l : List Bkg) (k : Nat) : soulK (l.map keyB) k = soulK l k := by
  unfold soulK
  rw [List.map_map]
  congr 1
  refine List.map_congr_left fun b _ => ?_
  show (if liveB (keyB b) = true ∧ b.frm ≤ k ∧ (k : Int) < b.upto then b.gst else 0) = _
  rw [key_live]
theorem emptyB_key (l : List Bkg) (c : Nat) : emptyB (l.map keyB) c = emptyB l c := by
  unfold emptyB
  rw [List.any_map]
  congr 2
  funext b
  exact key_has c b
theorem mayL_key (x : Sai) (l : List Bkg) (b : Bkg) : mayL (bksS x (l.map keyB)) (keyB b) = mayL (bksS x l) b := by
  unfold mayL
  show ((List.range x.ship.cabs.length).filter (fun c : Nat => eligB x.ship (keyB b) (c : Int) && emptyB (l.map keyB) c)).map Int.ofNat = ((List.range x.ship.cabs.length).filter (fun c : Nat => eligB x.ship b (c : Int) && emptyB l c)).map Int.ofNat
  congr 2
  funext c
  rw [emptyB_key]; rfl
theorem openL_key (x : Sai) (l : List Bkg) : openL (bksS x (l.map keyB)) = (openL (bksS x l)).map keyB := by
  unfold openL
  show (l.map keyB).filter openB = (l.filter openB).map keyB
  rw [List.filter_map]
  congr 2
  funext b
  exact key_open b
theorem edgF_key (x : Sai) (l : List Bkg) : ∀ (m : List Bkg) (i : Nat), edgF (bksS x (l.map keyB)) (m.map keyB) i = edgF (bksS x l) m i
  | [], _ => rfl
  | b :: m, i => by rw [List.map_cons, edgF, edgF, mayL_key, edgF_key x l m (i + 1)]
theorem takB_key (l : List Bkg) (c : Int) : takB (l.map keyB) c = takB l c := by unfold takB; rw [spL_key]
theorem room_key (x : Sai) (l : List Bkg) : roomE (bksS x (l.map keyB)) = roomE (bksS x l) := by
  have h1 : twiceB (bksS x (l.map keyB)) = twiceB (bksS x l) := by
    unfold twiceB
    show ((List.range x.ship.cabs.length).any fun c => !takB (l.map keyB) (c : Int)) = ((List.range x.ship.cabs.length).any fun c => !takB l (c : Int))
    congr 1
    funext c
    rw [takB_key]
  have h2 : soulL (l.map keyB) x.ship.legs.toNat = soulL l x.ship.legs.toNat := by
    unfold soulL
    exact List.map_congr_left fun k _ => soulK_key l k
  have h3 : idsL (bksS x (l.map keyB)) = idsL (bksS x l) := by
    unfold idsL
    rw [openL_key, List.map_map]
    rfl
  have h4 : edgL (bksS x (l.map keyB)) = edgL (bksS x l) := by
    unfold edgL
    rw [openL_key, edgF_key]
  unfold roomE
  rw [h1, h3, h4]
  show (if _ then _ else if x.ship.souls < mx (soulL (l.map keyB) x.ship.legs.toNat) then _ else _) = (if _ then _ else if x.ship.souls < mx (soulL l x.ship.legs.toNat) then _ else _)
  rw [h2]
theorem ok_of {X : Shp} {b : Bkg} (h : OkBk X b) : ofE X b = 0 := by
  unfold ofE
  rw [if_neg (by rw [h.kind, h.state]; simp), if_neg (by rw [h.id, betB_iff.2 h.gst]; simp), if_neg (by rw [h.span]; simp), if_neg (by rw [h.kindE]; simp), if_neg (by rw [h.til]; simp), if_neg (fun hh => hh.2 (h.opt hh.1))]
  exact h.fol
theorem mem_set_of {l : List Bkg} {k : Nat} {b c : Bkg} (h : c ∈ l.set k b) : c ∈ l ∨ c = b := List.mem_or_eq_of_mem_set h
theorem set_ok {x : Sai} {k : Nat} {b b' : Bkg} (h : saiE x = 0) (hb : x.bks[k]? = some b) (hid : b'.id = b.id) (hof : OkBk x.ship b') (hbad : badB x.closed b' = false) (hr : roomE (setS x k b') = 0) : saiE (setS x k b') = 0 := by
  have ho := sai_ok h
  refine saiE_mk (bks_zero h).1 ho.fares ho.day ho.leaves (by show (x.bks.set k b').length ≤ 16; rw [List.length_set]; exact ho.bs.len) (fun c hc => ?_) (rise_set (rise_of ho.bs.rise) hb hid) ?_ hr
  · rcases mem_set_of hc with h1 | h1
    · exact ok_of (ho.bs.bk c h1)
    · rw [h1]; exact ok_of hof
  · refine List.any_eq_false.2 fun c hc => ?_
    rcases mem_set_of hc with h1 | h1
    · exact List.any_eq_false.1 ho.bs.bad c h1
    · rw [h1]; show ¬ badB x.closed b' = true; rw [hbad]; simp
theorem set_key {l : List Bkg} {k : Nat} {b b' : Bkg} (hb : l[k]? = some b) (h : keyB b' = keyB b) : (l.set k b').map keyB = l.map keyB := by
  rw [List.map_set, h]
  refine List.ext_getElem? fun i => ?_
  by_cases hi : i = k
  · subst hi
    have hil := (List.getElem?_eq_some_iff.1 hb).1
    rw [List.getElem?_set_self (by rw [List.length_map]; exact hil), List.getElem?_map, hb]; rfl
  · rw [List.getElem?_set_ne (fun e => hi e.symm)]
theorem room_set {x : Sai} {k : Nat} {b b' : Bkg} (h : saiE x = 0) (hb : x.bks[k]? = some b) (hk : keyB b' = keyB b) : roomE (setS x k b') = 0 := by
  have h1 := room_key x (x.bks.set k b')
  rw [set_key hb hk, room_key] at h1
  exact h1.symm.trans (sai_ok h).room
theorem bad_key {c : Bool} {b b' : Bkg} (h1 : b'.kind = b.kind) (h2 : liveB b' = liveB b) (h3 : b'.cab = b.cab) : badB c b' = badB c b := by unfold badB; rw [h1, h2, h3]
section
variable {x : Sai} {t : Int}
theorem paid_right {a : Int} (h : paidEx x t a = 0) : saiE (paidX x t a) = 0 ∧ ∃ (k : Nat) (b b' : Bkg), x.bks[k]? = some b ∧ b.id = t ∧ b'.id = t ∧ paidX x t a = setS x k b' ∧ saiE x = 0 := by
  unfold paidEx chE chE1 at h
  by_cases h0 : saiE x ≠ 0
  · rw [if_pos h0] at h; exact absurd h h0
  rw [if_neg h0] at h
  by_cases hl : isLive x t = true
  rotate_left
  · rw [if_neg hl] at h; omega
  rw [if_pos hl] at h
  have h0 := Decidable.not_not.1 h0
  have ho := sai_ok h0
  obtain ⟨b, h1, h2, h3, h4, h5, h6⟩ := live_at (rise_of ho.bs.rise) hl
  unfold paidX
  rw [h6] at h ⊢
  have hf : checkFolio (paidB x b a).fol = 0 := by
    unfold paidE at h
    by_cases q1 : betB a 1 100000000 = false
    · rw [if_pos q1] at h; omega
    rw [if_neg q1] at h
    by_cases q2 : dueOf b.fol < a
    · rw [if_pos q2] at h; omega
    rw [if_neg q2] at h
    exact h
  have hb := ho.bs.bk b (List.mem_of_getElem? h1)
  refine ⟨set_ok h0 h1 rfl ⟨hb.kind, hb.state, hb.id, hb.gst, hb.span, hb.kindE, hb.til, hb.opt, hf⟩ ?_ (room_set h0 h1 rfl), _, b, paidB x b a, h1, h2, h2, rfl, h0⟩
  exact (bad_key (c := x.closed) (b := b) (b' := paidB x b a) rfl rfl rfl).trans (by simpa using List.any_eq_false.1 ho.bs.bad b (List.mem_of_getElem? h1))
end
end Go.Proofs.YtoilcdgpeilgaaaGreat
namespace Go.Proofs.YtoilcdgpeilgaaaGreat
open Go.RowKit Go.Shelf
def payC : Sai := paidX cruiseX 7 200
theorem ch_cruise {t E : Int} (h : isLive cruiseX t = true) : chE cruiseX t E = E := by
  rw [chE_ok cruise_e]
  unfold chE1
  rw [if_pos h]
theorem sure_c : sureEx cruiseX 9 = 0 := (ch_cruise (by kernel_rfl)).trans (by decide)
theorem pay_c : paidEx cruiseX 7 200 = 0 := (ch_cruise (by kernel_rfl)).trans (by decide)
theorem gone_c : goneEx payC 7 = 0 := by
  unfold goneEx
  rw [chE_ok (show saiE payC = 0 from (paid_right pay_c).1)]
  decide
theorem move_c9 : moveEx cruiseX 9 0 = 4 := (ch_cruise (by kernel_rfl)).trans (by unfold moveE; rw [if_pos (by decide)])
theorem move_c7 : moveEx cruiseX 7 0 = 4 := (ch_cruise (by kernel_rfl)).trans (by
  unfold moveE
  rw [if_neg (by decide), if_neg (by decide), if_neg (by decide), if_pos (by decide)]
  decide)
theorem SaiR.bk {w : World} {x : Sai} {p : SaiV} (h : SaiR w x p) {k : Nat} {b : Bkg} (hb : x.bks[k]? = some b) : ∃ ab off A3 n3 c3, p.C = some ⟨ab, off, none⟩ ∧ x.bks.length = p.nb ∧ (∀ j u, (bkgA b (.slice A3 n3 c3)).toList[j]? = some u → w.cell? ⟨ab, off + k * 11 + j, none⟩ = some u) ∧
    Sl entryC 3 w All A3 n3 c3 b.fol ∧ BkIn b := by
  have hl := h.bks.len
  have hk := (List.getElem?_eq_some_iff.1 hb).1
  obtain ⟨ab, off, b', A3, n3, c3, hA, hx, hF, hI, hcel⟩ := h.bks.bkg (show k < p.nb by omega)
  obtain rfl : b' = b := by rw [hx] at hb; injection hb
  exact ⟨ab, off, A3, n3, c3, hA, hl, hcel, hF, hI⟩
set_option maxRecDepth 100000 in
set_option maxHeartbeats 8000000 in
theorem changeBegun_any (w : World) : Calls Tryz.prog 37 #[] w fun e w' => e = .returned (.bool true) ∧ Below w.heap.size w w' := by
  have h9 : InI 9 := .of (by decide) (by decide)
  have h7 : InI 7 := .of (by decide) (by decide)
  have HC1 := Lib.hid (fun p X hX => Sure_any cruiseX p 9 X hX h9)
  have HC2 := Lib.hid (fun p X hX => Pay_any cruiseX p 7 200 X hX h7 (.of (by decide) (by decide)))
  have HC3 := Lib.hid (fun p X hX => CancelS_any payC p 7 X hX h7)
  have HC4 := Lib.hid (fun p X hX => Move_any cruiseX p 9 0 X hX h9 zero_in)
  have HC5 := Lib.hid (fun p X hX => Move_any cruiseX p 7 0 X hX h7 zero_in)
  rw [sure_c] at HC1
  rw [pay_c, show paidX cruiseX 7 200 = payC from rfl] at HC2
  rw [gone_c] at HC3
  rw [move_c9] at HC4
  rw [move_c7] at HC5
  clear h9 h7
  have hb : Below w.heap.size w w := Below.refl _ _
  have HB := Lib.hid hb
  clear hb
  go_enter Tryz.func37, Tryz.ntmps37
  go_upto_region 1 with (fail)
  go_cut [1, 2] (fun q e wx => e = .int .i64 0 ∧ (∃ z y p', q = .pointer (some ⟨z, 0, none⟩) ∧ Blk wx z (saiA y p') 32 ∧ y = okS 0 (sureX cruiseX 9) ∧ SaiR wx y p') ∧ Below w.heap.size w wx)
  case first =>
    go_wp2_with fail
    refine (cruise_any _).mono ?_
    rintro e w4 ⟨p4, rfl, hS4, hb4⟩
    have HC := Lib.hid (HC1.out p4 _ hS4)
    have HB4 := Lib.hid hb4
    clear hS4 hb4
    go_wp2_with fail
    refine HC.out.mono ?_
    rintro e w8 ⟨⟨y, p', rfl, hy, hO⟩, hb8⟩
    have HO8 := Lib.hid hO.sai
    have HY8 := Lib.hid hy
    have HB8 := Lib.hid (HB4.out.trans (hb8.mono HB4.out.size))
    clear hO hy hb8
    go_wp2_with (refine wpList_store_row rfl 32 (.tmp 1) (.tmp 14) rfl w8.heap.size (saiA y p') rfl rfl 32 _ (Blk.new w8 #[.int .i64 0, .int .i64 0, .slice none 0 0, .slice none 0 0, .slice none 0 0, .int .i64 0, .int .i64 0, .slice none 0 0, .int .i64 0, .int .i64 0, .int .i64 0, .slice none 0 0, .bool false] 32) (by kernel_rfl) rfl (by simp [Value.oneCell']) ?_)
    go_meet
    have hbe : Below w8.heap.size w8 ((w8.alloc (.cells #[.int .i64 0, .int .i64 0, .slice none 0 0, .slice none 0 0, .slice none 0 0, .int .i64 0, .int .i64 0, .slice none 0 0, .int .i64 0, .int .i64 0, .int .i64 0, .slice none 0 0, .bool false] 32)).setRow w8.heap.size (saiA y p')) := below_setRow (bel1 w8 _) (Nat.le_refl _) _
    exact ⟨rfl, ⟨_, y, p', rfl, (Blk.new w8 _ _).row _, HY8.out, HO8.out.bel hbe⟩, HB8.out.trans (hbe.mono HB8.out.size)⟩
  obtain ⟨rfl, ⟨z1, y1, p1, rfl, hZ1, hy1, hS1⟩, hbn⟩ := hcut
  obtain ⟨V1, hV1⟩ : ∃ V, V = wc := ⟨_, rfl⟩
  subst hV1
  have HZ1 := Lib.hid hZ1
  have HS1 := Lib.hid hS1
  have HY1 := Lib.hid hy1
  have hb := HB.out.trans (hbn.mono HB.out.size)
  have HB := Lib.hid hb
  clear hZ1 hS1 hy1 hb
  go_upto_region 2 with (fail)
  go_cut [3, 4] (fun q e wx => e = .int .i64 0 ∧ (∃ z y p', q = .pointer (some ⟨z, 0, none⟩) ∧ Blk wx z (saiA y p') 32 ∧ y = okS 0 payC ∧ SaiR wx y p') ∧ Below V1.heap.size V1 wx)
  case first =>
    go_wp2_with fail
    refine (cruise_any _).mono ?_
    rintro e w4 ⟨p4, rfl, hS4, hb4⟩
    have HC := Lib.hid (HC2.out p4 _ hS4)
    have HB4 := Lib.hid hb4
    clear hS4 hb4
    go_wp2_with fail
    refine HC.out.mono ?_
    rintro e w8 ⟨⟨y, p', rfl, hy, hO⟩, hb8⟩
    have HO8 := Lib.hid hO.sai
    have HY8 := Lib.hid hy
    have HB8 := Lib.hid (HB4.out.trans (hb8.mono HB4.out.size))
    clear hO hy hb8
    go_wp2_with (refine wpList_store_row rfl 32 (.tmp 3) (.tmp 19) rfl w8.heap.size (saiA y p') rfl rfl 32 _ (Blk.new w8 #[.int .i64 0, .int .i64 0, .slice none 0 0, .slice none 0 0, .slice none 0 0, .int .i64 0, .int .i64 0, .slice none 0 0, .int .i64 0, .int .i64 0, .int .i64 0, .slice none 0 0, .bool false] 32) (by kernel_rfl) rfl (by simp [Value.oneCell']) ?_)
    go_meet
    have hbe : Below w8.heap.size w8 ((w8.alloc (.cells #[.int .i64 0, .int .i64 0, .slice none 0 0, .slice none 0 0, .slice none 0 0, .int .i64 0, .int .i64 0, .slice none 0 0, .int .i64 0, .int .i64 0, .int .i64 0, .slice none 0 0, .bool false] 32)).setRow w8.heap.size (saiA y p')) := below_setRow (bel1 w8 _) (Nat.le_refl _) _
    exact ⟨rfl, ⟨_, y, p', rfl, (Blk.new w8 _ _).row _, HY8.out, HO8.out.bel hbe⟩, HB8.out.trans (hbe.mono HB8.out.size)⟩
  obtain ⟨rfl, ⟨z2, y2, p2, rfl, hZ2, hy2, hS2⟩, hbn⟩ := hcut
  obtain ⟨V2, hV2⟩ : ∃ V, V = wc := ⟨_, rfl⟩
  subst hV2
  have HZ2 := Lib.hid hZ2
  have HS2 := Lib.hid hS2
  have HY2 := Lib.hid hy2
  have hb := HB.out.trans (hbn.mono HB.out.size)
  have HB := Lib.hid hb
  clear hZ2 hS2 hy2 hb
  replace HZ1 := Lib.hid (HZ1.out.bel hbn)
  replace HS1 := Lib.hid (HS1.out.bel hbn)
  clear hbn
  obtain rfl : y2 = payC := HY2.out
  go_upto_region 3 with (fail)
  go_cut [5, 6] (fun q e wx => e = .int .i64 0 ∧ (∃ z y p', q = .pointer (some ⟨z, 0, none⟩) ∧ Blk wx z (saiA y p') 32 ∧ y = okS 0 (goneX payC 7) ∧ SaiR wx y p') ∧ Below V2.heap.size V2 wx)
  case first =>
    have HC := Lib.hid (HC3.out p2 _ HS2.out)
    have HB4 := Lib.hid (Below.refl V2.heap.size V2)
    go_wp2_with (refine wpList_load_row rfl 32 (.tmp 3) rfl z2 rfl 32 _ (0, 0) _ HZ2.out Tryz.underlying32 rfl (by kernel_rfl) ?_)
    go_wp2_with fail
    refine HC.out.mono ?_
    rintro e w8 ⟨⟨y, p', rfl, hy, hO⟩, hb8⟩
    have HO8 := Lib.hid hO.sai
    have HY8 := Lib.hid hy
    have HB8 := Lib.hid (HB4.out.trans (hb8.mono HB4.out.size))
    clear hO hy hb8
    go_wp2_with (refine wpList_store_row rfl 32 (.tmp 5) (.tmp 24) rfl w8.heap.size (saiA y p') rfl rfl 32 _ (Blk.new w8 #[.int .i64 0, .int .i64 0, .slice none 0 0, .slice none 0 0, .slice none 0 0, .int .i64 0, .int .i64 0, .slice none 0 0, .int .i64 0, .int .i64 0, .int .i64 0, .slice none 0 0, .bool false] 32) (by kernel_rfl) rfl (by simp [Value.oneCell']) ?_)
    go_meet
    have hbe : Below w8.heap.size w8 ((w8.alloc (.cells #[.int .i64 0, .int .i64 0, .slice none 0 0, .slice none 0 0, .slice none 0 0, .int .i64 0, .int .i64 0, .slice none 0 0, .int .i64 0, .int .i64 0, .int .i64 0, .slice none 0 0, .bool false] 32)).setRow w8.heap.size (saiA y p')) := below_setRow (bel1 w8 _) (Nat.le_refl _) _
    exact ⟨rfl, ⟨_, y, p', rfl, (Blk.new w8 _ _).row _, HY8.out, HO8.out.bel hbe⟩, HB8.out.trans (hbe.mono HB8.out.size)⟩
  obtain ⟨rfl, ⟨z3, y3, p3, rfl, hZ3, hy3, hS3⟩, hbn⟩ := hcut
  obtain ⟨V3, hV3⟩ : ∃ V, V = wc := ⟨_, rfl⟩
  subst hV3
  replace HZ1 := Lib.hid (HZ1.out.bel hbn)
  replace HS1 := Lib.hid (HS1.out.bel hbn)
  replace HZ2 := Lib.hid (HZ2.out.bel hbn)
  replace HS2 := Lib.hid (HS2.out.bel hbn)
  have HZ3 := Lib.hid hZ3
  have HS3 := Lib.hid hS3
  have HY3 := Lib.hid hy3
  have hb := HB.out.trans (hbn.mono HB.out.size)
  have HB := Lib.hid hb
  clear hZ3 hS3 hy3 hb hbn
  go_upto_region 4 with (fail)
  go_cut [7, 8] (fun q e wx => e = .int .i64 4 ∧ (∃ z y p', q = .pointer (some ⟨z, 0, none⟩) ∧ Blk wx z (saiA y p') 32 ∧ y = okS 4 (moveX cruiseX 9 0) ∧ SaiR wx y p') ∧ Below V3.heap.size V3 wx)
  case first =>
    go_wp2_with fail
    refine (cruise_any _).mono ?_
    rintro e w4 ⟨p4, rfl, hS4, hb4⟩
    have HC := Lib.hid (HC4.out p4 _ hS4)
    have HB4 := Lib.hid hb4
    clear hS4 hb4
    go_wp2_with fail
    refine HC.out.mono ?_
    rintro e w8 ⟨⟨y, p', rfl, hy, hO⟩, hb8⟩
    have HO8 := Lib.hid hO.sai
    have HY8 := Lib.hid hy
    have HB8 := Lib.hid (HB4.out.trans (hb8.mono HB4.out.size))
    clear hO hy hb8
    go_wp2_with (refine wpList_store_row rfl 32 (.tmp 7) (.tmp 29) rfl w8.heap.size (saiA y p') rfl rfl 32 _ (Blk.new w8 #[.int .i64 0, .int .i64 0, .slice none 0 0, .slice none 0 0, .slice none 0 0, .int .i64 0, .int .i64 0, .slice none 0 0, .int .i64 0, .int .i64 0, .int .i64 0, .slice none 0 0, .bool false] 32) (by kernel_rfl) rfl (by simp [Value.oneCell']) ?_)
    go_meet
    have hbe : Below w8.heap.size w8 ((w8.alloc (.cells #[.int .i64 0, .int .i64 0, .slice none 0 0, .slice none 0 0, .slice none 0 0, .int .i64 0, .int .i64 0, .slice none 0 0, .int .i64 0, .int .i64 0, .int .i64 0, .slice none 0 0, .bool false] 32)).setRow w8.heap.size (saiA y p')) := below_setRow (bel1 w8 _) (Nat.le_refl _) _
    exact ⟨rfl, ⟨_, y, p', rfl, (Blk.new w8 _ _).row _, HY8.out, HO8.out.bel hbe⟩, HB8.out.trans (hbe.mono HB8.out.size)⟩
  obtain ⟨rfl, ⟨z4, y4, p4, rfl, hZ4, hy4, hS4⟩, hbn⟩ := hcut
  obtain ⟨V4, hV4⟩ : ∃ V, V = wc := ⟨_, rfl⟩
  subst hV4
  have HZ4 := Lib.hid hZ4
  have HS4 := Lib.hid hS4
  have HY4 := Lib.hid hy4
  have hb := HB.out.trans (hbn.mono HB.out.size)
  have HB := Lib.hid hb
  clear hZ4 hS4 hy4 hb
  replace HZ1 := Lib.hid (HZ1.out.bel hbn)
  replace HS1 := Lib.hid (HS1.out.bel hbn)
  replace HZ2 := Lib.hid (HZ2.out.bel hbn)
  replace HS2 := Lib.hid (HS2.out.bel hbn)
  replace HZ3 := Lib.hid (HZ3.out.bel hbn)
  replace HS3 := Lib.hid (HS3.out.bel hbn)
  clear hbn
  go_upto_region 5 with (fail)
  go_cut [9, 10] (fun q e wx => e = .int .i64 4 ∧ (∃ z y p', q = .pointer (some ⟨z, 0, none⟩) ∧ Blk wx z (saiA y p') 32 ∧ y = okS 4 (moveX cruiseX 7 0) ∧ SaiR wx y p') ∧ Below V4.heap.size V4 wx)
  case first =>
    go_wp2_with fail
    refine (cruise_any _).mono ?_
    rintro e w4 ⟨p4, rfl, hS4, hb4⟩
    have HC := Lib.hid (HC5.out p4 _ hS4)
    have HB4 := Lib.hid hb4
    clear hS4 hb4
    go_wp2_with fail
    refine HC.out.mono ?_
    rintro e w8 ⟨⟨y, p', rfl, hy, hO⟩, hb8⟩
    have HO8 := Lib.hid hO.sai
    have HY8 := Lib.hid hy
    have HB8 := Lib.hid (HB4.out.trans (hb8.mono HB4.out.size))
    clear hO hy hb8
    go_wp2_with (refine wpList_store_row rfl 32 (.tmp 9) (.tmp 34) rfl w8.heap.size (saiA y p') rfl rfl 32 _ (Blk.new w8 #[.int .i64 0, .int .i64 0, .slice none 0 0, .slice none 0 0, .slice none 0 0, .int .i64 0, .int .i64 0, .slice none 0 0, .int .i64 0, .int .i64 0, .int .i64 0, .slice none 0 0, .bool false] 32) (by kernel_rfl) rfl (by simp [Value.oneCell']) ?_)
    go_meet
    have hbe : Below w8.heap.size w8 ((w8.alloc (.cells #[.int .i64 0, .int .i64 0, .slice none 0 0, .slice none 0 0, .slice none 0 0, .int .i64 0, .int .i64 0, .slice none 0 0, .int .i64 0, .int .i64 0, .int .i64 0, .slice none 0 0, .bool false] 32)).setRow w8.heap.size (saiA y p')) := below_setRow (bel1 w8 _) (Nat.le_refl _) _
    exact ⟨rfl, ⟨_, y, p', rfl, (Blk.new w8 _ _).row _, HY8.out, HO8.out.bel hbe⟩, HB8.out.trans (hbe.mono HB8.out.size)⟩
  obtain ⟨rfl, ⟨z5, y5, p5, rfl, hZ5, hy5, hS5⟩, hbn⟩ := hcut
  obtain ⟨V5, hV5⟩ : ∃ V, V = wc := ⟨_, rfl⟩
  subst hV5
  have HZ5 := Lib.hid hZ5
  have HS5 := Lib.hid hS5
  have HY5 := Lib.hid hy5
  have hb := HB.out.trans (hbn.mono HB.out.size)
  have HB := Lib.hid hb
  clear hZ5 hS5 hy5 hb
  replace HZ1 := Lib.hid (HZ1.out.bel hbn)
  replace HS1 := Lib.hid (HS1.out.bel hbn)
  replace HZ2 := Lib.hid (HZ2.out.bel hbn)
  replace HS2 := Lib.hid (HS2.out.bel hbn)
  replace HZ3 := Lib.hid (HZ3.out.bel hbn)
  replace HS3 := Lib.hid (HS3.out.bel hbn)
  clear hbn HC1 HC2 HC3 HC4 HC5
  obtain rfl : y1 = sureX cruiseX 9 := HY1.out
  obtain rfl : y3 = goneX payC 7 := HY3.out
  obtain ⟨A1, o1, D1, n1, m1, hA1, hl1, hc1, _, _⟩ := HS1.out.bk (k := 1) (b := sureB promisedF) (by kernel_rfl)
  obtain ⟨A2, o2, D2, n2, m2, hA2, hl2, hc2, hF2, _⟩ := HS2.out.bk (k := 0) (b := paidB cruiseX namedF 200) (by kernel_rfl)
  obtain ⟨A3, o3, D3, n3, m3, hA3, hl3, hc3, hF3, _⟩ := HS3.out.bk (k := 0) (b := goneB payC (paidB cruiseX namedF 200) 2) (by kernel_rfl)
  have a11 : V5.cell? ⟨z1, 11, none⟩ = some (.slice (some ⟨A1, o1, none⟩) 2 p1.cb) := by have : V5.cell? ⟨z1, 11, none⟩ = some (.slice p1.C p1.nb p1.cb) := HZ1.out.cell rfl; rw [hA1, show p1.nb = 2 from hl1.symm] at this; exact this
  have b11 : V5.cell? ⟨z2, 11, none⟩ = some (.slice (some ⟨A2, o2, none⟩) 2 p2.cb) := by have : V5.cell? ⟨z2, 11, none⟩ = some (.slice p2.C p2.nb p2.cb) := HZ2.out.cell rfl; rw [hA2, show p2.nb = 2 from hl2.symm] at this; exact this
  have c11 : V5.cell? ⟨z3, 11, none⟩ = some (.slice (some ⟨A3, o3, none⟩) 2 p3.cb) := by have : V5.cell? ⟨z3, 11, none⟩ = some (.slice p3.C p3.nb p3.cb) := HZ3.out.cell rfl; rw [hA3, show p3.nb = 2 from hl3.symm] at this; exact this
  have a2 : V5.cell? ⟨A1, o1 + 11 + 2, none⟩ = some (.int .i64 2) := hc1 2 _ rfl
  have b10 : V5.cell? ⟨A2, o2 + 10, none⟩ = some (.slice D2 2 m2) := by have := hc2 10 _ rfl; rw [show n2 = 2 from hF2.len.symm] at this; simpa using this
  have c2 : V5.cell? ⟨A3, o3 + 2, none⟩ = some (.int .i64 3) := by have : V5.cell? ⟨A3, o3 + 0 * 11 + 2, none⟩ = some (.int .i64 3) := hc3 2 _ rfl; simpa using this
  have c10 : V5.cell? ⟨A3, o3 + 10, none⟩ = some (.slice D3 4 m3) := by have := hc3 10 _ rfl; rw [show n3 = 4 from hF3.len.symm.trans (by decide)] at this; simpa using this
  clear hA1 hl1 hc1 hA2 hl2 hc2 hF2 hA3 hl3 hc3 hF3
  go_wp2_with fail
  go_ret
  exact ⟨rfl, HB.out⟩
end Go.Proofs.YtoilcdgpeilgaaaGreat
