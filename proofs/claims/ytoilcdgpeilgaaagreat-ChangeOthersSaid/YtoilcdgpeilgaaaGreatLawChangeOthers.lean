/-
  The law ChangeOthers returns true, whatever it is handed, and changes nothing that was there.
-/
import Derived.Test.YtoilcdgpeilgaaaGreatBun0
import Derived.Test.YtoilcdgpeilgaaaGreatBun35
import Derived.Test.YtoilcdgpeilgaaaGreatBun39
import Derived.BigQuiet
set_option linter.unusedSimpArgs false
set_option linter.unusedVariables false
namespace Go.Proofs.YtoilcdgpeilgaaaGreat
open Go.ChangeShapes Go.WideShapes Go.ChangeAt Go.RowKit Go.Shelf

/-- What was changed: a booking of that number, in a sailing that was right, and is. -/
def Changed (x : Sai) (t : Int) (X : Sai) : Prop := saiE X = 0 ∧ ∃ (k : Nat) (b b' : Bkg), x.bks[k]? = some b ∧ b.id = t ∧ b'.id = t ∧ X = setS x k b' ∧ saiE x = 0
theorem changed_others {x X : Sai} {t : Int} (h : Changed x t X) : ∃ l, X = bksS x l ∧ Others x l t ∧ l.length = x.bks.length ∧ l.length ≤ 16 := by
  obtain ⟨h0, k, b, b', hb, h1, h2, rfl, hx⟩ := h
  have ho := sai_ok hx
  have hr := rise_set (rise_of ho.bs.rise) hb (show b'.id = b.id by rw [h1, h2])
  refine ⟨x.bks.set k b', rfl, fun i c hc hne => ?_, List.length_set, by rw [List.length_set]; exact ho.bs.len⟩
  have hik : ¬ k = i := fun e => by subst e; rw [hb] at hc; injection hc with hc; subst hc; exact hne h1
  have hc2 : (x.bks.set k b')[i]? = some c := by rw [List.getElem?_set_ne hik]; exact hc
  exact ⟨i, at_mem hr hc2, hc2⟩
theorem sai13 {w : World} {b o : Nat} {x : Sai} {p : SaiV} (h : w.rangeAt b o (saiA x p).toList) : w.cell? ⟨b, o, none⟩ = some (.int .i64 x.ship.legs) ∧ w.cell? ⟨b, o + 1, none⟩ = some (.int .i64 x.ship.souls) ∧ w.cell? ⟨b, o + 2, none⟩ = some (.slice p.A p.n p.cap) ∧ w.cell? ⟨b, o + 3, none⟩ = some (.slice p.B p.m p.cap2) ∧
    w.cell? ⟨b, o + 4, none⟩ = some (.slice p.D p.nd p.cd) ∧ w.cell? ⟨b, o + 5, none⟩ = some (.int .i64 x.fares.alone) ∧ w.cell? ⟨b, o + 6, none⟩ = some (.int .i64 x.fares.third) ∧ w.cell? ⟨b, o + 7, none⟩ = some (.slice p.E p.ne p.ce) ∧ w.cell? ⟨b, o + 8, none⟩ = some (.int .i64 x.fares.down) ∧
    w.cell? ⟨b, o + 9, none⟩ = some (.int .i64 x.day) ∧ w.cell? ⟨b, o + 10, none⟩ = some (.int .i64 x.leaves) ∧ w.cell? ⟨b, o + 11, none⟩ = some (.slice p.C p.nb p.cb) ∧ w.cell? ⟨b, o + 12, none⟩ = some (.bool x.closed) :=
  ⟨h 0 _ rfl, h 1 _ rfl, h 2 _ rfl, h 3 _ rfl, h 4 _ rfl, h 5 _ rfl, h 6 _ rfl, h 7 _ rfl, h 8 _ rfl, h 9 _ rfl, h 10 _ rfl, h 11 _ rfl, h 12 _ rfl⟩
theorem row4 {w : World} {q : Nat} {t : TypeId} {a b c d : List Value} (ha : a.length = 13) (hb : b.length = 13) (hc : c.length = 13) (hd : d.length = 13) (h : Blk w q (a ++ b ++ c ++ d).toArray t) :
    w.rangeAt q (0 * 13) a ∧ w.rangeAt q (1 * 13) b ∧ w.rangeAt q (2 * 13) c ∧ w.rangeAt q (3 * 13) d := by
  refine ⟨fun j u hu => h.cell ?_, fun j u hu => h.cell ?_, fun j u hu => h.cell ?_, fun j u hu => h.cell ?_⟩ <;>
    (have hj := (List.getElem?_eq_some_iff.1 hu).1; simp only [List.getElem?_toArray])
  · rw [List.getElem?_append_left (by simp; omega), List.getElem?_append_left (by simp; omega), List.getElem?_append_left (by omega)]; simpa using hu
  · rw [List.getElem?_append_left (by simp; omega), List.getElem?_append_left (by simp; omega), List.getElem?_append_right (by omega)]; rw [← hu]; congr 1; omega
  · rw [List.getElem?_append_left (by simp; omega), List.getElem?_append_right (by simp; omega)]; rw [← hu]; congr 1; simp; omega
  · rw [List.getElem?_append_right (by simp; omega)]; rw [← hu]; congr 1; simp; omega
set_option maxRecDepth 100000 in
set_option maxHeartbeats 20000000 in
theorem ChangeOthers_walk (W : World) (cs0 : Array Value) (x : Sai) (hx0 : saiC W All x cs0.toList) (id : Int) (iid : InI id) (am : Int) (iam : InI am) (cbn : Int) (icb : InI cbn) :
    Calls Tryz.prog 7 #[.agg cs0, .int .i64 id, .int .i64 am, .int .i64 cbn] W fun e w' => e = .returned (.bool true) ∧ Below W.heap.size W w' := by
  obtain ⟨p, rfl, hS, i1, i2, _, _⟩ := sai_in hx0
  have HP1 := Lib.hid (fun X hX => Sure_any x p id X hX iid)
  have HP2 := Lib.hid (fun X hX => Pay_any x p id am X hX iid iam)
  have HP3 := Lib.hid (fun X hX => CancelS_any x p id X hX iid)
  have HP4 := Lib.hid (fun X hX => Move_any x p id cbn X hX iid icb)
  obtain ⟨e1, he1⟩ : ∃ r, r = sureEx x id := ⟨_, rfl⟩
  obtain ⟨e2, he2⟩ : ∃ r, r = paidEx x id am := ⟨_, rfl⟩
  obtain ⟨e3, he3⟩ : ∃ r, r = goneEx x id := ⟨_, rfl⟩
  obtain ⟨e4, he4⟩ : ∃ r, r = moveEx x id cbn := ⟨_, rfl⟩
  obtain ⟨X1, hX1⟩ : ∃ r, r = sureX x id := ⟨_, rfl⟩
  obtain ⟨X2, hX2⟩ : ∃ r, r = paidX x id am := ⟨_, rfl⟩
  obtain ⟨X3, hX3⟩ : ∃ r, r = goneX x id := ⟨_, rfl⟩
  obtain ⟨X4, hX4⟩ : ∃ r, r = moveX x id cbn := ⟨_, rfl⟩
  have HD1 := Lib.hid (show e1 = 0 → Changed x id X1 from fun q => by rw [hX1]; exact sure_right (he1.symm.trans q))
  have HD2 := Lib.hid (show e2 = 0 → Changed x id X2 from fun q => by rw [hX2]; exact paid_right (he2.symm.trans q))
  have HD3 := Lib.hid (show e3 = 0 → Changed x id X3 from fun q => by rw [hX3]; exact gone_right (he3.symm.trans q))
  have HD4 := Lib.hid (show e4 = 0 → Changed x id X4 from fun q => by rw [hX4]; exact move_right (he4.symm.trans q))
  have HLN := Lib.hid (show x.bks.length = p.nb from hS.bks.len)
  rw [← he1, ← hX1] at HP1
  rw [← he2, ← hX2] at HP2
  rw [← he3, ← hX3] at HP3
  rw [← he4, ← hX4] at HP4
  have HS := Lib.hid hS
  clear he1 he2 he3 he4 hX1 hX2 hX3 hX4 hS hx0 i1 i2 iid iam icb
  obtain ⟨A, n, cap, B, m, cap2, D, nd, cd, E, ne, ce, C, nb, cb⟩ := p
  go_enter Tryz.func7, Tryz.ntmps7
  go_upto_region 0 with (fail)
  go_cut [4, 8] (fun p _ wx => ∃ g, p = .pointer (some ⟨g, 0, none⟩) ∧ Blk wx g (saiA x ⟨A, n, cap, B, m, cap2, D, nd, cd, E, ne, ce, C, nb, cb⟩) 32 ∧ Below W.heap.size W wx)
  case first => as_aux_lemma =>
    go_wp2_with fail
    go_meet
    exact ⟨_, rfl, blk1 _ _, bel1 _ _⟩
  obtain ⟨g, rfl, hG, hb0⟩ := hcut
  obtain ⟨W0, hW0⟩ : ∃ V, V = wc := ⟨_, rfl⟩
  subst hW0
  have HT := Lib.hid (fun X (hX : Below W0.heap.size W0 X) => hb0.trans (hX.mono hb0.size))
  have HG := Lib.hid (fun X (hX : Below W0.heap.size W0 X) => hG.bel hX)
  have HSX := Lib.hid (fun X (hX : Below W0.heap.size W0 X) => HS.out.bel (HT.out X hX))
  clear hG hb0
  go_wp2_with fail
  refine (changeBegun_any _).mono ?_
  rintro e v1 ⟨rfl, hb⟩
  go_wp2_with fail
  refine (stockBegun_any _).mono ?_
  rintro e v2 ⟨rfl, hb2⟩
  replace hb := hb.trans (hb2.mono hb.size)
  clear hb2
  go_upto_region 3 with (fail)
  go_cut [9, 10] (fun q e wx => e = .int .i64 e1 ∧ (∃ z y p', q = .pointer (some ⟨z, 0, none⟩) ∧ Blk wx z (saiA y p') 32 ∧ y = okS e1 X1 ∧ SaiR wx y p') ∧ Below v2.heap.size v2 wx)
  case first =>
    have HC := Lib.hid (HP1.out _ (HSX.out _ hb))
    have HB4 := Lib.hid (Below.refl v2.heap.size v2)
    go_wp2_with (refine wpList_load_row rfl 32 (.tmp 4) rfl g rfl 32 _ (0, 0) _ (HG.out _ hb) Tryz.underlying32 rfl (by kernel_rfl) ?_)
    go_wp2_with fail
    refine HC.out.mono ?_
    rintro e w8 ⟨⟨y, p', rfl, hy, hO⟩, hb8⟩
    have HO8 := Lib.hid hO.sai
    have HY8 := Lib.hid hy
    have HB8 := Lib.hid (HB4.out.trans (hb8.mono HB4.out.size))
    clear hO hy hb8
    go_wp2_with (refine wpList_store_row rfl 32 (.tmp 9) (.tmp 30) rfl w8.heap.size (saiA y p') rfl rfl 32 _ (Blk.new w8 #[.int .i64 0, .int .i64 0, .slice none 0 0, .slice none 0 0, .slice none 0 0, .int .i64 0, .int .i64 0, .slice none 0 0, .int .i64 0, .int .i64 0, .int .i64 0, .slice none 0 0, .bool false] 32) (by kernel_rfl) rfl (by simp [Value.oneCell']) ?_)
    go_meet
    have hbe : Below w8.heap.size w8 ((w8.alloc (.cells #[.int .i64 0, .int .i64 0, .slice none 0 0, .slice none 0 0, .slice none 0 0, .int .i64 0, .int .i64 0, .slice none 0 0, .int .i64 0, .int .i64 0, .int .i64 0, .slice none 0 0, .bool false] 32)).setRow w8.heap.size (saiA y p')) := below_setRow (bel1 w8 _) (Nat.le_refl _) _
    exact ⟨rfl, ⟨_, y, p', rfl, (Blk.new w8 _ _).row _, HY8.out, HO8.out.bel hbe⟩, HB8.out.trans (hbe.mono HB8.out.size)⟩
  obtain ⟨rfl, ⟨z1, y1, p1, rfl, hZ1, hy1, hS1⟩, hbn⟩ := hcut
  obtain ⟨W1, hW1⟩ : ∃ V, V = wc := ⟨_, rfl⟩
  subst hW1
  have HZ1 := Lib.hid hZ1
  have HS1 := Lib.hid hS1
  have HY1 := Lib.hid hy1
  replace hb := hb.trans (hbn.mono hb.size)
  clear hZ1 hS1 hy1
  clear hbn
  go_upto_region 4 with (fail)
  go_cut [11, 12] (fun q e wx => e = .int .i64 e2 ∧ (∃ z y p', q = .pointer (some ⟨z, 0, none⟩) ∧ Blk wx z (saiA y p') 32 ∧ y = okS e2 X2 ∧ SaiR wx y p') ∧ Below W1.heap.size W1 wx)
  case first =>
    have HC := Lib.hid (HP2.out _ (HSX.out _ hb))
    have HB4 := Lib.hid (Below.refl W1.heap.size W1)
    go_wp2_with (refine wpList_load_row rfl 32 (.tmp 4) rfl g rfl 32 _ (0, 0) _ (HG.out _ hb) Tryz.underlying32 rfl (by kernel_rfl) ?_)
    go_wp2_with fail
    refine HC.out.mono ?_
    rintro e w8 ⟨⟨y, p', rfl, hy, hO⟩, hb8⟩
    have HO8 := Lib.hid hO.sai
    have HY8 := Lib.hid hy
    have HB8 := Lib.hid (HB4.out.trans (hb8.mono HB4.out.size))
    clear hO hy hb8
    go_wp2_with (refine wpList_store_row rfl 32 (.tmp 11) (.tmp 37) rfl w8.heap.size (saiA y p') rfl rfl 32 _ (Blk.new w8 #[.int .i64 0, .int .i64 0, .slice none 0 0, .slice none 0 0, .slice none 0 0, .int .i64 0, .int .i64 0, .slice none 0 0, .int .i64 0, .int .i64 0, .int .i64 0, .slice none 0 0, .bool false] 32) (by kernel_rfl) rfl (by simp [Value.oneCell']) ?_)
    go_meet
    have hbe : Below w8.heap.size w8 ((w8.alloc (.cells #[.int .i64 0, .int .i64 0, .slice none 0 0, .slice none 0 0, .slice none 0 0, .int .i64 0, .int .i64 0, .slice none 0 0, .int .i64 0, .int .i64 0, .int .i64 0, .slice none 0 0, .bool false] 32)).setRow w8.heap.size (saiA y p')) := below_setRow (bel1 w8 _) (Nat.le_refl _) _
    exact ⟨rfl, ⟨_, y, p', rfl, (Blk.new w8 _ _).row _, HY8.out, HO8.out.bel hbe⟩, HB8.out.trans (hbe.mono HB8.out.size)⟩
  obtain ⟨rfl, ⟨z2, y2, p2, rfl, hZ2, hy2, hS2⟩, hbn⟩ := hcut
  obtain ⟨W2, hW2⟩ : ∃ V, V = wc := ⟨_, rfl⟩
  subst hW2
  have HZ2 := Lib.hid hZ2
  have HS2 := Lib.hid hS2
  have HY2 := Lib.hid hy2
  replace hb := hb.trans (hbn.mono hb.size)
  clear hZ2 hS2 hy2
  replace HZ1 := Lib.hid (HZ1.out.bel hbn)
  replace HS1 := Lib.hid (HS1.out.bel hbn)
  clear hbn
  go_upto_region 5 with (fail)
  go_cut [13, 14] (fun q e wx => e = .int .i64 e3 ∧ (∃ z y p', q = .pointer (some ⟨z, 0, none⟩) ∧ Blk wx z (saiA y p') 32 ∧ y = okS e3 X3 ∧ SaiR wx y p') ∧ Below W2.heap.size W2 wx)
  case first =>
    have HC := Lib.hid (HP3.out _ (HSX.out _ hb))
    have HB4 := Lib.hid (Below.refl W2.heap.size W2)
    go_wp2_with (refine wpList_load_row rfl 32 (.tmp 4) rfl g rfl 32 _ (0, 0) _ (HG.out _ hb) Tryz.underlying32 rfl (by kernel_rfl) ?_)
    go_wp2_with fail
    refine HC.out.mono ?_
    rintro e w8 ⟨⟨y, p', rfl, hy, hO⟩, hb8⟩
    have HO8 := Lib.hid hO.sai
    have HY8 := Lib.hid hy
    have HB8 := Lib.hid (HB4.out.trans (hb8.mono HB4.out.size))
    clear hO hy hb8
    go_wp2_with (refine wpList_store_row rfl 32 (.tmp 13) (.tmp 43) rfl w8.heap.size (saiA y p') rfl rfl 32 _ (Blk.new w8 #[.int .i64 0, .int .i64 0, .slice none 0 0, .slice none 0 0, .slice none 0 0, .int .i64 0, .int .i64 0, .slice none 0 0, .int .i64 0, .int .i64 0, .int .i64 0, .slice none 0 0, .bool false] 32) (by kernel_rfl) rfl (by simp [Value.oneCell']) ?_)
    go_meet
    have hbe : Below w8.heap.size w8 ((w8.alloc (.cells #[.int .i64 0, .int .i64 0, .slice none 0 0, .slice none 0 0, .slice none 0 0, .int .i64 0, .int .i64 0, .slice none 0 0, .int .i64 0, .int .i64 0, .int .i64 0, .slice none 0 0, .bool false] 32)).setRow w8.heap.size (saiA y p')) := below_setRow (bel1 w8 _) (Nat.le_refl _) _
    exact ⟨rfl, ⟨_, y, p', rfl, (Blk.new w8 _ _).row _, HY8.out, HO8.out.bel hbe⟩, HB8.out.trans (hbe.mono HB8.out.size)⟩
  obtain ⟨rfl, ⟨z3, y3, p3, rfl, hZ3, hy3, hS3⟩, hbn⟩ := hcut
  obtain ⟨W3, hW3⟩ : ∃ V, V = wc := ⟨_, rfl⟩
  subst hW3
  have HZ3 := Lib.hid hZ3
  have HS3 := Lib.hid hS3
  have HY3 := Lib.hid hy3
  replace hb := hb.trans (hbn.mono hb.size)
  clear hZ3 hS3 hy3
  replace HZ1 := Lib.hid (HZ1.out.bel hbn)
  replace HS1 := Lib.hid (HS1.out.bel hbn)
  replace HZ2 := Lib.hid (HZ2.out.bel hbn)
  replace HS2 := Lib.hid (HS2.out.bel hbn)
  clear hbn
  go_upto_region 6 with (fail)
  go_cut [15, 16] (fun q e wx => e = .int .i64 e4 ∧ (∃ z y p', q = .pointer (some ⟨z, 0, none⟩) ∧ Blk wx z (saiA y p') 32 ∧ y = okS e4 X4 ∧ SaiR wx y p') ∧ Below W3.heap.size W3 wx)
  case first =>
    have HC := Lib.hid (HP4.out _ (HSX.out _ hb))
    have HB4 := Lib.hid (Below.refl W3.heap.size W3)
    go_wp2_with (refine wpList_load_row rfl 32 (.tmp 4) rfl g rfl 32 _ (0, 0) _ (HG.out _ hb) Tryz.underlying32 rfl (by kernel_rfl) ?_)
    go_wp2_with fail
    refine HC.out.mono ?_
    rintro e w8 ⟨⟨y, p', rfl, hy, hO⟩, hb8⟩
    have HO8 := Lib.hid hO.sai
    have HY8 := Lib.hid hy
    have HB8 := Lib.hid (HB4.out.trans (hb8.mono HB4.out.size))
    clear hO hy hb8
    go_wp2_with (refine wpList_store_row rfl 32 (.tmp 15) (.tmp 50) rfl w8.heap.size (saiA y p') rfl rfl 32 _ (Blk.new w8 #[.int .i64 0, .int .i64 0, .slice none 0 0, .slice none 0 0, .slice none 0 0, .int .i64 0, .int .i64 0, .slice none 0 0, .int .i64 0, .int .i64 0, .int .i64 0, .slice none 0 0, .bool false] 32) (by kernel_rfl) rfl (by simp [Value.oneCell']) ?_)
    go_meet
    have hbe : Below w8.heap.size w8 ((w8.alloc (.cells #[.int .i64 0, .int .i64 0, .slice none 0 0, .slice none 0 0, .slice none 0 0, .int .i64 0, .int .i64 0, .slice none 0 0, .int .i64 0, .int .i64 0, .int .i64 0, .slice none 0 0, .bool false] 32)).setRow w8.heap.size (saiA y p')) := below_setRow (bel1 w8 _) (Nat.le_refl _) _
    exact ⟨rfl, ⟨_, y, p', rfl, (Blk.new w8 _ _).row _, HY8.out, HO8.out.bel hbe⟩, HB8.out.trans (hbe.mono HB8.out.size)⟩
  obtain ⟨rfl, ⟨z4, y4, p4, rfl, hZ4, hy4, hS4⟩, hbn⟩ := hcut
  obtain ⟨W4, hW4⟩ : ∃ V, V = wc := ⟨_, rfl⟩
  subst hW4
  have HZ4 := Lib.hid hZ4
  have HS4 := Lib.hid hS4
  have HY4 := Lib.hid hy4
  replace hb := hb.trans (hbn.mono hb.size)
  clear hZ4 hS4 hy4
  replace HZ1 := Lib.hid (HZ1.out.bel hbn)
  replace HS1 := Lib.hid (HS1.out.bel hbn)
  replace HZ2 := Lib.hid (HZ2.out.bel hbn)
  replace HS2 := Lib.hid (HS2.out.bel hbn)
  replace HZ3 := Lib.hid (HZ3.out.bel hbn)
  replace HS3 := Lib.hid (HS3.out.bel hbn)
  clear hbn HP1 HP2 HP3 HP4
  go_upto_region 7 with (fail)
  go_cut [17] (fun p1' wx => ∃ q, p1' = .slice (some ⟨q, 0, none⟩) 4 4 ∧ Blk wx q ((saiA y1 p1).toList ++ (saiA y2 p2).toList ++ (saiA y3 p3).toList ++ (saiA y4 p4).toList).toArray 32 ∧ Below W4.heap.size W4 wx)
  case first =>
    go_wp2_with (first | (refine wpList_load_row rfl 32 (.tmp 9) rfl z1 rfl 32 _ (0, 0) _ HZ1.out Tryz.underlying32 rfl (by kernel_rfl) ?_) | (refine wpList_load_row rfl 32 (.tmp 11) rfl z2 rfl 32 _ (0, 0) _ HZ2.out Tryz.underlying32 rfl (by kernel_rfl) ?_) | (refine wpList_load_row rfl 32 (.tmp 13) rfl z3 rfl 32 _ (0, 0) _ HZ3.out Tryz.underlying32 rfl (by kernel_rfl) ?_) | (refine wpList_load_row rfl 32 (.tmp 15) rfl z4 rfl 32 _ (0, 0) _ HZ4.out Tryz.underlying32 rfl (by kernel_rfl) ?_))
    go_meet
    exact ⟨_, rfl, Blk.new W4 _ _, bel1 W4 _⟩
  obtain ⟨q, rfl, hQ4, hbq⟩ := hcut
  have HQ4 := Lib.hid hQ4
  clear hQ4
  have HBQ := Lib.hid hbq
  clear hbq
  go_upto_region 8 with (fail)
  obtain ⟨W9, hW9⟩ : ∃ V, V = wc := ⟨_, rfl⟩
  subst hW9
  go_cut [18] (fun p1' wx => ∃ r, p1' = .slice (some ⟨r, 0, none⟩) 4 4 ∧ Blk wx r #[.int .i64 e1, .int .i64 e2, .int .i64 e3, .int .i64 e4] 39 ∧ Below W9.heap.size W9 wx)
  case first => as_aux_lemma =>
    go_wp2_with fail
    go_meet
    exact ⟨_, rfl, Blk.new W9 _ _, bel1 W9 _⟩
  obtain ⟨r, rfl, hR, hbr⟩ := hcut
  have hQ := HQ4.out.bel hbr
  have hbn := HBQ.out.trans (hbr.mono HBQ.out.size)
  clear hbr HQ4 HBQ
  obtain ⟨W5, hW5⟩ : ∃ V, V = wc := ⟨_, rfl⟩
  subst hW5
  obtain ⟨r0, r1, r2, r3⟩ := row4 rfl rfl rfl rfl hQ
  have HALL := Lib.hid (show ∀ V, Below W5.heap.size W5 V → ∀ k, k < 4 → ∃ (y X : Sai) (p1 : SaiV) (e : Int), V.rangeAt q (k * 13) (saiA y p1).toList ∧ V.cell? ⟨r, k, none⟩ = some (.int .i64 e) ∧ y = okS e X ∧ SaiR V y p1 ∧ (e = 0 → Changed x id X) from fun V hV k hk => by
    have hV4 := hbn.trans (hV.mono hbn.size)
    rcases k with _ | _ | _ | _ | k
    · exact ⟨y1, X1, p1, e1, fun j u hu => cellB hV (r0 j u hu), (hR.bel hV).cell rfl, HY1.out, HS1.out.bel hV4, HD1.out⟩
    · exact ⟨y2, X2, p2, e2, fun j u hu => cellB hV (r1 j u hu), (hR.bel hV).cell rfl, HY2.out, HS2.out.bel hV4, HD2.out⟩
    · exact ⟨y3, X3, p3, e3, fun j u hu => cellB hV (r2 j u hu), (hR.bel hV).cell rfl, HY3.out, HS3.out.bel hV4, HD3.out⟩
    · exact ⟨y4, X4, p4, e4, fun j u hu => cellB hV (r3 j u hu), (hR.bel hV).cell rfl, HY4.out, HS4.out.bel hV4, HD4.out⟩
    · omega)
  have HB5 := Lib.hid (hb.trans (hbn.mono hb.size))
  clear HZ1 HZ2 HZ3 HZ4 HS1 HS2 HS3 HS4 HY1 HY2 HY3 HY4 HD1 HD2 HD3 HD4 hQ hR hbn r0 r1 r2 r3 hb
  go_wp2_with fail
  go_loopg [19] 4 (fun gk i wr => ∃ k : Nat, k ≤ 4 ∧ 4 - k ≤ gk ∧ i = .int .i64 k ∧ Below W5.heap.size W5 wr)
  case atStart => exact ⟨0, Nat.zero_le _, by omega, rfl, Below.refl _ _⟩
  case round =>
    obtain ⟨k, hk, hgk, rfl, hb5⟩ := hrel
    have hb := HB5.out.trans (hb5.mono HB5.out.size)
    by_cases hlt : k < 4
    · have hk0 : (0 : Int) ≤ (k : Int) := Int.natCast_nonneg _
      have hk1 : (k : Int) < 4 := by omega
      have hk2 : decide ((k : Int) < 4) = true := decide_eq_true hk1
      obtain ⟨y, X, p1, e, hrg, hce, hy, hSY, hch⟩ := HALL.out wr hb5 k hlt
      have q11 : wr.cell? ⟨q, k * 13 + 11, none⟩ = some (.slice p1.C p1.nb p1.cb) := hrg 11 _ rfl
      have hlen : y.bks.length = p1.nb := hSY.bks.len
      by_cases he : e = 0
      rotate_left
      · have he' : (e != 0) = true := by simpa using he
        have hz : p1.nb = 0 := by rw [← hlen, hy, okS_ne he]; rfl
        rw [hz] at q11
        have HB5' := Lib.hid hb5
        clear he hrg hy hSY hch hlen hz hb hb5
        go_wp2_with fail
        go_roundg (4 - (k + 1))
        case measure => omega
        case rel => exact ⟨k + 1, by omega, by omega, by go_num, HB5'.out⟩
      obtain ⟨Aq, nq, capq, Bq, mq, dq, Dq, ndq, cdq, Eq, neq, ceq, Cq, nbq, cbq⟩ := p1
      have hd := hch he
      obtain ⟨l, hXl, hoth, hll, hl16⟩ := changed_others hd
      have hX0 := hd.1
      rw [he, okS_zero] at hy
      subst hy he
      obtain rfl : nb = nbq := by rw [← show y.bks.length = nbq from hlen, hXl, ← HLN.out]; exact hll.symm
      have HXL := Lib.hid hXl
      have HCK := Lib.hid (fun V h => saiCheck_any y ⟨Aq, nq, capq, Bq, mq, dq, Dq, ndq, cdq, Eq, neq, ceq, Cq, nb, cbq⟩ V h)
      rw [hX0] at HCK
      have HOS := Lib.hid (fun V h1 (h2 : SaiR V y ⟨Aq, nq, capq, Bq, mq, dq, Dq, ndq, cdq, Eq, neq, ceq, Cq, nb, cbq⟩) => othersStay_any x l id ⟨A, n, cap, B, m, cap2, D, nd, cd, E, ne, ce, C, nb, cb⟩ ⟨Aq, nq, capq, Bq, mq, dq, Dq, ndq, cdq, Eq, neq, ceq, Cq, nb, cbq⟩ V h1 (by rw [← hXl]; exact h2) hoth (Nat.le_trans hl16 (by decide)))
      rw [← hXl] at HOS
      have HSY := Lib.hid (fun V (hV : Below wr.heap.size wr V) => hSY.bel hV)
      have HSS := Lib.hid (show ∀ V, Below wr.heap.size wr V → (fun w' => (w'.cell? ⟨g, 0, none⟩ = some (.int .i64 x.ship.legs) ∧ w'.cell? ⟨g, 1, none⟩ = some (.int .i64 x.ship.souls) ∧ w'.cell? ⟨g, 2, none⟩ = some (.slice A n cap) ∧ w'.cell? ⟨g, 3, none⟩ = some (.slice B m cap2) ∧ w'.cell? ⟨g, 4, none⟩ = some (.slice D nd cd) ∧ w'.cell? ⟨g, 5, none⟩ = some (.int .i64 x.fares.alone) ∧ w'.cell? ⟨g, 6, none⟩ = some (.int .i64 x.fares.third) ∧ w'.cell? ⟨g, 7, none⟩ = some (.slice E ne ce) ∧ w'.cell? ⟨g, 8, none⟩ = some (.int .i64 x.fares.down) ∧ w'.cell? ⟨g, 9, none⟩ = some (.int .i64 x.day) ∧ w'.cell? ⟨g, 10, none⟩ = some (.int .i64 x.leaves) ∧ w'.cell? ⟨g, 11, none⟩ = some (.slice C nb cb) ∧ w'.cell? ⟨g, 12, none⟩ = some (.bool x.closed)) ∧ (w'.cell? ⟨q, k * 13, none⟩ = some (.int .i64 y.ship.legs) ∧ w'.cell? ⟨q, k * 13 + 1, none⟩ = some (.int .i64 y.ship.souls) ∧ w'.cell? ⟨q, k * 13 + 2, none⟩ = some (.slice Aq nq capq) ∧ w'.cell? ⟨q, k * 13 + 3, none⟩ = some (.slice Bq mq dq) ∧ w'.cell? ⟨q, k * 13 + 4, none⟩ = some (.slice Dq ndq cdq) ∧ w'.cell? ⟨q, k * 13 + 5, none⟩ = some (.int .i64 y.fares.alone) ∧ w'.cell? ⟨q, k * 13 + 6, none⟩ = some (.int .i64 y.fares.third) ∧ w'.cell? ⟨q, k * 13 + 7, none⟩ = some (.slice Eq neq ceq) ∧ w'.cell? ⟨q, k * 13 + 8, none⟩ = some (.int .i64 y.fares.down) ∧ w'.cell? ⟨q, k * 13 + 9, none⟩ = some (.int .i64 y.day) ∧ w'.cell? ⟨q, k * 13 + 10, none⟩ = some (.int .i64 y.leaves) ∧ w'.cell? ⟨q, k * 13 + 11, none⟩ = some (.slice Cq nb cbq) ∧ w'.cell? ⟨q, k * 13 + 12, none⟩ = some (.bool y.closed))) V from fun V hV => ⟨saiCells (HG.out _ (hb.trans (hV.mono hb.size))), sai13 (fun j u hu => cellB hV (hrg j u hu))⟩)
      have HSXX := Lib.hid (fun V (hV : Below wr.heap.size wr V) => HSX.out V (hb.trans (hV.mono hb.size)))
      have HB5' := Lib.hid hb5
      clear hrg hSY hch hd hXl hoth hll hl16 hX0 hlen hb hb5 q11
      obtain ⟨W6, hW6⟩ : ∃ V, V = wr := ⟨_, rfl⟩
      subst hW6
      go_upto_region 15 with (fail)
      have hbx : Below W6.heap.size W6 W6.drew := (Below.refl _ W6).drew
      refine wp_region_held_drew (S := (fun w' => (w'.cell? ⟨g, 0, none⟩ = some (.int .i64 x.ship.legs) ∧ w'.cell? ⟨g, 1, none⟩ = some (.int .i64 x.ship.souls) ∧ w'.cell? ⟨g, 2, none⟩ = some (.slice A n cap) ∧ w'.cell? ⟨g, 3, none⟩ = some (.slice B m cap2) ∧ w'.cell? ⟨g, 4, none⟩ = some (.slice D nd cd) ∧ w'.cell? ⟨g, 5, none⟩ = some (.int .i64 x.fares.alone) ∧ w'.cell? ⟨g, 6, none⟩ = some (.int .i64 x.fares.third) ∧ w'.cell? ⟨g, 7, none⟩ = some (.slice E ne ce) ∧ w'.cell? ⟨g, 8, none⟩ = some (.int .i64 x.fares.down) ∧ w'.cell? ⟨g, 9, none⟩ = some (.int .i64 x.day) ∧ w'.cell? ⟨g, 10, none⟩ = some (.int .i64 x.leaves) ∧ w'.cell? ⟨g, 11, none⟩ = some (.slice C nb cb) ∧ w'.cell? ⟨g, 12, none⟩ = some (.bool x.closed)) ∧ (w'.cell? ⟨q, k * 13, none⟩ = some (.int .i64 y.ship.legs) ∧ w'.cell? ⟨q, k * 13 + 1, none⟩ = some (.int .i64 y.ship.souls) ∧ w'.cell? ⟨q, k * 13 + 2, none⟩ = some (.slice Aq nq capq) ∧ w'.cell? ⟨q, k * 13 + 3, none⟩ = some (.slice Bq mq dq) ∧ w'.cell? ⟨q, k * 13 + 4, none⟩ = some (.slice Dq ndq cdq) ∧ w'.cell? ⟨q, k * 13 + 5, none⟩ = some (.int .i64 y.fares.alone) ∧ w'.cell? ⟨q, k * 13 + 6, none⟩ = some (.int .i64 y.fares.third) ∧ w'.cell? ⟨q, k * 13 + 7, none⟩ = some (.slice Eq neq ceq) ∧ w'.cell? ⟨q, k * 13 + 8, none⟩ = some (.int .i64 y.fares.down) ∧ w'.cell? ⟨q, k * 13 + 9, none⟩ = some (.int .i64 y.day) ∧ w'.cell? ⟨q, k * 13 + 10, none⟩ = some (.int .i64 y.leaves) ∧ w'.cell? ⟨q, k * 13 + 11, none⟩ = some (.slice Cq nb cbq) ∧ w'.cell? ⟨q, k * 13 + 12, none⟩ = some (.bool y.closed)))) (by kernel_rfl) (HSS.out _ hbx) (fun hHeld => ?_)
      refine wpAnyH_take (i := 0) (v := ?v1) (gA rfl) (by kernel_rfl) (by kernel_rfl) (by kernel_rfl) (fun _ _ _ h => h) (Or.inl ⟨rfl, ?y1⟩) (by assumption) ?_
      case y1 => (intro w hSw; (try dsimp only at hSw); go_simp <;> with_reducible rfl)
      simp only [Act.put, List.setIfInBounds_toArray, List.set_cons_zero, List.set_cons_succ]
      refine wpAnyH_take (i := 1) (v := ?v2) (gA rfl) (by kernel_rfl) (by kernel_rfl) (by kernel_rfl) (fun _ _ _ h => h) (Or.inl ⟨rfl, ?y2⟩) (by assumption) ?_
      case y2 => (intro w hSw; (try dsimp only at hSw); go_simp <;> with_reducible rfl)
      simp only [Act.put, List.setIfInBounds_toArray, List.set_cons_zero, List.set_cons_succ]
      refine wpAnyH_take (i := 2) (v := ?v3) (gA rfl) (by kernel_rfl) (by kernel_rfl) (by kernel_rfl) (fun _ _ _ h => h) (Or.inl ⟨rfl, ?y3⟩) (by assumption) ?_
      case y3 => (intro w hSw; (try dsimp only at hSw); go_simp <;> with_reducible rfl)
      simp only [Act.put, List.setIfInBounds_toArray, List.set_cons_zero, List.set_cons_succ]
      refine wpAnyH_take (i := 3) (v := ?v4) (gA rfl) (by kernel_rfl) (by kernel_rfl) (by kernel_rfl) (fun _ _ _ h => h) (Or.inl ⟨rfl, ?y4⟩) (by assumption) ?_
      case y4 => (intro w hSw; (try dsimp only at hSw); go_simp <;> with_reducible rfl)
      simp only [Act.put, List.setIfInBounds_toArray, List.set_cons_zero, List.set_cons_succ]
      refine wpAnyH_ready (rs := [4]) (by kernel_rfl) (by simp) (AllReadyH.cons (gA rfl) (fun K hK => ?_) AllReadyH.nil)
      go_simp
      (go_at_call 24; refine (HCK.out _ (HSY.out _ hbx)).mono ?_; rintro e w7 ⟨rfl, hb7⟩; replace hbx := hbx.trans (hb7.mono hbx.size); clear hb7)
      go_wp2_with fail
      refine hK.out _ _ ?_ (fun hHeld => ?_)
      · exact HSS.out _ hbx
      clear hK K
      try simp only [Act.put, List.setIfInBounds_toArray, List.set_cons_zero, List.set_cons_succ]
      refine wpAnyH_take (i := 5) (v := ?v6) (gA rfl) (by kernel_rfl) (by kernel_rfl) (by kernel_rfl) (fun _ _ _ h => h) (Or.inl ⟨rfl, ?y6⟩) (by assumption) ?_
      case y6 => (intro w hSw; (try dsimp only at hSw); go_simp <;> with_reducible rfl)
      simp only [Act.put, List.setIfInBounds_toArray, List.set_cons_zero, List.set_cons_succ]
      refine wpAnyH_take (i := 6) (v := ?v7) (gA rfl) (by kernel_rfl) (by kernel_rfl) (by kernel_rfl) (fun _ _ _ h => h) (Or.inl ⟨rfl, ?y7⟩) (by assumption) ?_
      case y7 => (intro w hSw; (try dsimp only at hSw); go_simp <;> with_reducible rfl)
      simp only [Act.put, List.setIfInBounds_toArray, List.set_cons_zero, List.set_cons_succ]
      refine wpAnyH_take (i := 7) (v := ?v8) (gA rfl) (by kernel_rfl) (by kernel_rfl) (by kernel_rfl) (fun _ _ _ h => h) (Or.inl ⟨rfl, ?y8⟩) (by assumption) ?_
      case y8 => (intro w hSw; (try dsimp only at hSw); go_simp <;> with_reducible rfl)
      simp only [Act.put, List.setIfInBounds_toArray, List.set_cons_zero, List.set_cons_succ]
      refine wpAnyH_take (i := 8) (v := ?v9) (gA rfl) (by kernel_rfl) (by kernel_rfl) (by kernel_rfl) (fun _ _ _ h => h) (Or.inl ⟨rfl, ?y9⟩) (by assumption) ?_
      case y9 => (intro w hSw; (try dsimp only at hSw); go_simp <;> with_reducible rfl)
      simp only [Act.put, List.setIfInBounds_toArray, List.set_cons_zero, List.set_cons_succ]
      refine wpAnyH_take (i := 9) (v := ?v10) (gA rfl) (by kernel_rfl) (by kernel_rfl) (by kernel_rfl) (fun _ _ _ h => h) (Or.inl ⟨rfl, ?y10⟩) (by assumption) ?_
      case y10 => (intro w hSw; (try dsimp only at hSw); go_simp <;> with_reducible rfl)
      simp only [Act.put, List.setIfInBounds_toArray, List.set_cons_zero, List.set_cons_succ]
      refine wpAnyH_take (i := 10) (v := ?v11) (gA rfl) (by kernel_rfl) (by kernel_rfl) (by kernel_rfl) (fun _ _ _ h => h) (Or.inl ⟨rfl, ?y11⟩) (by assumption) ?_
      case y11 => (intro w hSw; (try dsimp only at hSw); go_simp <;> with_reducible rfl)
      simp only [Act.put, List.setIfInBounds_toArray, List.set_cons_zero, List.set_cons_succ]
      refine wpAnyH_take (i := 11) (v := ?v12) (gA rfl) (by kernel_rfl) (by kernel_rfl) (by kernel_rfl) (fun _ _ _ h => h) (Or.inl ⟨rfl, ?y12⟩) (by assumption) ?_
      case y12 => (intro w hSw; (try dsimp only at hSw); go_simp <;> with_reducible rfl)
      simp only [Act.put, List.setIfInBounds_toArray, List.set_cons_zero, List.set_cons_succ]
      refine wpAnyH_take (i := 12) (v := ?v13) (gA rfl) (by kernel_rfl) (by kernel_rfl) (by kernel_rfl) (fun _ _ _ h => h) (Or.inl ⟨rfl, ?y13⟩) (by assumption) ?_
      case y13 => (intro w hSw; (try dsimp only at hSw); go_simp <;> with_reducible rfl)
      simp only [Act.put, List.setIfInBounds_toArray, List.set_cons_zero, List.set_cons_succ]
      refine wpAnyH_take (i := 13) (v := ?v14) (gA rfl) (by kernel_rfl) (by kernel_rfl) (by kernel_rfl) (fun _ _ _ h => h) (Or.inl ⟨rfl, ?y14⟩) (by assumption) ?_
      case y14 => (intro w hSw; (try dsimp only at hSw); go_simp <;> with_reducible rfl)
      simp only [Act.put, List.setIfInBounds_toArray, List.set_cons_zero, List.set_cons_succ]
      refine wpAnyH_take (i := 14) (v := ?v15) (gA rfl) (by kernel_rfl) (by kernel_rfl) (by kernel_rfl) (fun _ _ _ h => h) (Or.inl ⟨rfl, ?y15⟩) (by assumption) ?_
      case y15 => (intro w hSw; (try dsimp only at hSw); go_simp <;> with_reducible rfl)
      simp only [Act.put, List.setIfInBounds_toArray, List.set_cons_zero, List.set_cons_succ]
      refine wpAnyH_take (i := 15) (v := ?v16) (gA rfl) (by kernel_rfl) (by kernel_rfl) (by kernel_rfl) (fun _ _ _ h => h) (Or.inl ⟨rfl, ?y16⟩) (by assumption) ?_
      case y16 => (intro w hSw; (try dsimp only at hSw); go_simp <;> with_reducible rfl)
      simp only [Act.put, List.setIfInBounds_toArray, List.set_cons_zero, List.set_cons_succ]
      refine wpAnyH_take (i := 16) (v := ?v17) (gA rfl) (by kernel_rfl) (by kernel_rfl) (by kernel_rfl) (fun _ _ _ h => h) (Or.inl ⟨rfl, ?y17⟩) (by assumption) ?_
      case y17 => (intro w hSw; (try dsimp only at hSw); go_simp <;> with_reducible rfl)
      simp only [Act.put, List.setIfInBounds_toArray, List.set_cons_zero, List.set_cons_succ]
      refine wpAnyH_take (i := 17) (v := ?v18) (gA rfl) (by kernel_rfl) (by kernel_rfl) (by kernel_rfl) (fun _ _ _ h => h) (Or.inl ⟨rfl, ?y18⟩) (by assumption) ?_
      case y18 => (intro w hSw; (try dsimp only at hSw); go_simp <;> with_reducible rfl)
      simp only [Act.put, List.setIfInBounds_toArray, List.set_cons_zero, List.set_cons_succ]
      refine wpAnyH_take (i := 18) (v := ?v19) (gA rfl) (by kernel_rfl) (by kernel_rfl) (by kernel_rfl) (fun _ _ _ h => h) (Or.inl ⟨rfl, ?y19⟩) (by assumption) ?_
      case y19 => (intro w hSw; (try dsimp only at hSw); go_simp <;> with_reducible rfl)
      simp only [Act.put, List.setIfInBounds_toArray, List.set_cons_zero, List.set_cons_succ]
      refine wpAnyH_take (i := 19) (v := ?v20) (gA rfl) (by kernel_rfl) (by kernel_rfl) (by kernel_rfl) (fun _ _ _ h => h) (Or.inl ⟨rfl, ?y20⟩) (by assumption) ?_
      case y20 => (intro w hSw; (try dsimp only at hSw); go_simp <;> with_reducible rfl)
      simp only [Act.put, List.setIfInBounds_toArray, List.set_cons_zero, List.set_cons_succ]
      refine wpAnyH_take (i := 20) (v := ?v21) (gA rfl) (by kernel_rfl) (by kernel_rfl) (by kernel_rfl) (fun _ _ _ h => h) (Or.inl ⟨rfl, ?y21⟩) (by assumption) ?_
      case y21 => (intro w hSw; (try dsimp only at hSw); go_simp <;> with_reducible rfl)
      simp only [Act.put, List.setIfInBounds_toArray, List.set_cons_zero, List.set_cons_succ]
      refine wpAnyH_take (i := 21) (v := ?v22) (gA rfl) (by kernel_rfl) (by kernel_rfl) (by kernel_rfl) (fun _ _ _ h => h) (Or.inl ⟨rfl, ?y22⟩) (by assumption) ?_
      case y22 => (intro w hSw; (try dsimp only at hSw); go_simp <;> with_reducible rfl)
      simp only [Act.put, List.setIfInBounds_toArray, List.set_cons_zero, List.set_cons_succ]
      refine wpAnyH_take (i := 22) (v := ?v23) (gA rfl) (by kernel_rfl) (by kernel_rfl) (by kernel_rfl) (fun _ _ _ h => h) (Or.inl ⟨rfl, ?y23⟩) (by assumption) ?_
      case y23 => (intro w hSw; (try dsimp only at hSw); go_simp <;> with_reducible rfl)
      simp only [Act.put, List.setIfInBounds_toArray, List.set_cons_zero, List.set_cons_succ]
      refine wpAnyH_take (i := 23) (v := ?v24) (gA rfl) (by kernel_rfl) (by kernel_rfl) (by kernel_rfl) (fun _ _ _ h => h) (Or.inl ⟨rfl, ?y24⟩) (by assumption) ?_
      case y24 => (intro w hSw; (try dsimp only at hSw); go_simp <;> with_reducible rfl)
      simp only [Act.put, List.setIfInBounds_toArray, List.set_cons_zero, List.set_cons_succ]
      refine wpAnyH_take (i := 24) (v := ?v25) (gA rfl) (by kernel_rfl) (by kernel_rfl) (by kernel_rfl) (fun _ _ _ h => h) (Or.inl ⟨rfl, ?y25⟩) (by assumption) ?_
      case y25 => (intro w hSw; (try dsimp only at hSw); go_simp <;> with_reducible rfl)
      simp only [Act.put, List.setIfInBounds_toArray, List.set_cons_zero, List.set_cons_succ]
      refine wpAnyH_ready (rs := [25]) (by kernel_rfl) (by simp) (AllReadyH.cons (gA rfl) (fun K hK => ?_) AllReadyH.nil)
      go_simp
      (go_at_call 25; refine (HOS.out _ (HSXX.out _ hbx) (HSY.out _ hbx)).mono ?_; rintro e w8 ⟨rfl, hb7⟩; replace hbx := hbx.trans (hb7.mono hbx.size); clear hb7)
      go_wp2_with fail
      refine hK.out _ _ ?_ (fun hHeld => ?_)
      · exact HSS.out _ hbx
      clear hK K
      try simp only [Act.put, List.setIfInBounds_toArray, List.set_cons_zero, List.set_cons_succ]
      refine wpAnyH_take (i := 26) (v := ?v27) (gA rfl) (by kernel_rfl) (by kernel_rfl) (by kernel_rfl) (fun _ _ _ h => h) (Or.inl ⟨rfl, ?y27⟩) (by assumption) ?_
      case y27 => (intro w hSw; (try dsimp only at hSw); go_simp <;> with_reducible rfl)
      simp only [Act.put, List.setIfInBounds_toArray, List.set_cons_zero, List.set_cons_succ]
      refine wpAnyH_take (i := 27) (v := ?v28) (gA rfl) (by kernel_rfl) (by kernel_rfl) (by kernel_rfl) (fun _ _ _ h => h) (Or.inl ⟨rfl, ?y28⟩) (by assumption) ?_
      case y28 => (intro w hSw; (try dsimp only at hSw); go_simp <;> with_reducible rfl)
      simp only [Act.put, List.setIfInBounds_toArray, List.set_cons_zero, List.set_cons_succ]
      refine wpAnyH_done (by kernel_rfl) ?_ _
      have HBX := Lib.hid hbx
      clear hbx
      go_wp2_with fail
      go_roundg (4 - (k + 1))
      case measure => omega
      case rel => exact ⟨k + 1, by omega, by omega, by go_num, HB5'.out.trans (HBX.out.mono HB5'.out.size)⟩
    · obtain rfl : k = 4 := by omega
      go_wp2_with fail
      go_ret
      exact ⟨rfl, HT.out _ hb⟩
set_option maxRecDepth 100000 in
theorem ChangeOthers_lifted (os : Os) (started : os.Started) (H : Type) (enc : TypeId × Value → H) :
    ReturnsInHanded {} Tryz.checked os 7 .any (Rows.changeOthersSpec.pre6 enc Tryz.prog Tryz.f7 Rows.changeOthersRow.domain false) (Rows.changeOthersSpec.post enc Tryz.prog Tryz.f7 false true false false) := by
  refine returnsInHanded_of_change (C := Tryz.checked) own started (by kernel_rfl) Tryz.func7
    (ChangeSpec.witness6 (enc := enc) (C := Tryz.checked) false ⟨#[], #[.agg #[.int .i64 0, .int .i64 0, .slice none 0 0, .slice none 0 0, .slice none 0 0, .int .i64 0, .int .i64 0, .slice none 0 0, .int .i64 0, .int .i64 0, .int .i64 0, .slice none 0 0, .bool false], .int .i64 0, .int .i64 0, .int .i64 0], []⟩ 8 (by kernel_rfl) (by kernel_rfl) (by kernel_rfl) (by kernel_rfl)) ?_
  intro W base args ds gs before hval0 hW hcnd _
  have hval : ∀ (j : Nat) t v, Tryz.f7.params[j]? = some t → args[j]? = some v → Value.okWide Tryz.prog W .any base t v := hval0
  have hW' := hW
  obtain ⟨p, q, hA0, hV, rfl, hfz, hnd⟩ := hW
  have hA : DataW.TrodAll enc Tryz.prog W 0 (fun _ => true) true Tryz.f7.params.toList args.toList ds p := hA0
  rw [Tryz.params7] at hA hval
  obtain ⟨v0, vs0, d0, ds0, p0, q0, hargs, rfl, rfl, h0, r0⟩ := trodAll_cons hA
  obtain ⟨v1, vs1, d1, ds1, p1, q1, rfl, rfl, rfl, h1, r1⟩ := trodAll_cons r0
  obtain ⟨v2, vs2, d2, ds2, p2, q2, rfl, rfl, rfl, h2, r2⟩ := trodAll_cons r1
  obtain ⟨v3, vs3, d3, ds3, p3, q3, rfl, rfl, rfl, h3, r3⟩ := trodAll_cons r2
  obtain ⟨rfl, rfl, rfl⟩ := trodAll_nil r3
  obtain rfl : args = #[v0, v1, v2, v3] := by cases args; simp_all
  obtain ⟨rfl, rfl⟩ := trodVars_none hV
  have lt0 := arg_lt h0
  have k0 := h0
  obtain ⟨cs0, a0, rfl, w0⟩ := arg_agg (c := saiC) Tryz.underlying32 opens_saiC (hval 0 32 v0 rfl rfl) h0
  have lt1 := arg_lt h1
  have k1 := h1
  obtain ⟨a1, rfl, w1⟩ := arg_int Tryz.underlying3 (hval 1 3 v1 rfl rfl) h1
  have lt2 := arg_lt h2
  have k2 := h2
  obtain ⟨a2, rfl, w2⟩ := arg_int Tryz.underlying3 (hval 2 3 v2 rfl rfl) h2
  have lt3 := arg_lt h3
  have k3 := h3
  obtain ⟨a3, rfl, w3⟩ := arg_int Tryz.underlying3 (hval 3 3 v3 rfl rfl) h3
  clear hA0 hval0
  refine (ChangeOthers_walk W cs0 a0 w0 a1 w1 a2 w2 a3 w3).mono fun e W' ⟨he, bel⟩ => ?_
  subst he
  exact ⟨_, rfl, _, _, _, [], _, [], hW', trodAll_mk1 (shut_bool Tryz.underlying4 _), (trodAll_cons_mk (Below.trod laidOut (by kernel_rfl) (of_decide_eq_true (by kernel_rfl)) k0 bel lt0) (trodAll_cons_mk (Below.trod laidOut (by kernel_rfl) (of_decide_eq_true (by kernel_rfl)) k1 bel lt1) (trodAll_cons_mk (Below.trod laidOut (by kernel_rfl) (of_decide_eq_true (by kernel_rfl)) k2 bel lt2) (trodAll_cons_mk (Below.trod laidOut (by kernel_rfl) (of_decide_eq_true (by kernel_rfl)) k3 bel lt3) trodAll_mk0)))), rfl, bel.frame _, fun h => by cases h⟩

theorem ChangeOthers_fit1 : (Rows.changeOthersRow.wf (OpenSpec.ofChange Rows.changeOthersSpec) && Tryz.f7.params.all (Tryz.prog.readableRec ·) && namedTie Tryz.prog Rows.changeOthersRow.named Rows.changeOthersSpec.vars && (Rows.changeOthersRow.stops == []) && (Tryz.prog.stops == []) && (Rows.changeOthersRow.knobs == []) && (Tryz.prog.stopKnobs == [])) = true := by kernel_rfl
theorem ChangeOthers_fit2 : ((Rows.changeOthersRow.inPlace == Tryz.prog.inPlace 7) && (Rows.changeOthersRow.unfollowed == Tryz.prog.unfollowed 7) && (Rows.changeOthersRow.recurses == Tryz.prog.recurses 7) && (Rows.changeOthersRow.named == Tryz.prog.varsNamed 7)) = true := by kernel_rfl
theorem ChangeOthers_fit3 : ((Rows.changeOthersRow.maps == (Tryz.f7.params.toList ++ Rows.changeOthersSpec.plain.varTypes Tryz.prog).any (Tryz.prog.mapsRec ·)) && (Rows.changeOthersRow.ifaces == (Tryz.f7.params.toList ++ Rows.changeOthersSpec.plain.varTypes Tryz.prog).any (Tryz.prog.ifacesRec ·)) && (Rows.changeOthersRow.mapsOut == Tryz.prog.mapsAmong Tryz.f7.resultTypes.toList) && (Rows.changeOthersRow.loops == (Tryz.f7.params.toList ++ Rows.changeOthersSpec.plain.varTypes Tryz.prog).any (Tryz.prog.loopsFrom ·)) && (Rows.changeOthersRow.wideKeys == (Tryz.f7.params.toList ++ Rows.changeOthersSpec.plain.varTypes Tryz.prog ++ Tryz.f7.resultTypes.toList).any (Tryz.prog.wideKeysFrom ·)) &&
    Rows.changeOthersSpec.vars.all (Tryz.prog.varReadable ·) && Tryz.f7.resultTypes.all (fun t => Tryz.prog.readableRec t && decide (t < Tryz.prog.types.size)) && (Rows.changeOthersRow.ifacesOut == Tryz.f7.resultTypes.toList.any (Tryz.prog.ifacesRec ·)) && (Rows.changeOthersRow.loopsOut == Tryz.f7.resultTypes.toList.any (Tryz.prog.loopsFrom ·)) && (Rows.changeOthersRow.plainKeys == Tryz.prog.plainKeys) && Rows.changeOthersRow.shortTexts.isNone) = true := by kernel_rfl
theorem ChangeOthers_fit4 : ((Rows.changeOthersRow.lifted == Tryz.prog.liftsFinal) && (Tryz.prog.make == some Rows.changeOthersRow.make)) = true := by kernel_rfl
theorem ChangeOthers_fit5 : ((Rows.changeOthersRow.kinds == (if Rows.changeOthersRow.domain.isEmpty then [] else Tryz.f7.params.toList.map fun t => match Tryz.prog.underlying t with | some (.int k) => some k | _ => none)) && (Rows.changeOthersRow.pinned == Rows.changeOthersRow.pinnedBy) && (Rows.changeOthersRow.veiled == (Tryz.f7.params.toList ++ Rows.changeOthersSpec.plain.varTypes Tryz.prog ++ Tryz.f7.resultTypes.toList).any (Tryz.prog.veiledRec ·)) && Rows.changeOthersRow.veiledFits Tryz.prog Tryz.f7.params.toList (Tryz.f7.params.toList ++ Rows.changeOthersSpec.plain.varTypes Tryz.prog ++ Tryz.f7.resultTypes.toList)) = true := by kernel_rfl

set_option maxRecDepth 100000 in
/-- THE GIVEN STATEMENT ChangeOthers. -/
theorem changeOthers_holds : Rows.ChangeOthersSaid :=
  OpenClaim.holds_of_wide 7 Tryz.f7 rfl rfl rfl rfl rfl rfl rfl ⟨rfl, rfl, rfl, rfl, rfl⟩ rfl rfl rfl rfl rfl (by kernel_rfl) Tryz.func7
    (joined_of ChangeOthers_fit1 fit_laid fit_rows ChangeOthers_fit2 ChangeOthers_fit3 fit_heard fit_enter ChangeOthers_fit4 ChangeOthers_fit5)
    (of_decide_eq_true (by kernel_rfl)) (by unfold Func.isWrapper; rw [if_neg (of_decide_eq_false (by kernel_rfl))]; exact ⟨rfl, rfl⟩)
    (fun os started H enc _ => ChangeOthers_lifted os started H enc)
#print axioms changeOthers_holds
end Go.Proofs.YtoilcdgpeilgaaaGreat
