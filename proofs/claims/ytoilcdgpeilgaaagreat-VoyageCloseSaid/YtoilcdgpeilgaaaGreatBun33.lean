/-
  Words, laws and contracts: VoyA, VoyB, VoyE.
-/
import Derived.Test.YtoilcdgpeilgaaaGreatBun32
import Derived.BigQuiet
set_option linter.unusedSimpArgs false
set_option linter.unusedVariables false
namespace Go.Proofs.YtoilcdgpeilgaaaGreat
open Go.RowKit Go.Shelf
def lateO (day : Int) (b : Bkg) : Bool := decide (b.state = 1) && decide (b.til < day)
def turnB (x : Sai) (day : Int) (b : Bkg) : Bkg := if goneE x b day = 0 then goneB x b day else { b with state := 3, til := 0 }
def turn1 (x : Sai) (day : Int) (b : Bkg) : Bkg := if lateO day b = true then turnB x day b else b
def turnX (x : Sai) (day : Int) : Sai := { x with day := day, bks := x.bks.map (turn1 x day) }
def turnI (x : Sai) (day : Int) : List Int := (x.bks.filter (lateO day)).map (·.id)
def turnK (x : Sai) (day : Int) (k : Nat) : Sai := { x with day := day, bks := (x.bks.take k).map (turn1 x day) ++ x.bks.drop k }
def idsK (x : Sai) (day : Int) (k : Nat) : List Int := ((x.bks.take k).filter (lateO day)).map (·.id)
theorem turnK_all (x : Sai) (day : Int) : turnK x day x.bks.length = turnX x day := by
  unfold turnK turnX
  rw [List.take_length, List.drop_length, List.append_nil]
theorem idsK_all (x : Sai) (day : Int) : idsK x day x.bks.length = turnI x day := by
  unfold idsK turnI
  rw [List.take_length]
theorem turnK_len (x : Sai) (day : Int) (k : Nat) : (turnK x day k).bks.length = x.bks.length := by
  show ((x.bks.take k).map (turn1 x day) ++ x.bks.drop k).length = _
  rw [List.length_append, List.length_map, List.length_take, List.length_drop]; omega
section
variable {x : Sai} {day : Int} {k : Nat} {b : Bkg}
theorem turnK_at (hb : x.bks[k]? = some b) : (turnK x day k).bks[k]? = some b := by
  have hk := (List.getElem?_eq_some_iff.1 hb).1
  show ((x.bks.take k).map (turn1 x day) ++ x.bks.drop k)[k]? = some b
  rw [List.getElem?_append_right (by rw [List.length_map, List.length_take]; omega), List.length_map, List.length_take, List.getElem?_drop, show k + (k - min k x.bks.length) = k by omega]
  exact hb
theorem turnK_next (hb : x.bks[k]? = some b) : turnK x day (k + 1) = setS (turnK x day k) k (turn1 x day b) := by
  have hk := (List.getElem?_eq_some_iff.1 hb).1
  have hd : x.bks.drop k = b :: x.bks.drop (k + 1) := by rw [List.drop_eq_getElem_cons hk]; rw [(List.getElem?_eq_some_iff.1 hb).2]
  unfold turnK setS
  simp only
  congr 1
  rw [hd, take_snoc hb, List.map_append, List.set_append_right _ _ (by rw [List.length_map, List.length_take]; omega), List.length_map, List.length_take, show k - min k x.bks.length = 0 by omega]
  simp
theorem turnK_same (hb : x.bks[k]? = some b) (h : lateO day b = false) : turnK x day (k + 1) = turnK x day k ∧ idsK x day (k + 1) = idsK x day k := by
  have h1 : turn1 x day b = b := by unfold turn1; rw [h]; rfl
  refine ⟨?_, ?_⟩
  · rw [turnK_next hb, h1]
    unfold setS
    rw [show (turnK x day k).bks.set k b = (turnK x day k).bks from by
      refine List.ext_getElem? fun i => ?_
      by_cases hi : i = k
      · subst hi
        rw [List.getElem?_set_self (List.getElem?_eq_some_iff.1 (turnK_at hb)).1, turnK_at hb]
      · rw [List.getElem?_set_ne (fun e => hi e.symm)]]
  · unfold idsK
    rw [take_snoc hb, List.filter_append]
    simp [h]
theorem turnK_late (hb : x.bks[k]? = some b) (h : lateO day b = true) : turnK x day (k + 1) = setS (turnK x day k) k (turnB x day b) ∧ idsK x day (k + 1) = idsK x day k ++ [b.id] := by
  have h1 : turn1 x day b = turnB x day b := by unfold turn1; rw [h]; rfl
  refine ⟨by rw [turnK_next hb, h1], ?_⟩
  unfold idsK
  rw [take_snoc hb, List.filter_append, List.map_append]
  simp [h]
end
section
variable {w0 : World} {b0 : Nat} {w w' : World} {base : Nat} {x : Sai} {p : SaiV}
theorem SaiW.blkB {g : Nat} (h : SaiW w0 b0 w base x p) (hC : p.C = some ⟨g, 0, none⟩) : ∃ cs, Blk w g cs 37 := by
  obtain ⟨a1, a2, a3, a4, a5, xs, a6⟩ := h
  rw [hC] at a6
  rcases a6.row.2 with ⟨hv, _⟩ | ⟨g', cap', cur, hv, hb, hgg, _⟩
  · cases hv
  · injection hv with e1
    injection e1 with e1
    injection e1 with e1
    subst e1
    exact ⟨cur, hgg⟩
theorem SaiW.grownI {B : Nat} {v : Value} {l : List Int} {xs : List Value} (h : SaiW w0 b0 w base x p) (hO : Own intC 1 3 w B v l xs) (hB : w0.heap.size ≤ B) (hg : w.grownBy w' v.ownBlock) : SaiW w0 b0 w' base x p := by
  rcases hO.row.2 with ⟨hv, _⟩ | ⟨z, cap', cur, hv, hb, hgg, _⟩
  · refine h.bel ⟨hg.os, hg.tape, hg.output, hg.size, fun j hj => hg.block j hj (by rw [hv]; simp [Value.ownBlock])⟩
  · exact h.keepZ (z := z) (zs := cur) (t := 3) hgg (by decide) (by decide) (by omega) ⟨hg.os, hg.tape, hg.output, hg.size, fun j hj hn => hg.block j hj (by rw [hv]; intro e; injection e with e; exact hn e)⟩
end
set_option maxRecDepth 100000 in
set_option maxHeartbeats 16000000 in
theorem turn_any (w0 : World) (b0 : Nat) (x : Sai) (p : SaiV) (y : Nat) (base : Nat) (day : Int) (w : World) (hW : SaiW w0 b0 w base x p) (hY : Blk w y (saiA x p) 163) (hw0 : w0.heap.size ≤ y) (ho : OkSai x) (hd : 0 ≤ day ∧ day ≤ 9999) :
    Calls Tryz.prog 119 #[.pointer (some ⟨y, 0, none⟩), .int .i64 day] w fun e w' => ∃ v xs, e = .returned v ∧ Own intC 1 3 w' w.heap.size v (turnI x day) xs ∧ SaiW w0 b0 w' base (turnX x day) p ∧ Blk w' y (saiA (turnX x day) p) 163 ∧ Kept (fun j => w0.heap.size ≤ j) w w' := by
  have HLV := Lib.hid (fun k g b V hW hC hY hb hfo => Leave_any w0 b0 (turnK x day k) p k g y b day base V hW hC hY hb ho.fares ho.leaves (by rw [turnK_len]; exact ho.bs.len) hfo hd)
  have HFO := Lib.hid (fun b (hb : b ∈ x.bks) => (ho.bs.bk b hb).fol)
  have HNB := Lib.hid (show x.bks.length = p.nb from hW.sai.bks.len)
  have h16 := ho.bs.len
  have hnb16 : p.nb ≤ 16 := by have := HNB.out; omega
  have hYA : ∀ k, saiA (turnK x day k) p = saiA (turnK x day 0) p := fun k => rfl
  have HYA := Lib.hid hYA
  have HW0 := Lib.hid (show ∀ V, SaiW w0 b0 V base x p → SaiW w0 b0 V base (turnK x day 0) p from fun V ⟨a1, a2, a3, a4, a5, xs, a6⟩ => ⟨a1, a2, a3, a4, ⟨a5.cats, a5.cabs, a5.leg, a5.bands, a5.a, a5.t, a5.d⟩, xs, a6⟩)
  have hsz0 : w0.heap.size ≤ w.heap.size := by obtain ⟨_, _, a3, _⟩ := hW; exact a3
  have hb00 : base ≤ w0.heap.size := by obtain ⟨a1, a2, _⟩ := hW; omega
  have y9 : w.cell? ⟨y, 9, none⟩ = some (.int .i64 x.day) := hY.cell rfl
  have f9 := hY.free 9
  have hyl := hY.lt
  have HW := Lib.hid hW
  have HY := Lib.hid hY
  clear hYA hW hY ho hd h16
  go_enter Tryz.func119, Tryz.ntmps119
  go_upto_region 2 with (fail)
  go_cut [] (fun wx => SaiW w0 b0 wx base (turnK x day 0) p ∧ Blk wx y (saiA (turnK x day 0) p) 163 ∧ Kept (fun j => j = y) w wx)
  case first =>
    go_wp2_with fail
    go_meet
    have hk := kset w y [(9, .int .i64 day)]
    exact ⟨HW0.out _ (HW.out.keepZ HY.out (by decide) (by decide) hw0 hk), HY.out.set (j := 9) _, hk⟩
  obtain ⟨hW, hY, hK0⟩ := hcut
  obtain ⟨W1, hW1⟩ : ∃ V, V = wc := ⟨_, rfl⟩
  subst hW1
  have hsz1 : w.heap.size ≤ W1.heap.size := hK0.size
  have hyl1 := hY.lt
  have c11 : W1.cell? ⟨y, 11, none⟩ = some (.slice p.C p.nb p.cb) := hY.cell rfl
  have HW1 := Lib.hid hW
  have HY1 := Lib.hid hY
  have HK0 := Lib.hid (show Kept (fun j => w0.heap.size ≤ j) w W1 from hK0.mono fun k _ e => by omega)
  clear hW hY hK0 y9 f9 HW HY HW0
  go_wp2_with fail
  go_loopg [5, 19] p.nb (fun gk v i wr => ∃ (k : Nat) (xs : List Value) (vo : Value), k ≤ p.nb ∧ p.nb - k ≤ gk ∧ i = .int .i64 k ∧ vo = v ∧ Own intC 1 3 wr W1.heap.size vo (idsK x day k) xs ∧ SaiW w0 b0 wr base (turnK x day k) p ∧ Blk wr y (saiA (turnK x day k) p) 163 ∧ Kept (fun j => w0.heap.size ≤ j) W1 wr)
  case atStart => exact ⟨0, [], _, Nat.zero_le _, by omega, rfl, rfl, Own.nil _ _ _ _ _, HW1.out, HY1.out, Kept.refl _ _⟩
  case round =>
    clear c11
    obtain ⟨k, xs, vo, hk, hgk, rfl, rfl, hO, hW, hY, hK⟩ := hrel
    have hws := hK.size
    by_cases hlt : k < p.nb
    · have hkl : k < x.bks.length := by have := HNB.out; omega
      obtain ⟨b, hb⟩ : ∃ b, x.bks[k]? = some b := ⟨_, List.getElem?_eq_getElem hkl⟩
      obtain ⟨g, A3, n3, c3, hC, hg0, hgl, hcel, hfr, hF, hI, _⟩ := hW.at (turnK_at (day := day) hb)
      have c11 : wr.cell? ⟨y, 11, none⟩ = some (.slice (some ⟨g, 0, none⟩) p.nb p.cb) := by rw [← hC]; exact hY.cell rfl
      obtain ⟨st, hst⟩ : ∃ q, q = b.state := ⟨_, rfl⟩
      obtain ⟨ti, hti⟩ : ∃ q, q = b.til := ⟨_, rfl⟩
      have c2 : wr.cell? ⟨g, k * 11 + 2, none⟩ = some (.int .i64 st) := by rw [hst]; exact hcel 2 _ rfl
      have c9 : wr.cell? ⟨g, k * 11 + 9, none⟩ = some (.int .i64 ti) := by rw [hti]; exact hcel 9 _ rfl
      have hk0 : (0 : Int) ≤ (k : Int) := Int.natCast_nonneg _
      have hk1 : (k : Int) < (p.nb : Int) := by omega
      obtain ⟨V1, hV1⟩ : ∃ V, V = wr := ⟨_, rfl⟩
      subst hV1
      obtain ⟨lo, hlo⟩ : ∃ q, q = lateO day b := ⟨_, rfl⟩
      have HLO := Lib.hid (show lo = (decide (st = 1) && decide (ti < day)) by rw [hlo, hst, hti]; rfl)
      have HLL := Lib.hid hlo
      clear hlo
      have HB := Lib.hid hb
      clear hb
      have HO := Lib.hid hO
      clear hO
      have HW := Lib.hid hW
      clear hW
      have HY := Lib.hid hY
      clear hY
      have HK := Lib.hid hK
      clear hK
      have HC := Lib.hid hC
      clear hC
      have HID := Lib.hid hI.id
      clear hst hti hcel hfr hF hI hkl
      go_upto_region 7 with (fail)
      go_cut [41] (fun q wx => q = .bool (!lo) ∧ V1 = wx)
      case first => as_aux_lemma =>
        by_cases q1 : st = 1
        · by_cases q2 : ti < day
          · obtain rfl : lo = true := by rw [HLO.out, decide_eq_true q1, decide_eq_true q2]; rfl
            have q3 : decide (day ≤ ti) = false := decide_eq_false (by omega)
            subst q1
            go_wp2_with fail
            go_meet
            exact ⟨rfl, rfl⟩
          · obtain rfl : lo = false := by rw [HLO.out, decide_eq_true q1, decide_eq_false q2]; rfl
            have q3 : decide (day ≤ ti) = true := decide_eq_true (by omega)
            subst q1
            go_wp2_with fail
            go_meet
            exact ⟨rfl, rfl⟩
        · obtain rfl : lo = false := by rw [HLO.out, decide_eq_false q1]; rfl
          have q3 : (st != 1) = true := by simpa using q1
          clear q1
          go_wp2_with fail
          go_meet
          exact ⟨rfl, rfl⟩
      obtain ⟨rfl, rfl⟩ := hcut
      clear c2 c9
      cases lo
      · obtain ⟨e1, e2⟩ := turnK_same HB.out HLL.out.symm
        go_wp2_with fail
        go_roundg (p.nb - (k + 1))
        case measure => omega
        case rel => exact ⟨k + 1, xs, vo, by omega, by omega, by go_num, rfl, by rw [e2]; exact HO.out, by rw [e1]; exact HW.out, by rw [e1]; exact HY.out, HK.out⟩
      obtain ⟨e1, e2⟩ := turnK_late HB.out HLL.out.symm
      have hgy : ¬ y = g := fun h => HW.out.neB HC.out HY.out (by decide) h.symm
      have HCL := Lib.hid (HLV.out k g b V1 HW.out HC.out (fun j u hu => HY.out.cell hu) (turnK_at HB.out) (HFO.out b (List.mem_of_getElem? HB.out)))
      obtain ⟨E', hE⟩ : ∃ q, q = goneE (turnK x day k) b day := ⟨_, rfl⟩
      rw [← hE] at HCL
      have HG1 := Lib.hid (show E' = 0 → goneS (turnK x day k) k b day = turnK x day (k + 1) from fun h => by
        rw [goneS_ok (hE.symm.trans h), e1]
        unfold turnB
        rw [if_pos (show goneE x b day = 0 from hE.symm.trans h)]
        rfl)
      have HG0 := Lib.hid (show ¬ E' = 0 → goneS (turnK x day k) k b day = turnK x day k ∧ turnK x day (k + 1) = setS (turnK x day k) k { b with state := 3, til := 0 } from fun h => by
        have h2 : ¬ goneE (turnK x day k) b day = 0 := fun h3 => h (hE.trans h3)
        refine ⟨goneS_no h2, ?_⟩
        rw [e1]
        unfold turnB
        rw [if_neg (show ¬ goneE x b day = 0 from h2)])
      have HE1 := Lib.hid e1
      have HE2 := Lib.hid e2
      clear e1 e2 hE
      go_wp2_with fail
      refine HCL.out.mono ?_
      rintro e w2 ⟨rfl, hW2, hK2⟩
      have hY2 := HY.out.kept hK2 hgy
      have hs2 := hK2.size
      have HW2 := Lib.hid hW2
      clear hW2
      have HY2 := Lib.hid hY2
      clear hY2
      have HK2 := Lib.hid hK2
      clear hK2
      clear HCL c11
      obtain ⟨V2, hV2⟩ : ∃ V, V = w2 := ⟨_, rfl⟩
      subst hV2
      go_upto_if 48 with (fail)
      go_cut [] (fun wx => SaiW w0 b0 wx base (turnK x day (k + 1)) p ∧ Kept (fun j => j = g) V1 wx)
      case first =>
        by_cases q1 : E' = 0
        · have q2 : (E' != 0) = false := by simpa using q1
          have h := HG1.out q1
          have HH := Lib.hid h
          clear q1 h
          go_wp2_with fail
          go_meet
          exact ⟨by rw [← HH.out]; exact HW2.out, HK2.out⟩
        · have q2 : (E' != 0) = true := by simpa using q1
          obtain ⟨h1, h2⟩ := HG0.out q1
          have hW3 := HW2.out
          rw [h1] at hW3
          obtain ⟨g', A4, n4, c4, hC', _, _, hcel, hfr, _, _, _⟩ := hW3.at (turnK_at (day := day) HB.out)
          obtain rfl : g = g' := by have := HC.out; rw [this] at hC'; injection hC' with h; injection h
          have c2 : V2.cell? ⟨g, k * 11 + 2, none⟩ = some (.int .i64 b.state) := hcel 2 _ rfl
          have c9 : V2.cell? ⟨g, k * 11 + 9, none⟩ = some (.int .i64 b.til) := hcel 9 _ rfl
          have f2 := hfr (k * 11 + 2)
          have f9 := hfr (k * 11 + 9)
          have HW3 := Lib.hid hW3
          have H2 := Lib.hid h2
          clear q1 h1 h2 hW3 hC' hcel hfr
          go_wp2_with fail
          go_meet
          have hW4 := HW3.out.put HC.out (turnK_at HB.out) (j := 2) (by omega) (u := .int .i64 3) (fun cs h => bkgO_state h (.of (by decide) (by decide)))
          have hW5 := hW4.put HC.out (set_get (turnK_at HB.out)) (j := 9) (by omega) (u := .int .i64 0) (fun cs h => bkgO_til h (.of (by decide) (by decide)))
          rw [set_set] at hW5
          exact ⟨by rw [H2.out]; exact hW5, HK2.out.trans (kset V2 g [(k * 11 + 2, .int .i64 3), (k * 11 + 9, .int .i64 0)])⟩
      obtain ⟨hW3, hK3⟩ := hcut
      obtain ⟨V3, hV3⟩ : ∃ V, V = wc := ⟨_, rfl⟩
      subst hV3
      have hs3 := hK3.size
      have hY3 := HY.out.kept hK3 hgy
      obtain ⟨bc, hbc⟩ := HW.out.blkB HC.out
      have hO3 : Own intC 1 3 V3 W1.heap.size vo (idsK x day k) xs := HO.out.keepB intC_flat (fun j hj => hK3.block j (HO.out.lt j hj).2 (fun e => HO.out.neTy hbc (by decide) (by rw [hj, e])))
      obtain ⟨g', A4, n4, c4, hC', _, _, hcel, hfr, _, _, _⟩ := hW3.at (show (turnK x day (k + 1)).bks[k]? = some (turnB x day b) by rw [HE1.out]; exact set_get (turnK_at HB.out))
      obtain rfl : g = g' := by have := HC.out; rw [this] at hC'; injection hC' with h; injection h
      have hid : (turnB x day b).id = b.id := by unfold turnB; split <;> rfl
      have c0 : V3.cell? ⟨g, k * 11, none⟩ = some (.int .i64 b.id) := by rw [← hid]; exact hcel 0 _ rfl
      have hil : (idsK x day k).length ≤ 16 := by
        unfold idsK
        rw [List.length_map]
        have := List.length_filter_le (lateO day) (x.bks.take k)
        rw [List.length_take] at this
        have := HNB.out
        omega
      have hby : ((idsK x day k).length + 1) * 8 ≤ 140737488355328 := by omega
      have HOL := Lib.hid (hO3.bel (bel1 V3 (.cells #[.int .i64 b.id] 3)))
      have HWL := Lib.hid (hW3.bel (bel1 V3 (.cells #[.int .i64 b.id] 3)))
      have HYL := Lib.hid ((show Blk V3 y (saiA (turnK x day (k + 1)) p) 163 from hY3).bel (bel1 V3 (.cells #[.int .i64 b.id] 3)))
      have HK3 := Lib.hid (HK.out.trans (hK3.mono fun j _ e => by omega))
      have hs1 : W1.heap.size ≤ V3.heap.size := by omega
      have hs30 : W1.heap.size ≤ (V3.alloc (.cells #[.int .i64 b.id] 3)).heap.size := by simp; omega
      have HSL := Lib.hid (sl_int V3 All b.id 3 HID.out trivial)
      clear hO3 hW3 hY3 hK3 hC' hcel hfr hid hbc
      go_wp2_with (at_builtin; refine list_app (t := 47) (e := 3) (bytes := 8) rfl (.tmp 55) (.tmp 60) rfl int_elem intC_good rfl HOL.out rfl HSL.out (fun _ _ hc => hc) hby (by omega) hs30 ?_; intro v' w' xs' hown' hg' hat'; have HOWN := Lib.hid hown'; have HGR := Lib.hid hg'; clear hown' hg' hat')
      go_roundg (p.nb - (k + 1))
      case measure => omega
      case rel =>
        have hKg : Kept (fun j => w0.heap.size ≤ j) (V3.alloc (.cells #[.int .i64 b.id] 3)) w' := ⟨HGR.out.os, HGR.out.tape, HGR.out.output, HGR.out.size, fun j hj hn => HGR.out.block j hj (fun e => hn (by have := (HOL.out.lt j e.symm).1; omega))⟩
        exact ⟨k + 1, xs', v', by omega, by omega, by go_num, rfl, by rw [HE2.out]; exact HOWN.out, HWL.out.grownI HOL.out (by omega) HGR.out, HYL.out.grown HGR.out (fun e => by have := (HOL.out.lt y e.symm).1; omega), (HK3.out.alloc _).trans hKg⟩
    · obtain rfl : k = p.nb := by omega
      rw [← HNB.out, turnK_all] at hW hY
      rw [← HNB.out, idsK_all] at hO
      have HO := Lib.hid hO
      clear hO
      have HW := Lib.hid hW
      clear hW
      have HY := Lib.hid hY
      clear hY
      have HK := Lib.hid hK
      clear hK
      go_wp2_with fail
      go_ret
      exact ⟨_, xs, rfl, HO.out.mono intC_good hsz1, HW.out, HY.out, HK0.out.trans HK.out⟩
end Go.Proofs.YtoilcdgpeilgaaaGreat
namespace Go.Proofs.YtoilcdgpeilgaaaGreat
open Go.RowKit Go.Shelf
theorem results_cell_tmp2 {fn : Func} {p u v : Tmp} {ty : TypeId} (h : fn.results = #[.cell p ty, .tmp u, .tmp v]) (tmps : Array Value) (P : Program) (w : World) :
    (results fn tmps).run P w = ((asAddr (tmps.getD p undef)).run P w).andThen fun a w₁ => ((loadVar ty a).run P w₁).andThen fun x w₂ => .ok (.tuple #[x, tmps.getD u undef, tmps.getD v undef]) w₂ := by
  simp only [results, h]
  simp [Sem.run_bind, Result.andThen]
theorem Blk.ret3 {fn : Func} {k u v : Tmp} {ty t : TypeId} (hf : fn.results = #[.cell k ty, .tmp u, .tmp v]) {tmps : Array Value} {w : World} {g : Nat} {cs : Array Value} {d : TypeDesc} (hg : Blk w g cs t) (hp : tmps.getD k undef = .pointer (some ⟨g, 0, none⟩)) {e f : Value} (he : tmps.getD u undef = e) (hf2 : tmps.getD v undef = f)
    (hu : Tryz.prog.underlying ty = some d) (hd : (match d with | .struct _ | .array _ _ => true | _ => false) = true) (hi : (Tryz.prog.info? ty).map (·.size) = some cs.size) : (results fn tmps).run Tryz.prog w = .ok (.tuple #[.agg cs, e, f]) w := by
  have h' : w.heap[g]? = some (.cells cs t (0, 0)) := hg
  rw [results_cell_tmp2 (p := k) (u := u) (v := v) (ty := ty) hf, hp, he, hf2]
  cases d <;> first | simp [asAddr, run_loadVar_row w g t ty cs (0, 0) _ h' hu rfl hi, Sem.run_pure] | simp at hd
noncomputable def turnEx (x : Sai) (day : Int) : Int := if saiE x ≠ 0 then saiE x else if betB day 0 9999 = false then 3 else if day ≤ x.day then 4 else 0
def ResT (w' : World) (base : Nat) (E : Int) (X : Sai) (l : List Int) (e : Ending) : Prop := ∃ y p' v xs, e = .returned (.tuple #[.agg (saiA y p'), v, .int .i64 E]) ∧ y = okS E X ∧ SaiO w' base y p' ∧ Own intC 1 3 w' base v (okL E l) xs
set_option maxRecDepth 100000 in
set_option maxHeartbeats 16000000 in
theorem Turn_any (x : Sai) (p : SaiV) (day : Int) (w : World) (hS : SaiR w x p) :
    Calls Tryz.prog 42 #[.agg (saiA x p), .int .i64 day] w fun e w' => ResT w' w.heap.size (turnEx x day) (turnX x day) (turnI x day) e ∧ Below w.heap.size w w' := by
  have HCK := Lib.hid (fun X hX => saiCheck_any x p X hX)
  have HOW := Lib.hid (fun X h ho => stockOwn_any x p X h ho)
  have HTU := Lib.hid (fun w0 b0 p y base X hW hY hw0 ho hd => turn_any w0 b0 x p y base day X hW hY hw0 ho hd)
  obtain ⟨r, hr⟩ : ∃ r, r = saiE x := ⟨_, rfl⟩
  obtain ⟨R, hR⟩ : ∃ r, r = turnEx x day := ⟨_, rfl⟩
  have HR := Lib.hid (show R = if r ≠ 0 then r else if betB day 0 9999 = false then 3 else if day ≤ x.day then 4 else 0 by rw [hR, hr]; rfl)
  have HRE := Lib.hid hr
  rw [← hr] at HCK
  rw [← hR]
  have HS := Lib.hid hS
  clear hr hR hS
  obtain ⟨A, n, cap, B, m, cap2, D, nd, cd, E, ne, ce, C, nb, cb⟩ := p
  go_enter Tryz.func42, Tryz.ntmps42
  go_upto_region 0 with (fail)
  go_cut [2, 4, 5, 6] (fun p p2 p3 p4 wx => ∃ g z, p = .pointer (some ⟨g, 0, none⟩) ∧ p2 = .pointer (some ⟨z, 0, none⟩) ∧ p3 = .slice none 0 0 ∧ p4 = .int .i64 0 ∧ w.heap.size ≤ z ∧ Blk wx g (saiA x ⟨A, n, cap, B, m, cap2, D, nd, cd, E, ne, ce, C, nb, cb⟩) 32 ∧ Blk wx z #[.int .i64 0, .int .i64 0, .slice none 0 0, .slice none 0 0, .slice none 0 0, .int .i64 0, .int .i64 0, .slice none 0 0, .int .i64 0, .int .i64 0, .int .i64 0, .slice none 0 0, .bool false] 32 ∧ Below w.heap.size w wx)
  case first => as_aux_lemma =>
    go_wp2_with fail
    go_meet
    exact ⟨_, _, rfl, rfl, rfl, rfl, by omega, blk2_0 _ _ _, blk2_1 _ _ _, bel2 _ _ _⟩
  obtain ⟨g, z, rfl, rfl, rfl, rfl, hz, hG, hZ, hb0⟩ := hcut
  obtain ⟨W1, hW1⟩ : ∃ V, V = wc := ⟨_, rfl⟩
  subst hW1
  have HT := Lib.hid (fun X (hX : Below W1.heap.size W1 X) => hb0.trans (hX.mono hb0.size))
  have HG := Lib.hid (fun X (hX : Below W1.heap.size W1 X) => hG.bel hX)
  have HZ := Lib.hid (fun X (hX : Below W1.heap.size W1 X) => hZ.bel hX)
  have HSX := Lib.hid (fun X (hX : Below W1.heap.size W1 X) => HS.out.bel (HT.out X hX))
  have HEND := Lib.hid (show ∀ (E' : Int) V, ¬ E' = 0 → Below W1.heap.size W1 V → ResT (V.setRow z (saiA zeroS zeroP)) w.heap.size E' (turnX x day) (turnI x day) (.returned (.tuple #[.agg (saiA zeroS zeroP), .slice none 0 0, .int .i64 E'])) ∧ Below w.heap.size w (V.setRow z (saiA zeroS zeroP)) from fun E' V h0 hX => by
    have hbz : Below w.heap.size w (V.setRow z (saiA zeroS zeroP)) := ((HT.out V hX).trans (((Kept.refl (fun k => k = z) V).setRow (.inl rfl) _).below (B := w.heap.size) (HT.out V hX).size (fun k hk e => by omega)))
    exact ⟨⟨zeroS, zeroP, _, [], rfl, (okS_ne h0 _).symm, zeroS_own _ _ hbz.size, by rw [okL_ne h0]; exact Own.nil _ _ _ _ _⟩, hbz⟩)
  have hb : Below W1.heap.size W1 W1 := Below.refl _ _
  have hzW := hZ.lt
  have hszW := hb0.size
  clear hG hZ hb0
  have HC := Lib.hid (HCK.out _ (HSX.out _ hb))
  go_wp2_with (refine wpList_load_row rfl 32 (.tmp 2) rfl g rfl 32 _ (0, 0) _ (HG.out _ hb) Tryz.underlying32 rfl (by kernel_rfl) ?_)
  refine HC.out.mono ?_
  rintro e w1 ⟨rfl, hb1⟩
  replace hb := hb.trans (hb1.mono hb.size)
  clear hb1 HC HCK
  by_cases q0 : r = 0
  rotate_left
  · obtain rfl : R = r := by rw [HR.out, if_pos q0]
    have q1 : (R != 0) = true := by simpa using q0
    have Q0 := Lib.hid q0
    clear q0
    have hz6 := HZ.out _ hb
    go_wp2_with (refine wpList_store_row rfl 32 (.tmp 4) (.tmp 29) rfl z (saiA zeroS zeroP) rfl rfl 32 _ hz6 (by kernel_rfl) rfl (by simp [Value.oneCell']) ?_)
    refine bodyPost_ret (v := .tuple #[.agg (saiA zeroS zeroP), .slice none 0 0, .int .i64 R]) ((hz6.row _).ret3 (k := 4) (u := 5) (v := 6) (by kernel_rfl) rfl rfl rfl Tryz.underlying32 (by kernel_rfl) (by kernel_rfl)) rfl ?_
    exact HEND.out _ _ Q0.out hb
  have HOK := Lib.hid (sai_ok (HRE.out.symm.trans q0))
  have HR1 := Lib.hid (HR.out.trans (if_neg (by rw [q0]; simp)))
  subst q0
  have g9 : w1.cell? ⟨g, 9, none⟩ = some (.int .i64 x.day) := (HG.out _ hb).cell rfl
  by_cases d1 : day < 0
  · obtain rfl : R = 3 := by rw [HR1.out, if_pos (betB_false (.inl d1))]
    have d1' : decide (day < 0) = true := decide_eq_true d1
    clear d1
    have hz6 := HZ.out _ hb
    go_wp2_with (refine wpList_store_row rfl 32 (.tmp 4) (.tmp 29) rfl z (saiA zeroS zeroP) rfl rfl 32 _ hz6 (by kernel_rfl) rfl (by simp [Value.oneCell']) ?_)
    refine bodyPost_ret (v := .tuple #[.agg (saiA zeroS zeroP), .slice none 0 0, .int .i64 3]) ((hz6.row _).ret3 (k := 4) (u := 5) (v := 6) (by kernel_rfl) rfl rfl rfl Tryz.underlying32 (by kernel_rfl) (by kernel_rfl)) rfl ?_
    exact HEND.out _ _ (by decide) hb
  have d1' : decide (day < 0) = false := decide_eq_false d1
  by_cases d2 : 9999 < day
  · obtain rfl : R = 3 := by rw [HR1.out, if_pos (betB_false (.inr d2))]
    have d2' : decide (9999 < day) = true := decide_eq_true d2
    clear d1 d2
    have hz6 := HZ.out _ hb
    go_wp2_with (refine wpList_store_row rfl 32 (.tmp 4) (.tmp 29) rfl z (saiA zeroS zeroP) rfl rfl 32 _ hz6 (by kernel_rfl) rfl (by simp [Value.oneCell']) ?_)
    refine bodyPost_ret (v := .tuple #[.agg (saiA zeroS zeroP), .slice none 0 0, .int .i64 3]) ((hz6.row _).ret3 (k := 4) (u := 5) (v := 6) (by kernel_rfl) rfl rfl rfl Tryz.underlying32 (by kernel_rfl) (by kernel_rfl)) rfl ?_
    exact HEND.out _ _ (by decide) hb
  have d2' : decide (9999 < day) = false := decide_eq_false d2
  have HR2 := Lib.hid (HR1.out.trans (if_neg (by rw [betB_true (by omega) (by omega)]; simp)))
  by_cases d3 : day ≤ x.day
  · obtain rfl : R = 4 := by rw [HR2.out, if_pos d3]
    have d3' : decide (day ≤ x.day) = true := decide_eq_true d3
    clear d1 d2 d3
    have hz6 := HZ.out _ hb
    go_wp2_with (refine wpList_store_row rfl 32 (.tmp 4) (.tmp 29) rfl z (saiA zeroS zeroP) rfl rfl 32 _ hz6 (by kernel_rfl) rfl (by simp [Value.oneCell']) ?_)
    refine bodyPost_ret (v := .tuple #[.agg (saiA zeroS zeroP), .slice none 0 0, .int .i64 4]) ((hz6.row _).ret3 (k := 4) (u := 5) (v := 6) (by kernel_rfl) rfl rfl rfl Tryz.underlying32 (by kernel_rfl) (by kernel_rfl)) rfl ?_
    exact HEND.out _ _ (by decide) hb
  have d3' : decide (day ≤ x.day) = false := decide_eq_false d3
  obtain rfl : R = 0 := by rw [HR2.out, if_neg d3]
  have HD := Lib.hid (show 0 ≤ day ∧ day ≤ 9999 from ⟨by omega, by omega⟩)
  have HC := Lib.hid (HOW.out _ (HSX.out _ hb) HOK.out)
  have hsz1 := hb.size
  clear d1 d2 d3
  go_wp2_with (refine wpList_load_row rfl 32 (.tmp 2) rfl g rfl 32 _ (0, 0) _ (HG.out _ hb) Tryz.underlying32 rfl (by kernel_rfl) ?_)
  refine HC.out.mono ?_
  rintro e w3 ⟨p3, rfl, hO3, hb3⟩
  obtain ⟨w0, b0, hW3⟩ := hO3
  replace hb := hb.trans (hb3.mono hb.size)
  have hW4 := hW3.bel (bel1 w3 (.cells (saiA x p3) 163))
  have hw0 : w0.heap.size ≤ w3.heap.size := by obtain ⟨_, _, a3, _⟩ := hW3; exact a3
  have hw1 : w1.heap.size ≤ w0.heap.size := by obtain ⟨a1, a2, _⟩ := hW3; omega
  have HC := Lib.hid (HTU.out w0 b0 p3 w3.heap.size _ _ hW4 (Blk.new w3 (saiA x p3) 163) hw0 HOK.out HD.out)
  have HB := Lib.hid (hb.trans ((bel1 w3 (.cells (saiA x p3) 163)).mono hb.size))
  clear hW3 hW4 hb3 HOW HTU g9 d1' d2' d3' hb
  go_wp2_with fail
  refine HC.out.mono ?_
  rintro e w5 ⟨v, xs, rfl, hO5, hW5, hY5, hK5⟩
  have hs3 := HB.out.size
  have hb : Below W1.heap.size W1 w5 := HB.out.trans (hK5.below (B := W1.heap.size) hs3 (fun k hk e => by omega))
  have hz6 := HZ.out _ hb
  have hsz5 : w3.heap.size < (w3.alloc (.cells (saiA x p3) 163)).heap.size := by simp
  have HO5 := Lib.hid hO5
  clear hO5
  have HW5 := Lib.hid hW5
  clear hW5
  have HY5 := Lib.hid hY5
  clear hK5 hY5 HC
  go_wp2_with (first | (refine wpList_load_row rfl 32 (.tmp 40) rfl w3.heap.size rfl 163 _ (0, 0) _ HY5.out Tryz.underlying32 rfl (by kernel_rfl) ?_) | (refine wpList_store_row rfl 32 (.tmp 4) (.tmp 41) rfl z (saiA (turnX x day) p3) rfl rfl 32 _ hz6 (by kernel_rfl) rfl (by simp [Value.oneCell']) ?_))
  refine bodyPost_ret (v := .tuple #[.agg (saiA (turnX x day) p3), v, .int .i64 0]) ((hz6.row _).ret3 (k := 4) (u := 5) (v := 6) (by kernel_rfl) rfl rfl rfl Tryz.underlying32 (by kernel_rfl) (by kernel_rfl)) rfl ?_
  have hKz : Kept (fun k => k = z) w5 (w5.setRow z (saiA (turnX x day) p3)) := (Kept.refl (fun k => k = z) w5).setRow (.inl rfl) _
  have hbz := ((HT.out _ hb).trans (hKz.below (B := w.heap.size) (HT.out _ hb).size (fun k hk e => by omega)))
  have hO9 : SaiO w5 w1.heap.size (turnX x day) p3 := ⟨w0, b0, HW5.out⟩
  exact ⟨⟨turnX x day, p3, v, xs, rfl, (okS_zero _).symm, (hO9.kept hKz (fun k hk e => by omega)).mono (by omega), by rw [okL_zero]; exact (HO5.out.keepB intC_flat (fun j hj => hKz.block j (HO5.out.lt j hj).2 (by have := (HO5.out.lt j hj).1; omega))).mono intC_good (by omega)⟩, hbz⟩
end Go.Proofs.YtoilcdgpeilgaaaGreat
namespace Go.Proofs.YtoilcdgpeilgaaaGreat
open Go.RowKit Go.Shelf
abbrev rbC : Cod (List Value) := rawC 11
theorem rbC_good : Good rbC := rawC_good 11
set_option maxHeartbeats 1000000 in
theorem Clone_bok (A : Option Addr) (n cap : Nat) (l : List (List Value)) (w : World) (h : Sl rbC 11 w All A n cap l) (hn : n * 104 ≤ 140737488355328) :
    Calls Tryz.prog 122 #[.slice A n cap] w fun e w' => ∃ v xs, e = .returned v ∧ Own rbC 11 37 w' w.heap.size v l xs ∧ Below w.heap.size w w' := by
  have hnil := fun (W : World) (a : Option Addr) => Lib.run_eql_slice_nil (P := Tryz.prog) W 30 37 a n cap 0 0 Tryz.underlying30
  rcases A with _ | a
  · have hl : l = [] := by
      rcases l with _ | ⟨x, l⟩
      · rfl
      · obtain ⟨b, off, cs, hA, _⟩ := h.rd 0 x rfl
        cases hA
    subst hl
    go_enter Tryz.func122, Tryz.ntmps122
    go_wp2
    go_ret
    exact ⟨_, _, rfl, Own.nil _ _ _ _ _, Below.refl _ _⟩
  · go_enter Tryz.func122, Tryz.ntmps122
    go_wp2_with (at_builtin; refine list_app (t := 30) (e := 37) (bytes := 104) rfl (.tmp 5) (.tmp 6) rfl bok_elem rbC_good rfl (Own.made w rbC 11 37 w.heap.size #[] 0 (Nat.le_refl _) (by simp [maxLen]) rfl) rfl (h.below rbC_good (by omega) ((Below.refl _ _).alloc (Nat.le_refl _) _)) (fun _ _ hc => hc) (by simp; omega) (by omega) (by simp) ?_; intro v' w' xs' hown hg _)
    go_ret
    exact ⟨_, _, rfl, hown, below_app (Below.alloc (Below.refl _ _) (Nat.le_refl _) _) (Own.made w rbC 11 37 w.heap.size #[] 0 (Nat.le_refl _) (by simp [maxLen]) rfl) hg (by simp)⟩
structure BkRow (L : List (List Value)) (l : List Bkg) : Prop where
  len : L.length = l.length
  el : ∀ (i : Nat) (b : Bkg), l[i]? = some b → ∃ A n cap, L[i]? = some (bkgA b (.slice A n cap)).toList
theorem Pts.bkRow {w : World} {L : List (List Value)} {l : List Bkg} (h : Pts bkgC w L l) : BkRow L l := ⟨h.len, fun i b hb => by
  have hi : i < L.length := by rw [h.len]; exact (List.getElem?_eq_some_iff.1 hb).1
  obtain ⟨A, n, cap, e, _⟩ := h.el i _ b (List.getElem?_eq_getElem hi) hb
  exact ⟨A, n, cap, by rw [List.getElem?_eq_getElem hi, e]⟩⟩
theorem BkRow.step {R : List (List Value)} {l : List Bkg} {i : Nat} {b : Bkg} {A : Option Addr} {n cap : Nat} (h : BkRow (R.take i) l) (hi : i < R.length) : BkRow ((R.set i (bkgA b (.slice A n cap)).toList).take (i + 1)) (l ++ [b]) := by
  obtain ⟨v, hv⟩ : ∃ v : Value, v = .slice A n cap := ⟨_, rfl⟩
  rw [← hv]
  have hl := h.len
  rw [List.length_take] at hl
  have h1 : (R.set i (bkgA b v).toList).take (i + 1) = R.take i ++ [(bkgA b v).toList] := by
    rw [take_snoc (x := (bkgA b v).toList) (List.getElem?_set_self hi), List.take_set_of_le (Nat.le_refl i)]
  rw [h1]
  refine ⟨by rw [List.length_append, List.length_append, h.len]; rfl, fun j q hq => ?_⟩
  by_cases hj : j < l.length
  · rw [List.getElem?_append_left hj] at hq
    rw [List.getElem?_append_left (by rw [h.len]; exact hj)]
    exact h.el j q hq
  · rw [List.getElem?_append_right (by omega)] at hq
    have hj0 : j - l.length = 0 := by have := (List.getElem?_eq_some_iff.1 hq).1; simp at this; omega
    rw [hj0] at hq
    obtain rfl : b = q := by simpa using hq
    rw [List.getElem?_append_right (by rw [h.len]; omega), h.len, hj0]
    exact ⟨A, n, cap, by rw [← hv]; rfl⟩
theorem run_clearB {w : World} {g o m c : Nat} (hm : 0 < m) (hc : ∀ j, j < m * 11 → (w.cell? ⟨g, o + j, none⟩).isSome = true) (hf : ∀ j, j < m * 11 → w.frozen? ⟨g, o + j, none⟩ = false) (ty : TypeId) :
    ∃ zs : List Value, zs.length = m * 11 ∧ (Builtin.clear_ #[30] ty #[.slice (some ⟨g, o, none⟩) m c]).run Tryz.prog w = .ok (.tuple #[]) (w.setCells g o zs) := by
  obtain ⟨z, hz⟩ : ∃ z : Value, z = .agg #[.int .i64 0, .int .i64 0, .int .i64 0, .int .i64 0, .bool false, .int .i64 0, .int .i64 0, .int .i64 0, .int .i64 0, .int .i64 0, .slice none 0 0] := ⟨_, rfl⟩
  have hzs : z.cells.size = 11 := by rw [hz]; rfl
  have hz1 : ∀ u ∈ z.cells, u.oneCell' = true := by
    rw [hz]
    intro u hu
    have hu : u ∈ (#[.int .i64 0, .int .i64 0, .int .i64 0, .int .i64 0, .bool false, .int .i64 0, .int .i64 0, .int .i64 0, .int .i64 0, .int .i64 0, .slice none 0 0] : Array Value) := hu
    simp at hu
    rcases hu with rfl | rfl | rfl | rfl <;> rfl
  have hlen : (Builtin.zeroCells z.cells m).toList.length = m * 11 := by simp [Builtin.zeroCells, hzs]
  have hone : ∀ v ∈ (Builtin.zeroCells z.cells m).toList, v.oneCell' = true := fun v hv => by
    simp only [Builtin.zeroCells, hzs, Array.toList_map, Array.toList_range, List.mem_map, List.mem_range] at hv
    obtain ⟨i, _, rfl⟩ := hv
    have hi : i % 11 < z.cells.size := by rw [hzs]; exact Nat.mod_lt _ (by decide)
    rw [getElem!_pos z.cells (i % 11) hi]
    exact hz1 _ (Array.getElem_mem hi)
  have hst := run_storeCells_cells (P := Tryz.prog) g o (Builtin.zeroCells z.cells m).toList 0 w (by rw [hlen]; simpa using hc) (by rw [hlen]; simpa using hf) hone
  simp only [Nat.add_zero] at hst
  refine ⟨_, hlen, ?_⟩
  obtain ⟨k, rfl⟩ : ∃ k, m = k + 1 := ⟨m - 1, by omega⟩
  have hzv := fun W => Tryz.zeroValue37 W
  simp only [hz] at hst ⊢
  simp [Builtin.clear_, run_underlying Tryz.underlying30, hzv, hst]
theorem Own.allC {α : Type} {c : Cod α} {size : Nat} {e : TypeId} {w : World} {base g n cap : Nat} {l : List α} {xs : List Value} (h : Own c size e w base (.slice (some ⟨g, 0, none⟩) n cap) l xs) {j : Nat} (hj : j < cap * size) : (w.cell? ⟨g, j, none⟩).isSome = true ∧ w.frozen? ⟨g, j, none⟩ = false := by
  rcases h.row.2 with ⟨hv, _⟩ | ⟨g', cap', cur, hv, hb, hgg, hnc, hcm, hcsz, htake⟩
  · cases hv
  injection hv with e1 e2 e3
  injection e1 with e1
  injection e1 with e1
  subst e1 e3
  have hjs : j < cur.size := by omega
  constructor
  · simp [World.cell?, hgg, hjs]
  · simp [World.frozen?, hgg]
theorem Own.cutB {w : World} {base g n cap i : Nat} {R : List (List Value)} {xs zs : List Value} (h : Own rbC 11 37 w base (.slice (some ⟨g, 0, none⟩) n cap) R xs) (hi : i ≤ n) (hz : zs.length = (n - i) * 11) :
    Own rbC 11 37 (w.setCells g (i * 11) zs) base (.slice (some ⟨g, 0, none⟩) i cap) (R.take i) (xs.take (i * 11)) := by
  have hn := h.len
  subst hn
  have hxl : xs.length = R.length * 11 := h.row.1
  have hil : (R.take i).length = i := by rw [List.length_take]; omega
  rcases h.row.2 with ⟨hv, _⟩ | ⟨g', cap', cur, hv, hb, hgg, hnc, hcm, hcsz, htake⟩
  · cases hv
  injection hv with e1 e2 e3
  injection e1 with e1
  injection e1 with e1
  subst e1 e3
  have hB : Blk w g cur.toList.toArray 37 := hgg
  have hcl : cur.toList.length = cap * 11 := by rw [Array.length_toList (xs := cur)]; exact hcsz
  have hfit : i * 11 + zs.length ≤ cur.toList.length := by rw [hz, hcl]; omega
  have hB2 := Blk.setCells zs (i * 11) w cur.toList hB hfit
  refine ⟨⟨by rw [hil, List.length_take]; omega, .inr ⟨g, cap, _, by rw [hil], hb, hB2, by rw [hil]; omega, hcm, ?_, ?_⟩⟩, fun k y hy => ?_⟩
  · simp only [List.size_toArray, List.length_append, List.length_take, List.length_drop, Array.length_toList, hcsz] at hfit ⊢; omega
  · rw [hil, ← htake, List.take_take, List.toList_toArray]
    have h1 : (cur.toList.take (i * 11)).length = i * 11 := by rw [List.length_take, Array.length_toList, hcsz]; omega
    rw [List.append_assoc, List.take_append_of_le_length (by omega), List.take_take]
    congr 1; omega
  · rw [List.getElem?_take] at hy
    by_cases hk : k < i
    · rw [if_pos hk] at hy
      obtain ⟨cs, hc, hl, hcell⟩ := h.el k y hy
      refine ⟨cs, hc, hl, fun j u hu => ?_⟩
      have hj : j < 11 := by have := (List.getElem?_eq_some_iff.1 hu).1; omega
      rw [List.getElem?_take, if_pos (by omega)]
      exact hcell j u hu
    · rw [if_neg hk] at hy; cases hy
theorem fil_snoc {l : List Bkg} {k : Nat} {b : Bkg} (p : Bkg → Bool) (h : l[k]? = some b) : (l.take (k + 1)).filter p = (l.take k).filter p ++ (if p b = true then [b] else []) := by
  rw [take_snoc h, List.filter_append]
  congr 1
  cases hp : p b <;> simp [hp]
set_option maxRecDepth 100000 in
set_option maxHeartbeats 16000000 in
theorem DeleteFunc_bok (A : Option Addr) (n cap base : Nat) (l : List Bkg) (L : List (List Value)) (xs : List Value) (q : Bkg → Bool) (f : Nat) (w : World) (h : Own rbC 11 37 w base (.slice A n cap) L xs) (hs : Sl bkgC 11 w All A n cap l) (hr : BkRow L l) (hn : n ≤ 16)
    (eg : ∀ args w, (callFunc f args).run Tryz.prog w = .ok (.enter f args) w)
    (hq : ∀ (b : Bkg) (v : Value) (w1 : World), Calls Tryz.prog f #[.agg (bkgA b v)] w1 fun e w' => e = .returned (.bool (q b)) ∧ Below w1.heap.size w1 w') :
    Calls Tryz.prog 121 #[.slice A n cap, .func (.func f) #[] #[]] w (fun e w' => ∃ m R xs', e = .returned (.slice A m cap) ∧ Own rbC 11 37 w' base (.slice A m cap) R xs' ∧ BkRow R (l.filter (fun b => !q b)) ∧ Kept (fun j => base ≤ j) w w') := by
  have HIX := Lib.hid (IndexFunc_bkg A n cap l f #[] q w hs eg (fun x v w1 _ _ => hq x v w1))
  have HQ := Lib.hid hq
  have hlen : l.length = n := hs.len
  have HR := Lib.hid hr
  cases hany : l.any q
  · rw [idxF_none hany] at HIX
    have HO := Lib.hid h
    have HF := Lib.hid (show l.filter (fun b => !q b) = l from List.filter_eq_self.2 fun b hb => by
      have := List.any_eq_false.1 hany b hb
      simpa using this)
    clear h hs hr hq hany
    go_enter Tryz.func121, Tryz.ntmps121
    go_wp2_with fail
    refine HIX.out.mono ?_
    rintro e w1 ⟨rfl, hb1⟩
    have HB := Lib.hid hb1
    clear HIX hb1
    go_wp2_with fail
    go_ret
    exact ⟨n, L, xs, rfl, HO.out.bel HB.out, by rw [HF.out]; exact HR.out, Kept.of_below HB.out (fun k h1 h2 => absurd h1 (by omega))⟩
  obtain ⟨k0, x0, hx0, hqx, hk0⟩ : ∃ k0 x0, l[k0]? = some x0 ∧ q x0 = true ∧ (l.take k0).any q = false := by
    have hlt : l.findIdx q < l.length := List.findIdx_lt_length.2 (by simpa using List.any_eq_true.1 hany)
    refine ⟨l.findIdx q, l[l.findIdx q], List.getElem?_eq_getElem hlt, List.findIdx_getElem, List.any_eq_false.2 fun b hb => ?_⟩
    obtain ⟨j, hj, rfl⟩ := List.mem_take_iff_getElem.1 hb
    have := List.not_of_lt_findIdx (show j < l.findIdx q by omega)
    simpa using this
  rw [idxF_at hk0 hx0 hqx] at HIX
  have hk0n : k0 < n := by rw [← hlen]; exact (List.getElem?_eq_some_iff.1 hx0).1
  obtain ⟨g, cap', hA, hg0, hgl⟩ := h.form (by rw [hr.len, hlen]; omega)
  obtain ⟨rfl, hnn, rfl⟩ : A = some ⟨g, 0, none⟩ ∧ n = L.length ∧ cap = cap' := by injection hA with h1 h2 h3; exact ⟨h1, h2, h3⟩
  have HF0 := Lib.hid (show (l.take (k0 + 1)).filter (fun b => !q b) = l.take k0 from by
    rw [fil_snoc _ hx0, hqx, List.filter_eq_self.2 fun b hb => by
      have := List.any_eq_false.1 hk0 b hb
      simpa using this]
    simp)
  have HBR := Lib.hid (show BkRow (L.take k0) (l.take k0) from ⟨by rw [List.length_take, List.length_take, hr.len], fun i b hb => by
    rw [List.getElem?_take] at hb ⊢
    by_cases hi : i < k0
    · rw [if_pos hi] at hb ⊢; exact hr.el i b hb
    · rw [if_neg hi] at hb; cases hb⟩)
  have hle : n ≤ cap := by
    rcases h.row.2 with ⟨hv, _⟩ | ⟨g', cap', cur, hv, hb, hgg, hnc, hcm, hcsz, htake⟩
    · cases hv
    · injection hv with h1 h2 h3; omega
  have hmx : cap ≤ 9223372036854775807 := by
    rcases h.row.2 with ⟨hv, _⟩ | ⟨g', cap', cur, hv, hb, hgg, hnc, hcm, hcsz, htake⟩
    · cases hv
    · injection hv with h1 h2 h3; rw [h3]; exact hcm
  have HO := Lib.hid h
  have HNN := Lib.hid hnn
  have HLEN := Lib.hid hlen
  have hk1 : ((k0 : Int) == -1) = false := by rw [beq_eq_false_iff_ne]; omega
  have hk2 : IntKind.i64.wrap ((k0 : Int) + 1) = ((k0 + 1 : Nat) : Int) := by rw [IntWalk.i64_in _ (by omega)]; omega
  clear h hs hr hq hany hx0 hqx hk0 hA hnn hlen
  go_enter Tryz.func121, Tryz.ntmps121
  go_wp2_with fail
  refine HIX.out.mono ?_
  rintro e w1 ⟨rfl, hb1⟩
  have HO1 := Lib.hid (HO.out.bel hb1)
  have HB1 := Lib.hid hb1
  have hsz1 := hb1.size
  clear HIX hb1
  obtain ⟨W1, hW1⟩ : ∃ V, V = w1 := ⟨_, rfl⟩
  subst hW1
  go_wp2_with fail
  go_loopg [5, 6] n (fun gk iv jv wr => ∃ (i j : Nat) (R : List (List Value)) (ys : List Value), j ≤ n ∧ n - j ≤ gk ∧ i < j ∧ iv = .int .i64 (i : Int) ∧ jv = .int .i64 (j : Int) ∧ R.length = n ∧ R.drop j = L.drop j ∧ i = ((l.take j).filter (fun b => !q b)).length ∧ BkRow (R.take i) ((l.take j).filter (fun b => !q b)) ∧ Own rbC 11 37 wr base (.slice (some ⟨g, 0, none⟩) n cap) R ys ∧ Kept (fun b => b = g) W1 wr)
  case atStart => exact ⟨k0, k0 + 1, L, xs, by omega, by omega, by omega, rfl, by first | rfl | go_num, HNN.out.symm, rfl, by rw [HF0.out, List.length_take]; have := HLEN.out; omega, by rw [HF0.out]; exact HBR.out, HO1.out, Kept.refl _ _⟩
  case round =>
    obtain ⟨i, j, R, ys, hjn, hgj, hij, rfl, rfl, hRl, hRd, hcnt, hBR, hO, hK⟩ := hrel
    obtain ⟨V1, hV1⟩ : ∃ V, V = wr := ⟨_, rfl⟩
    subst hV1
    have hs1 := hK.size
    by_cases hlt : j < n
    · obtain ⟨b, hb⟩ : ∃ b, l[j]? = some b := ⟨_, List.getElem?_eq_getElem (by have := HLEN.out; omega)⟩
      obtain ⟨A3, n3, c3, hLj⟩ := HR.out.el j b hb
      have hRj : R[j]? = some (bkgA b (.slice A3 n3 c3)).toList := by
        have := congrArg (fun l : List (List Value) => l[0]?) hRd
        simp only [List.getElem?_drop, Nat.add_zero] at this
        rw [this]; exact hLj
      obtain ⟨cs, ⟨rfl, hcl, hc1⟩, -, hcell, hfr⟩ := hO.cells hRj
      have HR1 := Lib.hid (show V1.rangeAt g (j * 11) (bkgA b (.slice A3 n3 c3)).toList from hcell)
      have hj0 : (0 : Int) ≤ (j : Int) := Int.natCast_nonneg _
      have hj1 : (j : Int) < (n : Int) := by omega
      have hi0 : (0 : Int) ≤ (i : Int) := Int.natCast_nonneg _
      have hi1 : (i : Int) < (n : Int) := by omega
      obtain ⟨kp, hkp⟩ : ∃ r, r = q b := ⟨_, rfl⟩
      have HFS := Lib.hid (fil_snoc (fun b => !q b) hb)
      have HCALL := Lib.hid (fun X => HQ.out b (.slice A3 n3 c3) X)
      rw [← hkp] at HCALL
      have HRD := Lib.hid (show R.drop (j + 1) = L.drop (j + 1) from by
        have := congrArg (List.drop 1) hRd
        rwa [List.drop_drop, List.drop_drop] at this)
      have HKP := Lib.hid hkp
      clear hkp
      have HBR2 := Lib.hid hBR
      clear hBR
      have HCNT := Lib.hid hcnt
      clear hcnt
      have HRL := Lib.hid hRl
      clear hRl
      have HO2 := Lib.hid hO
      clear hO
      have HK := Lib.hid hK
      clear hK
      clear hb hLj hRj hcl hc1 hcell hfr hRd
      go_upto_region 7 with (fail)
      go_cut [7] (fun p wx => ∃ z, p = .pointer (some ⟨z, 0, none⟩) ∧ V1.heap.size ≤ z ∧ Blk wx z (bkgA b (.slice A3 n3 c3)) 37 ∧ Below V1.heap.size V1 wx)
      case first => as_aux_lemma =>
        go_wp2_with (first | (refine wpList_load_mid rfl 37 (.tmp 24) rfl g (j * 11) rfl (bkgA b (.slice A3 n3 c3)).toList _ HR1.out Tryz.underlying37 (by kernel_rfl) (by kernel_rfl) ?_) | (refine wpList_store_row rfl 37 (.tmp 7) (.tmp 25) rfl V1.heap.size (bkgA b (.slice A3 n3 c3)) rfl rfl 37 _ (Blk.new V1 #[.int .i64 0, .int .i64 0, .int .i64 0, .int .i64 0, .bool false, .int .i64 0, .int .i64 0, .int .i64 0, .int .i64 0, .int .i64 0, .slice none 0 0] 37) (by kernel_rfl) rfl (by simp [Value.oneCell']) ?_))
        go_meet
        exact ⟨_, rfl, Nat.le_refl _, (Blk.new V1 _ _).row _, below_setRow (bel1 V1 _) (Nat.le_refl _) _⟩
      obtain ⟨z, rfl, hzs, hZ, hbz⟩ := hcut
      obtain ⟨V2, hV2⟩ : ∃ V, V = wc := ⟨_, rfl⟩
      subst hV2
      have hs2 := hbz.size
      have HZ := Lib.hid hZ
      clear hZ
      go_wp2_with (refine wpList_load_row rfl 37 (.tmp 7) rfl z rfl 37 _ (0, 0) _ HZ.out Tryz.underlying37 rfl (by kernel_rfl) ?_)
      refine (HCALL.out _).mono ?_
      rintro e w5 ⟨rfl, hb5⟩
      have HZ5 := Lib.hid (HZ.out.bel hb5)
      have HB5 := Lib.hid (hbz.trans (hb5.mono hbz.size))
      have hs5 := hb5.size
      clear hb5 HZ
      cases kp
      · have HNX := Lib.hid (HFS.out.trans (by rw [← HKP.out]; rfl : _ = (l.take j).filter (fun b => !q b) ++ [b]))
        have hO5 := HO2.out.bel HB5.out
        have hiR : i < R.length := by have := HRL.out; omega
        obtain ⟨cs1, -, l1, hr1, ht1⟩ := hO5.range (List.getElem?_eq_getElem hiR)
        have HT := Lib.hid ht1
        have HO5 := Lib.hid hO5
        clear hO5
        clear l1 hr1 ht1 HCALL hbz
        go_upto_region 9 with (fail)
        go_cut [] (fun wx => (∃ zs, Own rbC 11 37 wx base (.slice (some ⟨g, 0, none⟩) n cap) (R.set i (bkgA b (.slice A3 n3 c3)).toList) zs) ∧ Kept (fun k => k = g) w5 wx)
        case first =>
          clear HQ HF0 HBR HO HNN HLEN HO1 HB1 HR HNX HKP HBR2 HCNT HRD HK HFS HB5 HR1
          go_wp2_with (first | (refine wpList_load_row rfl 37 (.tmp 7) rfl z rfl 37 _ (0, 0) _ HZ5.out Tryz.underlying37 rfl (by kernel_rfl) ?_) | (refine wpList_store_mid rfl 37 (.tmp 33) (.tmp 32) rfl g (i * 11) (bkgA b (.slice A3 n3 c3)) rfl rfl HT.out (by kernel_rfl) (bkgA_one _ _ _ _) ?_))
          go_meet
          exact ⟨⟨_, HO5.out.setEl rbC_good hiR rfl ⟨rfl, rfl, bkgA_ones _ _ _ _⟩⟩, kept_setCells g _ _ _⟩
        obtain ⟨⟨zs, hO6⟩, hK6⟩ := hcut
        have HO6 := Lib.hid hO6
        have HK6 := Lib.hid hK6
        clear hO6 hK6
        go_wp2_with fail
        go_roundg (n - (j + 1))
        case measure => omega
        case rel => exact ⟨i + 1, j + 1, R.set i (bkgA b (.slice A3 n3 c3)).toList, zs, by omega, by omega, by omega, by go_num, by go_num, by rw [List.length_set]; exact HRL.out, by rw [List.drop_set_of_lt (by omega)]; exact HRD.out, by rw [HNX.out, List.length_append, ← HCNT.out]; rfl, by rw [HNX.out]; exact HBR2.out.step hiR, HO6.out, HK.out.trans ((Kept.of_below HB5.out (fun k h1 h2 => absurd h1 (by omega))).trans HK6.out)⟩
      · have HNX := Lib.hid (HFS.out.trans (by rw [← HKP.out]; simp : _ = (l.take j).filter (fun b => !q b)))
        clear HCALL hbz
        go_wp2_with fail
        go_roundg (n - (j + 1))
        case measure => omega
        case rel => exact ⟨i, j + 1, R, ys, by omega, by omega, by omega, rfl, by go_num, HRL.out, HRD.out, by rw [HNX.out]; exact HCNT.out, by rw [HNX.out]; exact HBR2.out, HO2.out.bel HB5.out, HK.out.trans (Kept.of_below HB5.out (fun k h1 h2 => absurd h1 (by omega)))⟩
    · obtain rfl : j = n := by omega
      obtain ⟨zs, hzl, hclr⟩ := run_clearB (w := V1) (g := g) (o := i * 11) (m := j - i) (c := cap - i) (by omega) (fun t ht => (hO.allC (j := i * 11 + t) (by omega)).1) (fun t ht => (hO.allC (j := i * 11 + t) (by omega)).2) 0
      have hi0 : (0 : Int) ≤ (i : Int) := Int.natCast_nonneg _
      have hi1 : (i : Int) ≤ (j : Int) := by omega
      have l4 : ¬ cap = i := by omega
      have HO2 := Lib.hid hO
      have HK := Lib.hid hK
      clear hK
      have HBR2 := Lib.hid hBR
      clear hBR
      clear hO hcnt hRd
      go_wp2_with fail
      go_ret
      have hk := kept_setCells g zs (i * 11) V1
      have hT : l.take j = l := List.take_of_length_le (by have := HLEN.out; omega)
      have hB := HBR2.out
      rw [hT] at hB
      exact ⟨i, R.take i, _, rfl, HO2.out.cutB (by omega) hzl, hB, (Kept.of_below HB1.out (fun k h1 h2 => absurd h1 (by omega))).trans ((HK.out.trans hk).mono fun k _ e => by omega)⟩
end Go.Proofs.YtoilcdgpeilgaaaGreat
