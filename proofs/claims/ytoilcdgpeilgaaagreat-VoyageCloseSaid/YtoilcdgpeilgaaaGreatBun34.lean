/-
  Words, laws and contracts: VoyG.
-/
import Derived.Test.YtoilcdgpeilgaaaGreatBun33
import Derived.BigQuiet
set_option linter.unusedSimpArgs false
set_option linter.unusedVariables false
namespace Go.Proofs.YtoilcdgpeilgaaaGreat
open Go.RowKit Go.Shelf
def planQ (b : Bkg) : Bool := !liveB b || decide (b.cab < 0)
def planL (x : Sai) : List Edg := (x.bks.filter (fun b => !planQ b)).map (fun b => ⟨b.id, b.cab⟩)
set_option maxRecDepth 100000 in
set_option maxHeartbeats 1000000 in
theorem planQ_any (b : Bkg) (v : Value) (w : World) : Calls Tryz.prog 123 #[.agg (bkgA b v)] w fun e w' => e = .returned (.bool (planQ b)) ∧ Below w.heap.size w w' := by
  obtain ⟨id, kind, state, gst, lev, cab, cat, frm, upto, til, fol⟩ := b
  obtain ⟨r, hr⟩ : ∃ r, r = planQ ⟨id, kind, state, gst, lev, cab, cat, frm, upto, til, fol⟩ := ⟨_, rfl⟩
  rw [← hr]
  have hL := fun W => Live_any ⟨id, kind, state, gst, lev, cab, cat, frm, upto, til, fol⟩ v W
  obtain ⟨q, hq⟩ : ∃ q, q = liveB ⟨id, kind, state, gst, lev, cab, cat, frm, upto, til, fol⟩ := ⟨_, rfl⟩
  have HR := Lib.hid (show r = (!q || decide (cab < 0)) by rw [hr, hq]; rfl)
  rw [← hq] at hL
  have HL := Lib.hid hL
  clear hL
  clear hq hr
  go_enter Tryz.func123, Tryz.ntmps123
  go_upto_region 0 with (fail)
  go_cut [1, 2] (fun p _ wx => ∃ h, p = .pointer (some ⟨h, 0, none⟩) ∧ Blk wx h (bkgA ⟨id, kind, state, gst, lev, cab, cat, frm, upto, til, fol⟩ v) 37 ∧ Below w.heap.size w wx)
  case first => as_aux_lemma =>
    go_wp2_with fail
    go_meet
    exact ⟨_, rfl, blk1 _ _, bel1 _ _⟩
  obtain ⟨h, rfl, hH, hbw⟩ := hcut
  have z0 : wc.cell? ⟨h, 0, none⟩ = some (.int .i64 id) := hH.cell rfl
  have z1 : wc.cell? ⟨h, 1, none⟩ = some (.int .i64 kind) := hH.cell rfl
  have z2 : wc.cell? ⟨h, 2, none⟩ = some (.int .i64 state) := hH.cell rfl
  have z3 : wc.cell? ⟨h, 3, none⟩ = some (.int .i64 gst) := hH.cell rfl
  have z4 : wc.cell? ⟨h, 4, none⟩ = some (.bool lev) := hH.cell rfl
  have z5 : wc.cell? ⟨h, 5, none⟩ = some (.int .i64 cab) := hH.cell rfl
  have z6 : wc.cell? ⟨h, 6, none⟩ = some (.int .i64 cat) := hH.cell rfl
  have z7 : wc.cell? ⟨h, 7, none⟩ = some (.int .i64 frm) := hH.cell rfl
  have z8 : wc.cell? ⟨h, 8, none⟩ = some (.int .i64 upto) := hH.cell rfl
  have z9 : wc.cell? ⟨h, 9, none⟩ = some (.int .i64 til) := hH.cell rfl
  have z10 : wc.cell? ⟨h, 10, none⟩ = some (v) := hH.cell rfl
  go_wp2_with fail
  refine (HL.out _).mono ?_
  rintro e w2 ⟨rfl, hb2⟩
  replace hH := hH.bel hb2
  replace hbw := hbw.trans (hb2.mono hbw.size)
  clear hb2 z0 z1 z2 z3 z4 z5 z6 z7 z8 z9 z10
  have z5 : w2.cell? ⟨h, 5, none⟩ = some (.int .i64 cab) := hH.cell rfl
  cases q
  · obtain rfl : r = true := HR.out
    go_wp2_with fail
    go_ret
    exact ⟨rfl, hbw⟩
  · obtain rfl : r = decide (cab < 0) := HR.out
    go_wp2_with fail
    go_ret
    exact ⟨rfl, hbw⟩
set_option maxRecDepth 100000 in
set_option maxHeartbeats 16000000 in
theorem Plan_any (x : Sai) (p : SaiV) (w : World) (hS : SaiR w x p) :
    Calls Tryz.prog 44 #[.agg (saiA x p)] w fun e w' => ∃ v xs, e = .returned (.tuple #[v, .int .i64 (saiE x)]) ∧ Own edgC 2 115 w' w.heap.size v (okL (saiE x) (planL x)) xs ∧ Below w.heap.size w w' := by
  have HCK := Lib.hid (fun X hX => saiCheck_any x p X hX)
  obtain ⟨L, hL0, hP0⟩ := hS.bks.raw bkgC_good
  have HRW := Lib.hid hP0.bkRow
  have HCL := Lib.hid (fun W (hb : Below w.heap.size w W) (h16 : x.bks.length ≤ 16) => Clone_bok p.C p.nb p.cb L W (hL0.bel hb) (by have := hS.bks.len; omega))
  have HPT := Lib.hid hP0
  obtain ⟨r, hr⟩ : ∃ r, r = saiE x := ⟨_, rfl⟩
  have HRE := Lib.hid hr
  rw [← hr] at HCK
  rw [← hr]
  have HS := Lib.hid hS
  clear hr hS hL0 hP0
  obtain ⟨A, n, cap, B, m, cap2, D, nd, cd, E, ne, ce, C, nb, cb⟩ := p
  simp only at HCL
  go_enter Tryz.func44, Tryz.ntmps44
  go_upto_region 0 with (fail)
  go_cut [1, 2, 3] (fun p p2 p3 wx => ∃ g, p = .pointer (some ⟨g, 0, none⟩) ∧ p2 = .slice none 0 0 ∧ p3 = .int .i64 0 ∧ Blk wx g (saiA x ⟨A, n, cap, B, m, cap2, D, nd, cd, E, ne, ce, C, nb, cb⟩) 32 ∧ Below w.heap.size w wx)
  case first => as_aux_lemma =>
    go_wp2_with fail
    go_meet
    exact ⟨_, rfl, rfl, rfl, blk1 _ _, bel1 _ _⟩
  obtain ⟨g, rfl, rfl, rfl, hG, hb⟩ := hcut
  have HC := Lib.hid (HCK.out _ (HS.out.bel hb))
  go_wp2_with (refine wpList_load_row rfl 32 (.tmp 1) rfl g rfl 32 _ (0, 0) _ hG Tryz.underlying32 rfl (by kernel_rfl) ?_)
  refine HC.out.mono ?_
  rintro e w1 ⟨rfl, hb1⟩
  have hG1 := hG.bel hb1
  replace hb := hb.trans (hb1.mono hb.size)
  clear hb1 HC HCK hG
  by_cases q0 : r = 0
  rotate_left
  · have q1 : (r != 0) = true := by simpa using q0
    have Q0 := Lib.hid q0
    clear q0 hG1
    go_wp2_with fail
    go_ret2
    exact ⟨.slice none 0 0, [], rfl, by rw [okL_ne Q0.out]; exact Own.nil _ _ _ _ _, hb⟩
  have HOK := Lib.hid (sai_ok (HRE.out.symm.trans q0))
  have g11 : w1.cell? ⟨g, 11, none⟩ = some (.slice C nb cb) := hG1.cell rfl
  have HC := Lib.hid (HCL.out w1 hb HOK.out.bs.len)
  have HNB := Lib.hid (show x.bks.length = nb from HS.out.bks.len)
  subst q0
  clear HCL HRE hG1
  go_wp2_with fail
  refine HC.out.mono ?_
  rintro e w2 ⟨v, xs, rfl, hO, hb2⟩
  have hsz1 := hb.size
  replace hb := hb.trans (hb2.mono hb.size)
  obtain ⟨A2, n2, c2, rfl, hs2⟩ := hO.sl rbC_good
  have hn2 : L.length = n2 := hs2.len
  have h16 : n2 ≤ 16 := by have := HOK.out.bs.len; have := HRW.out.len; omega
  have hpt : Pts bkgC w2 L x.bks := Pts.bel (size := 11) HPT.out hb
  have HDF := Lib.hid (DeleteFunc_bok A2 n2 c2 w1.heap.size x.bks L xs planQ 123 w2 hO ((hs2.all rbC_good (by omega)).unraw hpt) HRW.out h16 (enters_of Tryz.func123 (by kernel_rfl) rfl) (fun b v W => planQ_any b v W))
  have HB := Lib.hid hb
  have hsz2 := hb2.size
  clear hO hb2 hs2 hpt hb HC g11
  go_wp2_with fail
  refine HDF.out.mono ?_
  rintro e w3 ⟨m, R, xs', rfl, hO3, hR3, hK3⟩
  have hb3 : Below w.heap.size w w3 := HB.out.trans (hK3.below HB.out.size (fun k hk e => by omega))
  have hRl : R.length = m := by
    rcases hO3.row.2 with ⟨hv, h0⟩ | ⟨g', cap', cur, hv, _⟩
    · injection hv with h1 h2 h3; omega
    · injection hv with h1 h2 h3; exact h2.symm
  obtain ⟨W3, hW3⟩ : ∃ V, V = w3 := ⟨_, rfl⟩
  subst hW3
  have HB3 := Lib.hid hb3
  have hm16 : m ≤ 16 := by
    have h1 := hR3.len
    have h2 := List.length_filter_le (fun b => !planQ b) x.bks
    have := HOK.out.bs.len
    omega
  obtain ⟨K, hK⟩ : ∃ K, K = x.bks.filter (fun b => !planQ b) := ⟨_, rfl⟩
  rw [← hK] at hR3
  have HKK := Lib.hid (show planL x = K.map (fun b => ⟨b.id, b.cab⟩) by rw [hK]; rfl)
  have HIN := Lib.hid (fun b (hb : b ∈ K) => (show ∃ (A3 : Option Addr) (n3 c3 : Nat), BkIn b from by
    rw [hK] at hb
    have hb2 := (List.mem_filter.1 hb).1
    obtain ⟨i, hi⟩ := List.getElem?_of_mem hb2
    obtain ⟨_, _, _, _, _, ⟨A4, n4, c4, _, _, hI⟩, _⟩ := HS.out.bks.rd i b hi
    exact ⟨A4, n4, c4, hI⟩))
  have HR3 := Lib.hid hR3
  have HRL := Lib.hid hRl
  have HKL := Lib.hid (show K.length = m by rw [← hRl]; exact hR3.len.symm)
  have HO3 := Lib.hid hO3
  clear hO3
  clear hb3 hK3 hR3 hRl hK HDF
  go_wp2_with fail
  go_loopg [5, 18] m (fun gk v i wr => ∃ (k : Nat) (ys : List Value) (vo : Value), k ≤ m ∧ m - k ≤ gk ∧ i = .int .i64 k ∧ vo = v ∧ Own edgC 2 115 wr W3.heap.size vo ((K.take k).map (fun b => (⟨b.id, b.cab⟩ : Edg))) ys ∧ Below W3.heap.size W3 wr)
  case atStart => exact ⟨0, [], _, Nat.zero_le _, by omega, rfl, rfl, by rw [List.take_zero]; exact Own.nil _ _ _ _ _, Below.refl _ _⟩
  case round =>
    obtain ⟨k, ys, vo, hk, hgk, rfl, rfl, hO, hb⟩ := hrel
    obtain ⟨V1, hV1⟩ : ∃ V, V = wr := ⟨_, rfl⟩
    subst hV1
    by_cases hlt : k < m
    · obtain ⟨b, hbk⟩ : ∃ b, K[k]? = some b := ⟨_, List.getElem?_eq_getElem (by have := HKL.out; omega)⟩
      obtain ⟨A3, n3, c3, hRk⟩ := HR3.out.el k b hbk
      obtain ⟨g2, cap2', hv2, hg20, hg2l⟩ := HO3.out.form (by have := HRL.out; omega)
      obtain ⟨rfl, -, rfl⟩ : A2 = some ⟨g2, 0, none⟩ ∧ m = R.length ∧ c2 = cap2' := by injection hv2 with h1 h2 h3; exact ⟨h1, h2, h3⟩
      obtain ⟨cs, ⟨rfl, _, _⟩, -, hcell, _⟩ := (HO3.out.bel hb).cells hRk
      have HR1 := Lib.hid (show V1.rangeAt g2 (k * 11) (bkgA b (.slice A3 n3 c3)).toList from hcell)
      have HNX := Lib.hid (show (K.take (k + 1)).map (fun b => (⟨b.id, b.cab⟩ : Edg)) = (K.take k).map (fun b => (⟨b.id, b.cab⟩ : Edg)) ++ [⟨b.id, b.cab⟩] by rw [take_snoc hbk, List.map_append]; rfl)
      obtain ⟨-, -, -, hI⟩ := HIN.out b (List.mem_of_getElem? hbk)
      have hk0 : (0 : Int) ≤ (k : Int) := Int.natCast_nonneg _
      have hk1 : (k : Int) < (m : Int) := by omega
      have hI0 := Lib.hid hI.id
      have hI5 := Lib.hid hI.cab
      have hol := hO.lt
      have HO := Lib.hid hO
      clear hO
      clear hbk hRk hv2 hcell hI
      go_upto_region 7 with (fail)
      go_cut [7] (fun p wx => ∃ z, p = .pointer (some ⟨z, 0, none⟩) ∧ V1.heap.size ≤ z ∧ Blk wx z (bkgA b (.slice A3 n3 c3)) 37 ∧ Below V1.heap.size V1 wx)
      case first => as_aux_lemma =>
        go_wp2_with (first | (refine wpList_load_mid rfl 37 (.tmp 20) rfl g2 (k * 11) rfl (bkgA b (.slice A3 n3 c3)).toList _ HR1.out Tryz.underlying37 (by kernel_rfl) (by kernel_rfl) ?_) | (refine wpList_store_row rfl 37 (.tmp 7) (.tmp 21) rfl V1.heap.size (bkgA b (.slice A3 n3 c3)) rfl rfl 37 _ (Blk.new V1 #[.int .i64 0, .int .i64 0, .int .i64 0, .int .i64 0, .bool false, .int .i64 0, .int .i64 0, .int .i64 0, .int .i64 0, .int .i64 0, .slice none 0 0] 37) (by kernel_rfl) rfl (by simp [Value.oneCell']) ?_))
        go_meet
        exact ⟨_, rfl, Nat.le_refl _, (Blk.new V1 _ _).row _, below_setRow (bel1 V1 _) (Nat.le_refl _) _⟩
      obtain ⟨z, rfl, hzs, hZ, hbz⟩ := hcut
      obtain ⟨V2, hV2⟩ : ∃ V, V = wc := ⟨_, rfl⟩
      subst hV2
      have hO := HO.out.bel hbz
      have hzo : vo.ownBlock ≠ some z := fun e => by have := (hol z e).2; omega
      replace hb := hb.trans (hbz.mono hb.size)
      have z0 : V2.cell? ⟨z, 0, none⟩ = some (.int .i64 b.id) := hZ.cell rfl
      have z5 : V2.cell? ⟨z, 5, none⟩ = some (.int .i64 b.cab) := hZ.cell rfl
      have hzl := hZ.lt
      have hll : ((K.take k).map (fun b => (⟨b.id, b.cab⟩ : Edg))).length ≤ 16 := by rw [List.length_map, List.length_take]; omega
      have hby : (((K.take k).map (fun b => (⟨b.id, b.cab⟩ : Edg))).length + 1) * 16 ≤ 140737488355328 := by omega
      have HOL := Lib.hid (hO.bel (bel1 V2 (.cells #[.int .i64 b.id, .int .i64 b.cab] 115)))
      have hs20 : W3.heap.size ≤ (V2.alloc (.cells #[.int .i64 b.id, .int .i64 b.cab] 115)).heap.size := by have := hb.size; simp; omega
      have HSL := Lib.hid (sl_edg V2 All b.id b.cab 115 hI0.out hI5.out trivial)
      have HB4 := Lib.hid (hb.trans ((bel1 V2 (.cells #[.int .i64 b.id, .int .i64 b.cab] 115)).mono hb.size))
      clear hZ hbz HO hol hO hb hll
      go_wp2_with (at_builtin; refine list_app (t := 65) (e := 115) (bytes := 16) rfl (.tmp 22) (.tmp 28) rfl edg_elem edgC_good rfl HOL.out rfl HSL.out (fun _ _ hc => hc) hby (by omega) hs20 ?_; intro v' w' ys' hown' hg' hat'; have HOWN := Lib.hid hown'; have HGR2 := Lib.hid hg'; clear hown' hg' hat')
      go_roundg (m - (k + 1))
      case measure => omega
      case rel => exact ⟨k + 1, ys', v', by omega, by omega, by go_num, rfl, by rw [HNX.out]; exact HOWN.out, below_app HB4.out HOL.out HGR2.out HB4.out.size⟩
    · obtain rfl : k = m := by omega
      rw [List.take_of_length_le (by have := HKL.out; omega)] at hO
      have HO := Lib.hid hO
      clear hO
      have hb5 := HB3.out.trans (hb.mono HB3.out.size)
      have HB5 := Lib.hid hb5
      clear hb5
      have hs35 := HB3.out.size
      clear hb
      go_wp2_with fail
      go_ret2
      exact ⟨_, ys, rfl, by rw [okL_zero, HKK.out]; exact HO.out.mono edgC_good hs35, HB5.out⟩
end Go.Proofs.YtoilcdgpeilgaaaGreat
