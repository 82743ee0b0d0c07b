/-
  Words, laws and contracts: VoyG, VoyH.
-/
import Derived.Test.YtoilcdgpeilgaaaGreatBun29
import Derived.BigQuiet
set_option linter.unusedSimpArgs false
set_option linter.unusedVariables false
namespace Go.Proofs.YtoilcdgpeilgaaaGreat
open Go.RowKit Go.Shelf
def planQ (b : Bkg) : Bool := !liveB b || decide (b.cab < 0)
def planL (x : Sai) : List Edg := (x.bks.filter (fun b => !planQ b)).map (fun b => ⟨b.id, b.cab⟩)
set_option maxRecDepth 100000 in
set_option maxHeartbeats 1000000 in
theorem planQ_any (b : Bkg) (v : Value) (w : World) : Calls Tryz.prog 123 #[.agg (bkgA b v)] w fun e w' => e = .returned (.bool (planQ b)) ∧ Below w.heap.size w w' := by
  obtain ⟨id, kind, state, gst, lev, cab, cat, frm, upto, til, fol⟩ := b
  obtain ⟨r, hr⟩ : ∃ r, r = planQ ⟨id, kind, state, gst, lev, cab, cat, frm, upto, til, fol⟩ := ⟨_, rfl⟩
  rw [← hr]
  have hL := fun W => Live_any ⟨id, kind, state, gst, lev, cab, cat, frm, upto, til, fol⟩ v W
  obtain ⟨q, hq⟩ : ∃ q, q = liveB ⟨id, kind, state, gst, lev, cab, cat, frm, upto, til, fol⟩ := ⟨_, rfl⟩
  have HR := Lib.hid (show r = (!q || decide (cab < 0)) by rw [hr, hq]; rfl)
  rw [← hq] at hL
  have HL := Lib.hid hL
  clear hL
  clear hq hr
  go_enter Tryz.func123, Tryz.ntmps123
  go_upto_region 0 with (fail)
  go_cut [1, 2] (fun p _ wx => ∃ h, p = .pointer (some ⟨h, 0, none⟩) ∧ Blk wx h (bkgA ⟨id, kind, state, gst, lev, cab, cat, frm, upto, til, fol⟩ v) 37 ∧ Below w.heap.size w wx)
  case first => as_aux_lemma =>
    go_wp2_with fail
    go_meet
    exact ⟨_, rfl, blk1 _ _, bel1 _ _⟩
  obtain ⟨h, rfl, hH, hbw⟩ := hcut
  have z0 : wc.cell? ⟨h, 0, none⟩ = some (.int .i64 id) := hH.cell rfl
  have z1 : wc.cell? ⟨h, 1, none⟩ = some (.int .i64 kind) := hH.cell rfl
  have z2 : wc.cell? ⟨h, 2, none⟩ = some (.int .i64 state) := hH.cell rfl
  have z3 : wc.cell? ⟨h, 3, none⟩ = some (.int .i64 gst) := hH.cell rfl
  have z4 : wc.cell? ⟨h, 4, none⟩ = some (.bool lev) := hH.cell rfl
  have z5 : wc.cell? ⟨h, 5, none⟩ = some (.int .i64 cab) := hH.cell rfl
  have z6 : wc.cell? ⟨h, 6, none⟩ = some (.int .i64 cat) := hH.cell rfl
  have z7 : wc.cell? ⟨h, 7, none⟩ = some (.int .i64 frm) := hH.cell rfl
  have z8 : wc.cell? ⟨h, 8, none⟩ = some (.int .i64 upto) := hH.cell rfl
  have z9 : wc.cell? ⟨h, 9, none⟩ = some (.int .i64 til) := hH.cell rfl
  have z10 : wc.cell? ⟨h, 10, none⟩ = some (v) := hH.cell rfl
  go_wp2_with fail
  refine (HL.out _).mono ?_
  rintro e w2 ⟨rfl, hb2⟩
  replace hH := hH.bel hb2
  replace hbw := hbw.trans (hb2.mono hbw.size)
  clear hb2 z0 z1 z2 z3 z4 z5 z6 z7 z8 z9 z10
  have z5 : w2.cell? ⟨h, 5, none⟩ = some (.int .i64 cab) := hH.cell rfl
  cases q
  · obtain rfl : r = true := HR.out
    go_wp2_with fail
    go_ret
    exact ⟨rfl, hbw⟩
  · obtain rfl : r = decide (cab < 0) := HR.out
    go_wp2_with fail
    go_ret
    exact ⟨rfl, hbw⟩
set_option maxRecDepth 100000 in
set_option maxHeartbeats 16000000 in
theorem Plan_any (x : Sai) (p : SaiV) (w : World) (hS : SaiR w x p) :
    Calls Tryz.prog 44 #[.agg (saiA x p)] w fun e w' => ∃ v xs, e = .returned (.tuple #[v, .int .i64 (saiE x)]) ∧ Own edgC 2 115 w' w.heap.size v (okL (saiE x) (planL x)) xs ∧ Below w.heap.size w w' := by
  have HCK := Lib.hid (fun X hX => saiCheck_any x p X hX)
  obtain ⟨L, hL0, hP0⟩ := hS.bks.raw bkgC_good
  have HRW := Lib.hid hP0.bkRow
  have HCL := Lib.hid (fun W (hb : Below w.heap.size w W) (h16 : x.bks.length ≤ 16) => Clone_bok p.C p.nb p.cb L W (hL0.bel hb) (by have := hS.bks.len; omega))
  have HPT := Lib.hid hP0
  obtain ⟨r, hr⟩ : ∃ r, r = saiE x := ⟨_, rfl⟩
  have HRE := Lib.hid hr
  rw [← hr] at HCK
  rw [← hr]
  have HS := Lib.hid hS
  clear hr hS hL0 hP0
  obtain ⟨A, n, cap, B, m, cap2, D, nd, cd, E, ne, ce, C, nb, cb⟩ := p
  simp only at HCL
  go_enter Tryz.func44, Tryz.ntmps44
  go_upto_region 0 with (fail)
  go_cut [1, 2, 3] (fun p p2 p3 wx => ∃ g, p = .pointer (some ⟨g, 0, none⟩) ∧ p2 = .slice none 0 0 ∧ p3 = .int .i64 0 ∧ Blk wx g (saiA x ⟨A, n, cap, B, m, cap2, D, nd, cd, E, ne, ce, C, nb, cb⟩) 32 ∧ Below w.heap.size w wx)
  case first => as_aux_lemma =>
    go_wp2_with fail
    go_meet
    exact ⟨_, rfl, rfl, rfl, blk1 _ _, bel1 _ _⟩
  obtain ⟨g, rfl, rfl, rfl, hG, hb⟩ := hcut
  have HC := Lib.hid (HCK.out _ (HS.out.bel hb))
  go_wp2_with (refine wpList_load_row rfl 32 (.tmp 1) rfl g rfl 32 _ (0, 0) _ hG Tryz.underlying32 rfl (by kernel_rfl) ?_)
  refine HC.out.mono ?_
  rintro e w1 ⟨rfl, hb1⟩
  have hG1 := hG.bel hb1
  replace hb := hb.trans (hb1.mono hb.size)
  clear hb1 HC HCK hG
  by_cases q0 : r = 0
  rotate_left
  · have q1 : (r != 0) = true := by simpa using q0
    have Q0 := Lib.hid q0
    clear q0 hG1
    go_wp2_with fail
    go_ret2
    exact ⟨.slice none 0 0, [], rfl, by rw [okL_ne Q0.out]; exact Own.nil _ _ _ _ _, hb⟩
  have HOK := Lib.hid (sai_ok (HRE.out.symm.trans q0))
  have g11 : w1.cell? ⟨g, 11, none⟩ = some (.slice C nb cb) := hG1.cell rfl
  have HC := Lib.hid (HCL.out w1 hb HOK.out.bs.len)
  have HNB := Lib.hid (show x.bks.length = nb from HS.out.bks.len)
  subst q0
  clear HCL HRE hG1
  go_wp2_with fail
  refine HC.out.mono ?_
  rintro e w2 ⟨v, xs, rfl, hO, hb2⟩
  have hsz1 := hb.size
  replace hb := hb.trans (hb2.mono hb.size)
  obtain ⟨A2, n2, c2, rfl, hs2⟩ := hO.sl rbC_good
  have hn2 : L.length = n2 := hs2.len
  have h16 : n2 ≤ 16 := by have := HOK.out.bs.len; have := HRW.out.len; omega
  have hpt : Pts bkgC w2 L x.bks := Pts.bel (size := 11) HPT.out hb
  have HDF := Lib.hid (DeleteFunc_bok A2 n2 c2 w1.heap.size x.bks L xs planQ 123 w2 hO ((hs2.all rbC_good (by omega)).unraw hpt) HRW.out h16 (enters_of Tryz.func123 (by kernel_rfl) rfl) (fun b v W => planQ_any b v W))
  have HB := Lib.hid hb
  have hsz2 := hb2.size
  clear hO hb2 hs2 hpt hb HC g11
  go_wp2_with fail
  refine HDF.out.mono ?_
  rintro e w3 ⟨m, R, xs', rfl, hO3, hR3, hK3⟩
  have hb3 : Below w.heap.size w w3 := HB.out.trans (hK3.below HB.out.size (fun k hk e => by omega))
  have hRl : R.length = m := by
    rcases hO3.row.2 with ⟨hv, h0⟩ | ⟨g', cap', cur, hv, _⟩
    · injection hv with h1 h2 h3; omega
    · injection hv with h1 h2 h3; exact h2.symm
  obtain ⟨W3, hW3⟩ : ∃ V, V = w3 := ⟨_, rfl⟩
  subst hW3
  have HB3 := Lib.hid hb3
  have hm16 : m ≤ 16 := by
    have h1 := hR3.len
    have h2 := List.length_filter_le (fun b => !planQ b) x.bks
    have := HOK.out.bs.len
    omega
  obtain ⟨K, hK⟩ : ∃ K, K = x.bks.filter (fun b => !planQ b) := ⟨_, rfl⟩
  rw [← hK] at hR3
  have HKK := Lib.hid (show planL x = K.map (fun b => ⟨b.id, b.cab⟩) by rw [hK]; rfl)
  have HIN := Lib.hid (fun b (hb : b ∈ K) => (show ∃ (A3 : Option Addr) (n3 c3 : Nat), BkIn b from by
    rw [hK] at hb
    have hb2 := (List.mem_filter.1 hb).1
    obtain ⟨i, hi⟩ := List.getElem?_of_mem hb2
    obtain ⟨_, _, _, _, _, ⟨A4, n4, c4, _, _, hI⟩, _⟩ := HS.out.bks.rd i b hi
    exact ⟨A4, n4, c4, hI⟩))
  have HR3 := Lib.hid hR3
  have HRL := Lib.hid hRl
  have HKL := Lib.hid (show K.length = m by rw [← hRl]; exact hR3.len.symm)
  have HO3 := Lib.hid hO3
  clear hO3
  clear hb3 hK3 hR3 hRl hK HDF
  go_wp2_with fail
  go_loopg [5, 18] m (fun gk v i wr => ∃ (k : Nat) (ys : List Value) (vo : Value), k ≤ m ∧ m - k ≤ gk ∧ i = .int .i64 k ∧ vo = v ∧ Own edgC 2 115 wr W3.heap.size vo ((K.take k).map (fun b => (⟨b.id, b.cab⟩ : Edg))) ys ∧ Below W3.heap.size W3 wr)
  case atStart => exact ⟨0, [], _, Nat.zero_le _, by omega, rfl, rfl, by rw [List.take_zero]; exact Own.nil _ _ _ _ _, Below.refl _ _⟩
  case round =>
    obtain ⟨k, ys, vo, hk, hgk, rfl, rfl, hO, hb⟩ := hrel
    obtain ⟨V1, hV1⟩ : ∃ V, V = wr := ⟨_, rfl⟩
    subst hV1
    by_cases hlt : k < m
    · obtain ⟨b, hbk⟩ : ∃ b, K[k]? = some b := ⟨_, List.getElem?_eq_getElem (by have := HKL.out; omega)⟩
      obtain ⟨A3, n3, c3, hRk⟩ := HR3.out.el k b hbk
      obtain ⟨g2, cap2', hv2, hg20, hg2l⟩ := HO3.out.form (by have := HRL.out; omega)
      obtain ⟨rfl, -, rfl⟩ : A2 = some ⟨g2, 0, none⟩ ∧ m = R.length ∧ c2 = cap2' := by injection hv2 with h1 h2 h3; exact ⟨h1, h2, h3⟩
      obtain ⟨cs, ⟨rfl, _, _⟩, -, hcell, _⟩ := (HO3.out.bel hb).cells hRk
      have HR1 := Lib.hid (show V1.rangeAt g2 (k * 11) (bkgA b (.slice A3 n3 c3)).toList from hcell)
      have HNX := Lib.hid (show (K.take (k + 1)).map (fun b => (⟨b.id, b.cab⟩ : Edg)) = (K.take k).map (fun b => (⟨b.id, b.cab⟩ : Edg)) ++ [⟨b.id, b.cab⟩] by rw [take_snoc hbk, List.map_append]; rfl)
      obtain ⟨-, -, -, hI⟩ := HIN.out b (List.mem_of_getElem? hbk)
      have hk0 : (0 : Int) ≤ (k : Int) := Int.natCast_nonneg _
      have hk1 : (k : Int) < (m : Int) := by omega
      have hI0 := Lib.hid hI.id
      have hI5 := Lib.hid hI.cab
      have hol := hO.lt
      have HO := Lib.hid hO
      clear hO
      clear hbk hRk hv2 hcell hI
      go_upto_region 7 with (fail)
      go_cut [7] (fun p wx => ∃ z, p = .pointer (some ⟨z, 0, none⟩) ∧ V1.heap.size ≤ z ∧ Blk wx z (bkgA b (.slice A3 n3 c3)) 37 ∧ Below V1.heap.size V1 wx)
      case first => as_aux_lemma =>
        go_wp2_with (first | (refine wpList_load_mid rfl 37 (.tmp 20) rfl g2 (k * 11) rfl (bkgA b (.slice A3 n3 c3)).toList _ HR1.out Tryz.underlying37 (by kernel_rfl) (by kernel_rfl) ?_) | (refine wpList_store_row rfl 37 (.tmp 7) (.tmp 21) rfl V1.heap.size (bkgA b (.slice A3 n3 c3)) rfl rfl 37 _ (Blk.new V1 #[.int .i64 0, .int .i64 0, .int .i64 0, .int .i64 0, .bool false, .int .i64 0, .int .i64 0, .int .i64 0, .int .i64 0, .int .i64 0, .slice none 0 0] 37) (by kernel_rfl) rfl (by simp [Value.oneCell']) ?_))
        go_meet
        exact ⟨_, rfl, Nat.le_refl _, (Blk.new V1 _ _).row _, below_setRow (bel1 V1 _) (Nat.le_refl _) _⟩
      obtain ⟨z, rfl, hzs, hZ, hbz⟩ := hcut
      obtain ⟨V2, hV2⟩ : ∃ V, V = wc := ⟨_, rfl⟩
      subst hV2
      have hO := HO.out.bel hbz
      have hzo : vo.ownBlock ≠ some z := fun e => by have := (hol z e).2; omega
      replace hb := hb.trans (hbz.mono hb.size)
      have z0 : V2.cell? ⟨z, 0, none⟩ = some (.int .i64 b.id) := hZ.cell rfl
      have z5 : V2.cell? ⟨z, 5, none⟩ = some (.int .i64 b.cab) := hZ.cell rfl
      have hzl := hZ.lt
      have hll : ((K.take k).map (fun b => (⟨b.id, b.cab⟩ : Edg))).length ≤ 16 := by rw [List.length_map, List.length_take]; omega
      have hby : (((K.take k).map (fun b => (⟨b.id, b.cab⟩ : Edg))).length + 1) * 16 ≤ 140737488355328 := by omega
      have HOL := Lib.hid (hO.bel (bel1 V2 (.cells #[.int .i64 b.id, .int .i64 b.cab] 115)))
      have hs20 : W3.heap.size ≤ (V2.alloc (.cells #[.int .i64 b.id, .int .i64 b.cab] 115)).heap.size := by have := hb.size; simp; omega
      have HSL := Lib.hid (sl_edg V2 All b.id b.cab 115 hI0.out hI5.out trivial)
      have HB4 := Lib.hid (hb.trans ((bel1 V2 (.cells #[.int .i64 b.id, .int .i64 b.cab] 115)).mono hb.size))
      clear hZ hbz HO hol hO hb hll
      go_wp2_with (at_builtin; refine list_app (t := 65) (e := 115) (bytes := 16) rfl (.tmp 22) (.tmp 28) rfl edg_elem edgC_good rfl HOL.out rfl HSL.out (fun _ _ hc => hc) hby (by omega) hs20 ?_; intro v' w' ys' hown' hg' hat'; have HOWN := Lib.hid hown'; have HGR2 := Lib.hid hg'; clear hown' hg' hat')
      go_roundg (m - (k + 1))
      case measure => omega
      case rel => exact ⟨k + 1, ys', v', by omega, by omega, by go_num, rfl, by rw [HNX.out]; exact HOWN.out, below_app HB4.out HOL.out HGR2.out HB4.out.size⟩
    · obtain rfl : k = m := by omega
      rw [List.take_of_length_le (by have := HKL.out; omega)] at hO
      have HO := Lib.hid hO
      clear hO
      have hb5 := HB3.out.trans (hb.mono HB3.out.size)
      have HB5 := Lib.hid hb5
      clear hb5
      have hs35 := HB3.out.size
      clear hb
      go_wp2_with fail
      go_ret2
      exact ⟨_, ys, rfl, by rw [okL_zero, HKK.out]; exact HO.out.mono edgC_good hs35, HB5.out⟩
end Go.Proofs.YtoilcdgpeilgaaaGreat
namespace Go.Proofs.YtoilcdgpeilgaaaGreat
open Go.RowKit Go.Shelf
def ResTK (K : World → Prop) (w w' : World) (X : Sai) (l : List Int) (e : Ending) : Prop := ∃ p' v xs, e = .returned (.tuple #[.agg (saiA X p'), v]) ∧ (∀ V, K V → NewSame w w' V → SaiR V X p') ∧ Own intC 1 3 w' w.heap.size v l xs
theorem NewSame.refl (w w' : World) : NewSame w w' w' := fun _ _ _ => rfl
theorem Sl.rawS {S : Nat → Prop} {w : World} {A : Option Addr} {n cap : Nat} {L : List (List Value)} (h : Sl (rawC 11) 11 w All A n cap L) (hS : ∀ b off, A = some ⟨b, off, none⟩ → b < w.heap.size → S b) : Sl (rawC 11) 11 w S A n cap L :=
  ⟨h.len, h.le, h.max, fun i x hx => by
    obtain ⟨b, off, cs, hA, _, hc, hl, hcell⟩ := h.rd i x hx
    have h0 := hcell 0 _ (List.getElem?_eq_getElem (by omega))
    exact ⟨b, off, cs, hA, hS b off hA (cell_lt h0), hc, hl, hcell⟩⟩
set_option maxRecDepth 100000 in
set_option maxHeartbeats 32000000 in
theorem TurnOf_K (K : World → Prop) (x : Sai) (p : SaiV) (day : Int) (L : List (List Value)) (w : World) (hKb : ∀ V V', K V → Below V.heap.size V V' → K V') (hKS : ∀ V, K V → SaiR V x p) (hKP : ∀ V, K V → Pts bkgC V L x.bks) (hKw : K w) (hLs : Sl (rawC 11) 11 w All p.C p.nb p.cb L)
    (ho : OkSai x) (hd : 0 ≤ day ∧ day ≤ 9999) :
    Calls Tryz.prog 45 #[.agg (saiA x p), .int .i64 day] w fun e w' => ResTK K w w' (turnX x day) (turnI x day) e ∧ Below w.heap.size w w' := by
  have HSB0 := Lib.hid (fun K k pk b A3 n3 c3 Lk V h1 h2 h3 h4 h5 h6 h7 => setBooking_L K (turnK x day k) pk k b A3 n3 c3 Lk V h1 h2 h3 h4 h5 h6 h7 (by rw [turnK_len]; exact ho.bs.len))
  have HGO0 := Lib.hid (fun k pk b A3 n3 c3 V hF hR hfo => goneOf_any (turnK x day k) pk b A3 n3 c3 day V hF hR ho.fares ho.leaves hfo hd)
  have HFO := Lib.hid (fun b (hb : b ∈ x.bks) => (ho.bs.bk b hb).fol)
  have hS := hKS w hKw
  have HNB := Lib.hid (show x.bks.length = p.nb from hS.bks.len)
  have h16 : p.nb ≤ 16 := by have := ho.bs.len; have := HNB.out; omega
  have HS0 := Lib.hid (fun V (hV : K V) => show SaiR V (turnK x day 0) p from ⟨(hKS V hV).cats, (hKS V hV).cabs, (hKS V hV).fares, (hKS V hV).bks⟩)
  have HKB := Lib.hid hKb
  have HKP := Lib.hid hKP
  have HKW := Lib.hid hKw
  have HLS := Lib.hid hLs
  clear hS hKb hKS hKP hKw hLs ho hd
  go_enter Tryz.func45, Tryz.ntmps45
  go_upto_region 0 with (fail)
  go_cut [2, 4, 5] (fun p1 p2 p3 wx => ∃ g z, p1 = .pointer (some ⟨g, 0, none⟩) ∧ p2 = .pointer (some ⟨z, 0, none⟩) ∧ p3 = .slice none 0 0 ∧ w.heap.size ≤ g ∧ w.heap.size ≤ z ∧ g ≠ z ∧ Blk wx g (saiA x p) 32 ∧ Blk wx z #[.int .i64 0, .int .i64 0, .slice none 0 0, .slice none 0 0, .slice none 0 0, .int .i64 0, .int .i64 0, .slice none 0 0, .int .i64 0, .int .i64 0, .int .i64 0, .slice none 0 0, .bool false] 32 ∧ Below w.heap.size w wx)
  case first => as_aux_lemma =>
    go_wp2_with fail
    go_meet
    exact ⟨_, _, rfl, rfl, rfl, Nat.le_refl _, by omega, by omega, blk2_0 _ _ _, blk2_1 _ _ _, bel2 _ _ _⟩
  obtain ⟨g, z, rfl, rfl, rfl, hg, hz, hgz, hG, hZ, hb0⟩ := hcut
  obtain ⟨W0, hW0⟩ : ∃ V, V = wc := ⟨_, rfl⟩
  subst hW0
  have hsz0 := hb0.size
  have hgl := hG.lt
  have hzl := hZ.lt
  have g9 : W0.cell? ⟨g, 9, none⟩ = some (.int .i64 x.day) := hG.cell rfl
  have f9 := hG.free 9
  have HG := Lib.hid hG
  have HZ := Lib.hid hZ
  have HB0 := Lib.hid hb0
  clear hG hZ hb0
  go_upto_region 1 with (fail)
  go_cut [] (fun wx => Blk wx g (saiA (turnK x day 0) p) 32 ∧ Kept (fun j => j = g) W0 wx)
  case first => as_aux_lemma =>
    go_wp2_with fail
    go_meet
    exact ⟨HG.out.set (j := 9) _, kset W0 g [(9, .int .i64 day)]⟩
  obtain ⟨hG, hK0⟩ := hcut
  obtain ⟨W1, hW1⟩ : ∃ V, V = wc := ⟨_, rfl⟩
  subst hW1
  have hs01 := hK0.size
  have hb1 : Below w.heap.size w W1 := HB0.out.trans (hK0.below (B := w.heap.size) HB0.out.size (fun k hk e => by omega))
  have hsz1 := hb1.size
  have HT := Lib.hid (fun X (hX : Kept (fun j => j = g) W1 X) => hb1.trans (hX.below (B := w.heap.size) hb1.size (fun k hk e => by omega)))
  have HKX := Lib.hid (fun X (hX : Kept (fun j => j = g) W1 X) => HKB.out w X HKW.out (HT.out X hX))
  have HZ1 := Lib.hid (HZ.out.kept hK0 (fun e => hgz e.symm))
  have HZX := Lib.hid (fun X (hX : Kept (fun j => j = g) W1 X) => HZ1.out.kept hX (fun e => hgz e.symm))
  have hgl1 : g < W1.heap.size := by omega
  have HG1 := Lib.hid hG
  have HB1 := Lib.hid hb1
  clear g9 f9 hG hK0 HG HZ hb1
  go_wp2_with fail
  go_loopg [6, 7] p.nb (fun gk v i wr => ∃ (k : Nat) (pk : SaiV) (Lk : List (List Value)) (ys : List Value) (vo : Value) (Q : Nat → Prop), k ≤ p.nb ∧ p.nb - k ≤ gk ∧ i = .int .i64 k ∧ vo = v ∧ Own intC 1 3 wr W1.heap.size vo (idsK x day k) ys ∧ Blk wr g (saiA (turnK x day k) pk) 32 ∧ pk.nb = p.nb ∧ Sl (rawC 11) 11 wr (fun b => vo.ownBlock ≠ some b) pk.C pk.nb pk.cb Lk ∧ (∀ j, Q j → W1.heap.size ≤ j ∧ j < wr.heap.size ∧ vo.ownBlock ≠ some j) ∧ (∀ V, K V → (∀ j, Q j → V.heap[j]? = wr.heap[j]?) → SaiR V (turnK x day k) pk ∧ Pts bkgC V Lk (turnK x day k).bks) ∧ Kept (fun j => j = g) W1 wr)
  case atStart => exact ⟨0, p, L, [], _, fun _ => False, Nat.zero_le _, by omega, rfl, rfl, Own.nil _ _ _ _ _, HG1.out, rfl, (HLS.out.bel HB1.out).rawS (fun b off _ _ e => by simp [Value.ownBlock] at e), fun j h => h.elim, fun V hV _ => ⟨HS0.out V hV, HKP.out V hV⟩, Kept.refl _ _⟩
  case round =>
    obtain ⟨k, pk, Lk, ys, vo, Q, hk, hgk, rfl, rfl, hO, hG, hpn, hsl, hQ, hI, hK⟩ := hrel
    obtain ⟨V1, hV1⟩ : ∃ V, V = wr := ⟨_, rfl⟩
    subst hV1
    have hws := hK.size
    by_cases hlt : k < p.nb
    · obtain ⟨b, hb⟩ : ∃ b, x.bks[k]? = some b := ⟨_, List.getElem?_eq_getElem (by have := HNB.out; omega)⟩
      have hbk := turnK_at (day := day) hb
      obtain ⟨ab, off, cs, hA, hLk, hl11, hcel⟩ := raw_at (k := k) (hsl.all (rawC_good 11) (by omega)) (by omega)
      obtain ⟨A3, n3, c3, rfl, hIn, hfK⟩ := pts_fol (K := fun V => K V ∧ ∀ j, Q j → V.heap[j]? = V1.heap[j]?) (fun V hV => (hI V hV.1 hV.2).2) hLk hbk ⟨HKX.out _ hK, fun _ _ => rfl⟩
      have g11 : V1.cell? ⟨g, 11, none⟩ = some (.slice (some ⟨ab, off, none⟩) p.nb pk.cb) := by rw [← hA, ← hpn]; exact hG.cell rfl
      obtain ⟨st, hst⟩ : ∃ q, q = b.state := ⟨_, rfl⟩
      obtain ⟨ti, hti⟩ : ∃ q, q = b.til := ⟨_, rfl⟩
      have hk0 : (0 : Int) ≤ (k : Int) := Int.natCast_nonneg _
      have hk1 : (k : Int) < (p.nb : Int) := by omega
      obtain ⟨lo, hlo⟩ : ∃ q, q = lateO day b := ⟨_, rfl⟩
      have HLO := Lib.hid (show lo = (decide (st = 1) && decide (ti < day)) by rw [hlo, hst, hti]; rfl)
      have HM := Lib.hid (show V1.rangeAt ab (off + k * 11) (bkgA b (.slice A3 n3 c3)).toList from hcel)
      have HFB := Lib.hid (HFO.out b (List.mem_of_getElem? hb))
      have HPN := Lib.hid hpn
      have HA := Lib.hid hA
      have HST := Lib.hid hst
      have HTI := Lib.hid hti
      have HIN := Lib.hid hIn
      have HFK := Lib.hid hfK
      have HLL := Lib.hid hlo
      clear hlo
      have HB := Lib.hid hb
      clear hb
      have HBK := Lib.hid hbk
      clear hbk
      have HO := Lib.hid hO
      clear hO
      have HG := Lib.hid hG
      clear hG
      have HSL := Lib.hid hsl
      clear hsl
      have HQ := Lib.hid hQ
      clear hQ
      have HI := Lib.hid hI
      clear hI
      have HK := Lib.hid hK
      clear hK
      clear hpn hA hLk hl11 hcel hIn hfK hst hti
      go_upto_region 6 with (fail)
      go_cut [8] (fun p wx => ∃ h, p = .pointer (some ⟨h, 0, none⟩) ∧ V1.heap.size ≤ h ∧ Blk wx h (bkgA b (.slice A3 n3 c3)) 37 ∧ Below V1.heap.size V1 wx)
      case first =>
        go_wp2_with (first | (refine wpList_load_mid rfl 37 (.tmp 23) rfl ab (off + k * 11) rfl _ _ HM.out Tryz.underlying37 rfl (by kernel_rfl) ?_) | (refine wpList_store_row rfl 37 (.tmp 8) (.tmp 24) rfl V1.heap.size (bkgA b (.slice A3 n3 c3)) rfl rfl 37 _ (Blk.new V1 #[.int .i64 0, .int .i64 0, .int .i64 0, .int .i64 0, .bool false, .int .i64 0, .int .i64 0, .int .i64 0, .int .i64 0, .int .i64 0, .slice none 0 0] 37) (by kernel_rfl) rfl (bkgA_one _ _ _ _) ?_))
        go_meet
        exact ⟨_, rfl, Nat.le_refl _, (Blk.new V1 _ _).row _, below_setRow (bel1 V1 _) (Nat.le_refl _) _⟩
      obtain ⟨h, rfl, hh, hH, hbh⟩ := hcut
      obtain ⟨V2, hV2⟩ : ∃ V, V = wc := ⟨_, rfl⟩
      subst hV2
      have hs12 := hbh.size
      have hhl := hH.lt
      have c2 : V2.cell? ⟨h, 2, none⟩ = some (.int .i64 st) := by rw [HST.out]; exact hH.cell rfl
      have c9 : V2.cell? ⟨h, 9, none⟩ = some (.int .i64 ti) := by rw [HTI.out]; exact hH.cell rfl
      have HH := Lib.hid hH
      clear hH
      have HBH := Lib.hid hbh
      clear hbh
      clear g11 HM
      go_upto_region 7 with (fail)
      go_cut [33] (fun q wx => q = .bool (!lo) ∧ V2 = wx)
      case first => as_aux_lemma =>
        by_cases q1 : st = 1
        · by_cases q2 : ti < day
          · obtain rfl : lo = true := by rw [HLO.out, decide_eq_true q1, decide_eq_true q2]; rfl
            have q3 : decide (day ≤ ti) = false := decide_eq_false (by omega)
            subst q1
            go_wp2_with fail
            go_meet
            exact ⟨rfl, rfl⟩
          · obtain rfl : lo = false := by rw [HLO.out, decide_eq_true q1, decide_eq_false q2]; rfl
            have q3 : decide (day ≤ ti) = true := decide_eq_true (by omega)
            subst q1
            go_wp2_with fail
            go_meet
            exact ⟨rfl, rfl⟩
        · obtain rfl : lo = false := by rw [HLO.out, decide_eq_false q1]; rfl
          have q3 : (st != 1) = true := by simpa using q1
          clear q1
          go_wp2_with fail
          go_meet
          exact ⟨rfl, rfl⟩
      obtain ⟨rfl, rfl⟩ := hcut
      clear c2 c9
      cases lo
      · obtain ⟨e1, e2⟩ := turnK_same HB.out HLL.out.symm
        have HE1 := Lib.hid e1
        have HE2 := Lib.hid e2
        clear e1 e2
        go_wp2_with fail
        go_roundg (p.nb - (k + 1))
        case measure => omega
        case rel => exact ⟨k + 1, pk, Lk, ys, vo, Q, by omega, by omega, by go_num, rfl, by rw [HE2.out]; exact HO.out.bel HBH.out, by rw [HE1.out]; exact HG.out.bel HBH.out, HPN.out, HSL.out.keep (rawC_good 11) (by omega) (fun b hb hlt => ⟨HBH.out.block b hlt, hb⟩), fun j hj => ⟨(HQ.out j hj).1, by have := (HQ.out j hj).2.1; omega, (HQ.out j hj).2.2⟩, fun V hV hS => by rw [HE1.out]; exact HI.out V hV (fun j hj => (hS j hj).trans (HBH.out.block j (HQ.out j hj).2.1)), HK.out.trans (Kept.of_below HBH.out (fun q h1 h2 => absurd h1 (by omega)))⟩
      obtain ⟨e1, e2⟩ := turnK_late HB.out HLL.out.symm
      have HE1 := Lib.hid e1
      have HE2 := Lib.hid e2
      have c0 : V2.cell? ⟨h, 0, none⟩ = some (.int .i64 b.id) := HH.out.cell rfl
      have hil : (idsK x day k).length ≤ 16 := by
        unfold idsK
        rw [List.length_map]
        have := List.length_filter_le (lateO day) (x.bks.take k)
        rw [List.length_take] at this
        have := HNB.out
        omega
      have hby : ((idsK x day k).length + 1) * 8 ≤ 140737488355328 := by omega
      have hO2 := HO.out.bel HBH.out
      have HOL := Lib.hid (hO2.bel (bel1 V2 (.cells #[.int .i64 b.id] 3)))
      have hs20 : W1.heap.size ≤ (V2.alloc (.cells #[.int .i64 b.id] 3)).heap.size := by simp; omega
      have HSLI := Lib.hid (sl_int V2 All b.id 3 HIN.out.id trivial)
      have hHne : ∀ s, vo.ownBlock = some s → s ≠ h := fun s hs e => by have := (HO.out.lt s hs).2; omega
      have hgne : ∀ s, vo.ownBlock = some s → s ≠ g := fun s hs e => by have := (HO.out.lt s hs).1; omega
      have HHL := Lib.hid (HH.out.bel (bel1 V2 (.cells #[.int .i64 b.id] 3)))
      have HGL := Lib.hid ((HG.out.bel HBH.out).bel (bel1 V2 (.cells #[.int .i64 b.id] 3)))
      have HSL2 := Lib.hid ((HSL.out.keep (rawC_good 11) (by omega) (fun bq hb hlt => ⟨HBH.out.block bq hlt, hb⟩) : Sl (rawC 11) 11 V2 (fun b => vo.ownBlock ≠ some b) pk.C pk.nb pk.cb Lk).keep (rawC_good 11) (by omega) (fun bq hb hlt => ⟨(bel1 V2 (.cells #[.int .i64 b.id] 3)).block bq hlt, hb⟩) : Sl (rawC 11) 11 (V2.alloc (.cells #[.int .i64 b.id] 3)) (fun b => vo.ownBlock ≠ some b) pk.C pk.nb pk.cb Lk)
      clear e1 e2 hO2 hil
      go_upto_region 8 with (fail)
      go_cut [6] (fun v' wx => ∃ (vn : Value) (zs : List Value), vn = v' ∧ Own intC 1 3 wx W1.heap.size vn (idsK x day k ++ [b.id]) zs ∧ (vn.ownBlock = vo.ownBlock ∨ ∀ s, vn.ownBlock = some s → V1.heap.size ≤ s) ∧ Blk wx h (bkgA b (.slice A3 n3 c3)) 37 ∧ Blk wx g (saiA (turnK x day k) pk) 32 ∧ Sl (rawC 11) 11 wx (fun b => vo.ownBlock ≠ some b ∧ vn.ownBlock ≠ some b) pk.C pk.nb pk.cb Lk ∧ (∀ j, j < V1.heap.size → vo.ownBlock ≠ some j → wx.heap[j]? = V1.heap[j]?) ∧ V2.heap.size ≤ wx.heap.size ∧ Kept (fun j => W1.heap.size ≤ j) V2 wx)
      case first =>
        go_wp2_with (at_builtin; refine list_app (t := 47) (e := 3) (bytes := 8) rfl (.tmp 34) (.tmp 37) rfl int_elem intC_good rfl HOL.out rfl HSLI.out (fun _ _ hc => hc) hby (by omega) hs20 ?_; intro v' w' xs' hown' hg' hat'; have HOWN := Lib.hid hown'; have HGR := Lib.hid hg'; have HAT := Lib.hid hat'; clear hown' hg' hat')
        go_meet
        have hsa : V2.heap.size < (V2.alloc (.cells #[.int .i64 b.id] 3)).heap.size := by simp
        have hKg : Kept (fun j => W1.heap.size ≤ j) (V2.alloc (.cells #[.int .i64 b.id] 3)) w' := ⟨HGR.out.os, HGR.out.tape, HGR.out.output, HGR.out.size, fun j hj hn => HGR.out.block j hj (fun e => hn (by have := (HOL.out.lt j e.symm).1; omega))⟩
        have hsg := HGR.out.size
        refine ⟨v', xs', rfl, HOWN.out, ?_, HHL.out.grown HGR.out (fun e => hHne h e.symm rfl), HGL.out.grown HGR.out (fun e => hgne g e.symm rfl), HSL2.out.keep (rawC_good 11) (by omega) (fun b hb hlt => ⟨HGR.out.block b hlt (fun e => hb e.symm), hb, ?_⟩), fun j hj hn => (HGR.out.block j (by omega) (fun e => hn e.symm)).trans (((bel1 V2 _).block j (by omega)).trans (HBH.out.block j hj)), by omega, ((Kept.refl (fun j => W1.heap.size ≤ j) V2).alloc _).trans hKg⟩
        · rcases HAT.out with e | e
          · exact .inl e
          · exact .inr fun s hs => by rw [e] at hs; injection hs with hs; omega
        · rcases HAT.out with e | e
          · rw [e]; exact hb
          · rw [e]; intro h2; injection h2 with h2; omega
      obtain ⟨vn, zs, rfl, hO3, hvn, hH3, hG3, hsl3, hpre, hs23, hK3⟩ := hcut
      obtain ⟨V3, hV3⟩ : ∃ V, V = wc := ⟨_, rfl⟩
      subst hV3
      have hKW3 : Kept (fun j => j = g) W1 V3 := ((HK.out.mono (T := fun j => j = g ∨ W1.heap.size ≤ j) (fun _ _ e => .inl e)).trans ((Kept.of_below HBH.out (fun q h1 h2 => absurd h1 (by omega))).trans (hK3.mono (fun _ _ e => .inr e)))).mono (fun j hj e => by omega)
      obtain ⟨E1, hE1⟩ : ∃ q, q = goneE (turnK x day k) b day := ⟨_, rfl⟩
      obtain ⟨gb, hgb⟩ : ∃ q, q = goneB (turnK x day k) b day := ⟨_, rfl⟩
      have HFV := Lib.hid (fun V (hV : K V) (hQV : ∀ j, Q j → V.heap[j]? = V1.heap[j]?) => HFK.out V ⟨hV, hQV⟩)
      have HQ3 := Lib.hid (show ∀ j, Q j → V3.heap[j]? = V1.heap[j]? from fun j hj => hpre j (HQ.out j hj).2.1 (HQ.out j hj).2.2)
      have hsr3 := (HI.out V3 (HKX.out _ hKW3) HQ3.out).1
      have HGO := Lib.hid (fun V (hX : Below V3.heap.size V3 V) => HGO0.out k pk b A3 n3 c3 V ((HFV.out V3 (HKX.out _ hKW3) HQ3.out).bel hX) (hsr3.fares.below hX) HFB.out)
      have HGR := Lib.hid (show ∀ V V' e, GoneR V V' (turnK x day k) b day A3 n3 c3 e → ∃ (b' : Bkg) (A5 : Option Addr) (n5 c5 : Nat), e = .returned (.tuple #[.agg (bkgA b' (.slice A5 n5 c5)), .int .i64 E1]) ∧ (¬ E1 = 0 → b' = b ∧ A5 = A3 ∧ n5 = n3 ∧ c5 = c3) ∧
        (E1 = 0 → b' = gb ∧ ∃ xs, Own entryC 3 57 V' V.heap.size (.slice A5 n5 c5) b'.fol xs) from fun V V' e h => by
          obtain ⟨b', A5, n5, c5, h1, h3, h2⟩ := h
          exact ⟨b', A5, n5, c5, by rw [hE1]; exact h1, by rw [hE1]; exact h3, by rw [hE1, hgb]; exact h2⟩)
      have HTB0 := Lib.hid (show ¬ E1 = 0 → turnB x day b = { b with state := 3, til := 0 } from fun h => by unfold turnB; rw [if_neg (show ¬ goneE x b day = 0 from fun h2 => h (hE1.trans h2))])
      have HTB1 := Lib.hid (show E1 = 0 → turnB x day b = gb from fun h => by unfold turnB; rw [if_pos (show goneE x b day = 0 from hE1.symm.trans h), hgb]; rfl)
      have HH3 := Lib.hid hH3
      have HO3 := Lib.hid hO3
      clear hO3
      have HVN := Lib.hid hvn
      clear hvn
      have HG3 := Lib.hid hG3
      have HSL3 := Lib.hid hsl3
      clear hsl3
      have HPRE := Lib.hid hpre
      clear hpre
      have HK3 := Lib.hid hKW3
      clear hG3 hH3 hK3 hKW3 hsr3 HOL HHL HGL HSL2 HSLI hby hs20 hHne hgne c0 hE1 hgb HGO0
      go_upto_region 9 with (fail)
      go_cut [9, 10] (fun q q2 wx => ∃ (h9 : Nat) (b5 : Bkg) (A5 : Option Addr) (n5 c5 : Nat), q = .pointer (some ⟨h9, 0, none⟩) ∧ q2 = .int .i64 E1 ∧ V3.heap.size ≤ h9 ∧ Blk wx h9 (bkgA b5 (.slice A5 n5 c5)) 37 ∧ (¬ E1 = 0 → b5 = b ∧ A5 = A3 ∧ n5 = n3 ∧ c5 = c3) ∧ (E1 = 0 → b5 = gb ∧ ∃ xs, Own entryC 3 57 wx V3.heap.size (.slice A5 n5 c5) b5.fol xs) ∧ Below V3.heap.size V3 wx)
      case first =>
        have HGx := Lib.hid (HG3.out.bel (Below.refl V3.heap.size V3))
        go_wp2_with (first | (refine wpList_load_row rfl 32 (.tmp 2) rfl g rfl 32 _ (0, 0) _ HG3.out Tryz.underlying32 rfl (by kernel_rfl) ?_) | (refine wpList_load_row rfl 37 (.tmp 8) rfl h rfl 37 _ (0, 0) _ HH3.out Tryz.underlying37 rfl (by kernel_rfl) ?_))
        refine (HGO.out _ (Below.refl _ _)).mono ?_
        rintro e w8 ⟨hgr, hb8⟩
        obtain ⟨b5, A5, n5, c5, rfl, hno, hyes⟩ := HGR.out _ _ _ hgr
        have HNO := Lib.hid hno
        have HYES := Lib.hid hyes
        have HB8 := Lib.hid hb8
        clear hb8
        clear hgr hno hyes HGO HGR HGx
        go_wp2_with (refine wpList_store_row rfl 37 (.tmp 9) (.tmp 44) rfl w8.heap.size (bkgA b5 (.slice A5 n5 c5)) rfl rfl 37 _ (Blk.new w8 #[.int .i64 0, .int .i64 0, .int .i64 0, .int .i64 0, .bool false, .int .i64 0, .int .i64 0, .int .i64 0, .int .i64 0, .int .i64 0, .slice none 0 0] 37) (by kernel_rfl) rfl (bkgA_one _ _ _ _) ?_)
        go_meet
        have hbe : Below w8.heap.size w8 ((w8.alloc (.cells #[.int .i64 0, .int .i64 0, .int .i64 0, .int .i64 0, .bool false, .int .i64 0, .int .i64 0, .int .i64 0, .int .i64 0, .int .i64 0, .slice none 0 0] 37)).setRow w8.heap.size (bkgA b5 (.slice A5 n5 c5))) := below_setRow (bel1 w8 _) (Nat.le_refl _) _
        exact ⟨_, b5, A5, n5, c5, rfl, rfl, HB8.out.size, (Blk.new w8 _ _).row _, HNO.out, fun h0 => ⟨(HYES.out h0).1, _, (HYES.out h0).2.choose_spec.bel hbe⟩, HB8.out.trans (hbe.mono HB8.out.size)⟩
      obtain ⟨h9, b5, A5, n5, c5, rfl, rfl, hh9, hH9, hno, hyes, hbw⟩ := hcut
      obtain ⟨V5, hV5⟩ : ∃ V, V = wc := ⟨_, rfl⟩
      subst hV5
      have hs35 := hbw.size
      have h9l := hH9.lt
      have HNO := Lib.hid hno
      clear hno
      have HYES := Lib.hid hyes
      clear hyes
      have HH9 := Lib.hid hH9
      have HB5 := Lib.hid hbw
      clear hbw
      clear hH9 HGO HGR HH3
      go_upto_if 47 with (fail)
      go_cut [] (fun wx => Blk wx h9 (bkgA (turnB x day b) (.slice A5 n5 c5)) 37 ∧ Kept (fun j => j = h9) V5 wx)
      case first =>
        by_cases q1 : E1 = 0
        · have q2 : (E1 != 0) = false := by simpa using q1
          have HQ1 := Lib.hid q1
          clear q1
          go_wp2_with fail
          go_meet
          exact ⟨by rw [HTB1.out HQ1.out, ← (HYES.out HQ1.out).1]; exact HH9.out, Kept.refl _ _⟩
        · have q2 : (E1 != 0) = true := by simpa using q1
          have HQ1 := Lib.hid q1
          obtain ⟨rfl, -, -, -⟩ := HNO.out q1
          have c2 : V5.cell? ⟨h9, 2, none⟩ = some (.int .i64 b5.state) := HH9.out.cell rfl
          have c9 : V5.cell? ⟨h9, 9, none⟩ = some (.int .i64 b5.til) := HH9.out.cell rfl
          have f2 := HH9.out.free 2
          have f9 := HH9.out.free 9
          clear q1
          go_wp2_with fail
          go_meet
          exact ⟨by rw [HTB0.out HQ1.out]; exact (HH9.out.set (j := 2) _).set (j := 9) _, kset V5 h9 [(2, .int .i64 3), (9, .int .i64 0)]⟩
      obtain ⟨hH6, hK6⟩ := hcut
      obtain ⟨V6, hV6⟩ : ∃ V, V = wc := ⟨_, rfl⟩
      subst hV6
      have hs56 := hK6.size
      have hK36 : ∀ j, j < V3.heap.size → V6.heap[j]? = V3.heap[j]? := fun j hj => (hK6.block j (by omega) (by omega)).trans (HB5.out.block j hj)
      have hKW6 : Kept (fun j => j = g) W1 V6 := ((HK3.out.mono (T := fun j => j = g ∨ W1.heap.size ≤ j) (fun _ _ e => .inl e)).trans ((Kept.of_below HB5.out (fun q h1 h2 => absurd h1 (by omega))).trans (hK6.mono (fun j _ e => .inr (by have := HK3.out.size; omega))))).mono (fun j hj e => by omega)
      have HQ6 := Lib.hid (show ∀ j, Q j → V6.heap[j]? = V1.heap[j]? from fun j hj => (hK36 j (by have := (HQ.out j hj).2.1; omega)).trans (HQ3.out j hj))
      have HFN := Lib.hid (show E1 = 0 → ∀ j, (Value.slice A5 n5 c5).ownBlock = some j → V3.heap.size ≤ j ∧ j < V5.heap.size ∧ V6.heap[j]? = V5.heap[j]? from fun h0 j hj => by
        obtain ⟨_, xs5, hO5⟩ := HYES.out h0
        have h1 := hO5.lt j hj
        exact ⟨h1.1, h1.2, hK6.block j h1.2 (fun e => hO5.neTy HH9.out (by decide) (by rw [hj, e]))⟩)
      have HFOL := Lib.hid (show ∀ V, K V → (∀ j, Q j ∨ (E1 = 0 ∧ (Value.slice A5 n5 c5).ownBlock = some j) → V.heap[j]? = V6.heap[j]?) → Sl entryC 3 V All A5 n5 c5 (turnB x day b).fol from fun V hV hS => by
        by_cases h0 : E1 = 0
        · obtain ⟨h1, xs5, hO5⟩ := HYES.out h0
          rw [HTB1.out h0, ← h1]
          exact (hO5.keepB entryC_flat2 (fun j hj => (hS j (.inr ⟨h0, hj⟩)).trans (HFN.out h0 j hj).2.2)).slAll entryC_good entryC_good (by omega) (fun h => h) rfl
        · obtain ⟨_, rfl, rfl, rfl⟩ := HNO.out h0
          rw [HTB0.out h0]
          exact HFV.out V hV (fun j hj => (hS j (.inl hj)).trans (HQ6.out j hj)))
      have HTI := Lib.hid (show BkIn (turnB x day b) from by
        have hi := HIN.out
        unfold turnB
        split
        · exact ⟨hi.id, hi.kind, show InI 3 from .of (by decide) (by decide), hi.gst, hi.cab, hi.cat, hi.frm, hi.upto, zero_in⟩
        · exact ⟨hi.id, hi.kind, show InI 3 from .of (by decide) (by decide), hi.gst, hi.cab, hi.cat, hi.frm, hi.upto, zero_in⟩)
      have hsl6 : Sl (rawC 11) 11 V6 All pk.C pk.nb pk.cb Lk := (((HSL3.out.all (rawC_good 11) (by omega)).rawS (S := fun b => b < V3.heap.size) (fun b off _ hlt => hlt)).keep (rawC_good 11) (by omega) (S' := fun _ => True) (fun b hb _ => ⟨hK36 b hb, trivial⟩)).all (rawC_good 11) (by omega)
      have HC := Lib.hid (HSB0.out (fun V => K V ∧ ∀ j, Q j ∨ (E1 = 0 ∧ (Value.slice A5 n5 c5).ownBlock = some j) → V.heap[j]? = V6.heap[j]?) k pk (turnB x day b) A5 n5 c5 Lk V6 (fun V hV => (HI.out V hV.1 (fun j hj => (hV.2 j (.inl hj)).trans (HQ6.out j hj))).1) (fun V hV => (HI.out V hV.1 (fun j hj => (hV.2 j (.inl hj)).trans (HQ6.out j hj))).2)
        (fun V hV => HFOL.out V hV.1 hV.2) ⟨HKX.out _ hKW6, fun _ _ => rfl⟩ hsl6 HTI.out (by rw [turnK_len, HNB.out]; exact hlt))
      have hG6 : Blk V6 g (saiA (turnK x day k) pk) 32 := (hK36 g (by omega)).trans HG3.out
      have HG6 := Lib.hid hG6
      have HH6 := Lib.hid hH6
      have HK6 := Lib.hid hKW6
      have hgl6 := hG6.lt
      clear hH6 hK6 hKW6 hG6 hsl6 HFOL HTI
      go_wp2_with (first | (refine wpList_load_row rfl 32 (.tmp 2) rfl g rfl 32 _ (0, 0) _ HG6.out Tryz.underlying32 rfl (by kernel_rfl) ?_) | (refine wpList_load_row rfl 37 (.tmp 9) rfl h9 rfl 37 _ (0, 0) _ HH6.out Tryz.underlying37 rfl (by kernel_rfl) ?_))
      refine HC.out.mono ?_
      rintro e w7 ⟨q, p', rfl, hq0, hq1, hSR, hpn', hpC, hb7⟩
      have hG7 := HG6.out.bel hb7
      have hs67 := hb7.size
      have HSR := Lib.hid hSR
      clear hSR
      have HB7 := Lib.hid hb7
      have HPN2 := Lib.hid hpn'
      have HPC := Lib.hid hpC
      clear HC hb7 hpn' hpC
      go_wp2_with (refine wpList_store_row rfl 32 (.tmp 2) (.tmp 53) rfl g (saiA (setS (turnK x day k) k (turnB x day b)) p') rfl rfl 32 _ hG7 (by kernel_rfl) rfl (by simp [Value.oneCell']) ?_)
      go_roundg (p.nb - (k + 1))
      case measure => omega
      case rel =>
        obtain ⟨w8, hw8⟩ : ∃ V, V = w7.setRow g (saiA (setS (turnK x day k) k (turnB x day b)) p') := ⟨_, rfl⟩
        have hK8 : Kept (fun j => j = g) w7 w8 := by rw [hw8]; exact (Kept.refl (fun j => j = g) w7).setRow (.inl rfl) _
        have hG8 : Blk w8 g (saiA (setS (turnK x day k) k (turnB x day b)) p') 32 := by rw [hw8]; exact hG7.row _
        rw [← hw8]
        have hs78 := hK8.size
        have h68 : ∀ j, j < V6.heap.size → j ≠ g → w8.heap[j]? = V6.heap[j]? := fun j hj hn => (hK8.block j (by omega) hn).trans (HB7.out.block j hj)
        have hKW8 : Kept (fun j => j = g) W1 w8 := HK6.out.trans ((Kept.of_below HB7.out (fun q h1 h2 => absurd h1 (by omega))).trans hK8)
        have hQ8 : ∀ V : World, (∀ j, (Q j ∨ (E1 = 0 ∧ (Value.slice A5 n5 c5).ownBlock = some j)) ∨ j = q → V.heap[j]? = w8.heap[j]?) → (∀ j, Q j ∨ (E1 = 0 ∧ (Value.slice A5 n5 c5).ownBlock = some j) → V.heap[j]? = V6.heap[j]?) ∧ V.heap[q]? = w7.heap[q]? := fun V hS => ⟨fun j hj => (hS j (.inl hj)).trans (h68 j (by
            rcases hj with h1 | ⟨h0, h1⟩
            · have := (HQ.out j h1).2.1; omega
            · have := (HFN.out h0 j h1).2.1; omega) (by
            rcases hj with h1 | ⟨h0, h1⟩
            · have := (HQ.out j h1).1; omega
            · have := (HFN.out h0 j h1).1; have := HK3.out.size; omega)), (hS q (.inr rfl)).trans (hK8.block q hq1 (by omega))⟩
        have h8 := hQ8 w8 (fun _ _ => rfl)
        have hR8 := HSR.out w8 ⟨HKX.out _ hKW8, h8.1⟩ h8.2
        have hO6 : Own intC 1 3 V6 W1.heap.size vn (idsK x day k ++ [b.id]) zs := HO3.out.keepB intC_flat (fun j hj => hK36 j (HO3.out.lt j hj).2)
        have hO8 : Own intC 1 3 w8 W1.heap.size vn (idsK x day k ++ [b.id]) zs := hO6.keepB intC_flat (fun j hj => h68 j (hO6.lt j hj).2 (by have := (hO6.lt j hj).1; omega))
        have hvl : ∀ j, vn.ownBlock = some j → j < V3.heap.size := fun j hj => (HO3.out.lt j hj).2
        refine ⟨k + 1, p', _, zs, vn, fun j => (Q j ∨ (E1 = 0 ∧ (Value.slice A5 n5 c5).ownBlock = some j)) ∨ j = q, by omega, by omega, by go_num, rfl, by rw [HE2.out]; exact hO8, by rw [HE1.out]; exact hG8, HPN2.out.trans HPN.out, hR8.2.2.rawS (fun b' off hA' _ e => ?_), fun j hj => ?_, fun V hV hS => ?_, hKW8⟩
        · rw [HPC.out] at hA'
          injection hA' with hA'
          injection hA' with h1
          have := hvl b' e
          omega
        · rcases hj with (h1 | ⟨h0, h1⟩) | rfl
          · refine ⟨(HQ.out j h1).1, by have := (HQ.out j h1).2.1; omega, fun e => ?_⟩
            rcases HVN.out with h2 | h2
            · exact (HQ.out j h1).2.2 (by rw [← h2]; exact e)
            · have := h2 j e; have := (HQ.out j h1).2.1; omega
          · have h2 := HFN.out h0 j h1
            exact ⟨by have := HK3.out.size; omega, by omega, fun e => by have := hvl j e; omega⟩
          · exact ⟨by have := HK6.out.size; omega, by omega, fun e => by have := hvl j e; omega⟩
        · have h9' := hQ8 V hS
          rw [HE1.out]
          have := HSR.out V ⟨hV, h9'.1⟩ h9'.2
          exact ⟨this.1, this.2.1⟩
    · obtain rfl : k = p.nb := by omega
      rw [← HNB.out, turnK_all] at hG hI
      rw [← HNB.out, idsK_all] at hO
      have hz6 := HZX.out _ hK
      have g11 : V1.cell? ⟨g, 11, none⟩ = some (.slice pk.C p.nb pk.cb) := by rw [← hpn]; exact hG.cell rfl
      have HG := Lib.hid hG
      clear hpn
      have HO := Lib.hid hO
      clear hO
      have HI := Lib.hid hI
      clear hI
      have HQ := Lib.hid hQ
      clear hQ
      have HK := Lib.hid hK
      clear hK
      clear hG hsl
      go_wp2_with (first | (refine wpList_load_row rfl 32 (.tmp 2) rfl g rfl 32 _ (0, 0) _ HG.out Tryz.underlying32 rfl (by kernel_rfl) ?_) | (refine wpList_store_row rfl 32 (.tmp 4) (.tmp 54) rfl z (saiA (turnX x day) pk) rfl rfl 32 _ hz6 (by kernel_rfl) rfl (by simp [Value.oneCell']) ?_))
      refine bodyPost_ret (v := .tuple #[.agg (saiA (turnX x day) pk), vo]) ((hz6.row _).ret2 (k := 4) (u := 5) (by kernel_rfl) rfl rfl Tryz.underlying32 (by kernel_rfl) (by kernel_rfl)) rfl ?_
      have hKz : Kept (fun j => j = z) V1 (V1.setRow z (saiA (turnX x day) pk)) := (Kept.refl (fun j => j = z) V1).setRow (.inl rfl) _
      have hszz := hKz.size
      have hzW1 : z < W1.heap.size := by omega
      refine ⟨⟨pk, vo, ys, rfl, fun V hV hN => (HI.out V hV (fun j hj => ?_)).1, ?_⟩, ?_⟩
      · have h1 := HQ.out j hj
        exact (hN j (by omega) (by omega)).trans (hKz.block j h1.2.1 (by omega))
      · exact (HO.out.keepB intC_flat (fun j hj => hKz.block j (HO.out.lt j hj).2 (by have := (HO.out.lt j hj).1; omega))).mono intC_good hsz1
      · exact (HT.out _ HK.out).trans (hKz.below (B := w.heap.size) (HT.out _ HK.out).size (fun k hk e => by omega))
end Go.Proofs.YtoilcdgpeilgaaaGreat
