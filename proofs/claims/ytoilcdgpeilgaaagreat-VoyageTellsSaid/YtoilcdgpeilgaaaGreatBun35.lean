/-
  Words, laws and contracts: VoyI.
-/
import Derived.Test.YtoilcdgpeilgaaaGreatBun30
import Derived.Test.YtoilcdgpeilgaaaGreatBun33
import Derived.BigQuiet
set_option linter.unusedSimpArgs false
set_option linter.unusedVariables false
namespace Go.Proofs.YtoilcdgpeilgaaaGreat
open Go.RowKit Go.Shelf
def ResCK (K : World → Prop) (w w' : World) (X : Sai) (e : Ending) : Prop := ∃ p', e = .returned (.agg (saiA X p')) ∧ ∀ V, K V → NewSame w w' V → SaiR V X p'
theorem mayN_app (x : Sai) (b : Bkg) (j : Nat) : ∀ d, ∃ r, mayN x b (j + d) = mayN x b j ++ r
  | 0 => ⟨[], by simp⟩
  | d + 1 => by
    obtain ⟨r, hr⟩ := mayN_app x b j d
    exact ⟨_, by rw [show j + (d + 1) = (j + d) + 1 by omega, mayN_succ, hr, List.append_assoc]⟩
theorem find_may {x : Sai} {b : Bkg} {c m : Nat} {P : Int → Bool} (hm : m = x.ship.cabs.length) (hc : c < m) (h0 : (mayN x b c).find? P = none) (he : (eligB x.ship b c && emptyB x.bks c) = true) (hP : P (c : Int) = true) : (mayL x b).find? P = some (c : Int) := by
  obtain ⟨r, hr⟩ := mayN_app x b (c + 1) (m - (c + 1))
  rw [show c + 1 + (m - (c + 1)) = m by omega] at hr
  rw [mayL_eq, ← hm, hr, mayN_succ, if_pos he, List.append_assoc, List.find?_append, h0]
  simp [hP]
theorem find_next {x : Sai} {b : Bkg} {c : Nat} {P : Int → Bool} (h0 : (mayN x b c).find? P = none) (h : (eligB x.ship b c && emptyB x.bks c) = true → P (c : Int) = false) : (mayN x b (c + 1)).find? P = none := by
  rw [mayN_succ, List.find?_append, h0]
  split
  · next he => simp [h he]
  · simp
set_option maxRecDepth 100000 in
set_option maxHeartbeats 32000000 in
theorem CloseOf_K (K : World → Prop) (x : Sai) (p : SaiV) (L : List (List Value)) (w : World) (hKb : ∀ V V', K V → Below V.heap.size V V' → K V') (hKS : ∀ V, K V → SaiR V x p) (hKP : ∀ V, K V → Pts bkgC V L x.bks) (hKw : K w) (hLs : Sl (rawC 11) 11 w All p.C p.nb p.cb L) (ho : OkSai x) :
    Calls Tryz.prog 46 #[.agg (saiA x p)] w fun e w' => ResCK K w w' (closeX x) e ∧ Below w.heap.size w w' := by
  have HSB0 := Lib.hid (fun K Y pk i b A3 n3 c3 Lk V h1 h2 h3 h4 h5 h6 h7 h8 => setBooking_L K Y pk i b A3 n3 c3 Lk V h1 h2 h3 h4 h5 h6 h7 h8)
  have hS := hKS w hKw
  have HNB := Lib.hid (show x.bks.length = p.nb from hS.bks.len)
  have h16 : p.nb ≤ 16 := by have := ho.bs.len; have := HNB.out; omega
  have HO := Lib.hid ho
  have HKB := Lib.hid hKb
  have HKS := Lib.hid hKS
  have HKP := Lib.hid hKP
  have HKW := Lib.hid hKw
  have HLS := Lib.hid hLs
  clear hS hKb hKS hKP hKw hLs ho
  go_enter Tryz.func46, Tryz.ntmps46
  go_upto_region 0 with (fail)
  go_cut [1, 2] (fun p1 p2 wx => ∃ g z, p1 = .pointer (some ⟨g, 0, none⟩) ∧ p2 = .pointer (some ⟨z, 0, none⟩) ∧ w.heap.size ≤ g ∧ w.heap.size ≤ z ∧ g ≠ z ∧ Blk wx g (saiA x p) 32 ∧ Blk wx z #[.int .i64 0, .int .i64 0, .slice none 0 0, .slice none 0 0, .slice none 0 0, .int .i64 0, .int .i64 0, .slice none 0 0, .int .i64 0, .int .i64 0, .int .i64 0, .slice none 0 0, .bool false] 32 ∧ Below w.heap.size w wx)
  case first => as_aux_lemma =>
    go_wp2_with fail
    go_meet
    exact ⟨_, _, rfl, rfl, Nat.le_refl _, by omega, by omega, blk2_0 _ _ _, blk2_1 _ _ _, bel2 _ _ _⟩
  obtain ⟨g, z, rfl, rfl, hg, hz, hgz, hG, hZ, hb1⟩ := hcut
  obtain ⟨W1, hW1⟩ : ∃ V, V = wc := ⟨_, rfl⟩
  subst hW1
  have hsz1 := hb1.size
  have hgl1 := hG.lt
  have hzl1 := hZ.lt
  have HT := Lib.hid (fun X (hX : Kept (fun j => j = g) W1 X) => hb1.trans (hX.below (B := w.heap.size) hb1.size (fun k hk e => by omega)))
  have HKX := Lib.hid (fun X (hX : Kept (fun j => j = g) W1 X) => HKB.out w X HKW.out (HT.out X hX))
  have HZX := Lib.hid (fun X (hX : Kept (fun j => j = g) W1 X) => hZ.kept hX (fun e => hgz e.symm))
  have HG1 := Lib.hid hG
  have HB1 := Lib.hid hb1
  clear hG hZ hb1
  go_wp2_with fail
  go_loopg [3] p.nb (fun gk iv wr => ∃ (i : Nat) (pk : SaiV) (Lk : List (List Value)) (Q : Nat → Prop), i ≤ p.nb ∧ p.nb - i ≤ gk ∧ iv = .int .i64 i ∧ Blk wr g (saiA x pk) 32 ∧ pk.nb = p.nb ∧ Sl (rawC 11) 11 wr All pk.C pk.nb pk.cb Lk ∧ (∀ j, Q j → W1.heap.size ≤ j ∧ j < wr.heap.size) ∧ (∀ V, K V → (∀ j, Q j → V.heap[j]? = wr.heap[j]?) → SaiR V (closeK x i) pk ∧ Pts bkgC V Lk (closeK x i).bks) ∧ Kept (fun j => j = g) W1 wr)
  case atStart => exact ⟨0, p, L, fun _ => False, Nat.zero_le _, by omega, rfl, HG1.out, rfl, HLS.out.bel HB1.out, fun j h => h.elim, fun V hV _ => ⟨HKS.out V hV, HKP.out V hV⟩, Kept.refl _ _⟩
  case round =>
    obtain ⟨i, pk, Lk, Q, hi, hgi, rfl, hG, hpn, hsl, hQ, hI, hK⟩ := hrel
    obtain ⟨V1, hV1⟩ : ∃ V, V = wr := ⟨_, rfl⟩
    subst hV1
    have hws := hK.size
    have hc := closeK_ok HO.out i (by have := HNB.out; omega)
    have g11 : V1.cell? ⟨g, 11, none⟩ = some (.slice pk.C p.nb pk.cb) := by rw [← hpn]; exact hG.cell rfl
    by_cases hlt : i < p.nb
    · obtain ⟨b, hxb⟩ : ∃ b, x.bks[i]? = some b := ⟨_, List.getElem?_eq_getElem (by have := HNB.out; omega)⟩
      have hYb : (closeK x i).bks[i]? = some b := hc.at.trans hxb
      obtain ⟨ab, off, cs, hA, hLk, hl11, hcel⟩ := raw_at (k := i) hsl (by omega)
      obtain ⟨A3, n3, c3, rfl, hIn, hfK⟩ := pts_fol (K := fun V => K V ∧ ∀ j, Q j → V.heap[j]? = V1.heap[j]?) (fun V hV => (hI V hV.1 hV.2).2) hLk hYb ⟨HKX.out _ hK, fun _ _ => rfl⟩
      rw [hA] at g11
      have hi0 : (0 : Int) ≤ (i : Int) := Int.natCast_nonneg _
      have hi1 : (i : Int) < (p.nb : Int) := by omega
      obtain ⟨op, hop⟩ : ∃ q, q = openB b := ⟨_, rfl⟩
      have HC := Lib.hid (fun X => isOpen_any b (.slice A3 n3 c3) X)
      rw [← hop] at HC
      have HM := Lib.hid (show V1.rangeAt ab (off + i * 11) (bkgA b (.slice A3 n3 c3)).toList from hcel)
      have HPN := Lib.hid hpn
      have HA := Lib.hid hA
      have HIN := Lib.hid hIn
      have HFK := Lib.hid hfK
      have HCL := Lib.hid hc
      have HXB := Lib.hid hxb
      clear hxb
      have HYB := Lib.hid hYb
      clear hYb
      have HOP := Lib.hid hop
      clear hop
      have HG := Lib.hid hG
      clear hG
      have HSL := Lib.hid hsl
      clear hsl
      have HQ := Lib.hid hQ
      clear hQ
      have HI := Lib.hid hI
      clear hI
      have HK := Lib.hid hK
      clear hK
      clear hpn hA hLk hl11 hcel hIn hfK hc
      go_wp2_with (refine wpList_load_mid rfl 37 (.tmp 19) rfl ab (off + i * 11) rfl (bkgA b (.slice A3 n3 c3)).toList _ HM.out Tryz.underlying37 rfl (by kernel_rfl) ?_)
      refine (HC.out _).mono ?_
      rintro e w2 ⟨rfl, hb2⟩
      have HB2 := Lib.hid hb2
      have hs12 := hb2.size
      clear g11 hb2 HC
      cases op
      · have HE := Lib.hid (show closeK x (i + 1) = closeK x i from closeAt_skip HYB.out HOP.out.symm)
        go_wp2_with fail
        go_roundg (p.nb - (i + 1))
        case measure => omega
        case rel => exact ⟨i + 1, pk, Lk, Q, by omega, by omega, by go_num, HG.out.bel HB2.out, HPN.out, HSL.out.bel HB2.out, fun j hj => ⟨(HQ.out j hj).1, by have := (HQ.out j hj).2; omega⟩, fun V hV hS => by rw [HE.out]; exact HI.out V hV (fun j hj => (hS j hj).trans (HB2.out.block j (HQ.out j hj).2)), HK.out.trans (Kept.of_below HB2.out (fun q h1 h2 => absurd h1 (by omega)))⟩
      obtain ⟨W2, hW2⟩ : ∃ V, V = w2 := ⟨_, rfl⟩
      subst hW2
      obtain ⟨Y, hY⟩ : ∃ Y, Y = closeK x i := ⟨_, rfl⟩
      have HYE := Lib.hid hY
      have HI2 := HI.out
      rw [← hY] at HI2
      have hcl := HCL.out
      have hyb := HYB.out
      rw [← hY] at hcl hyb
      have HIY := Lib.hid HI2
      have HYB := Lib.hid hyb
      have HCY := Lib.hid hcl
      obtain ⟨Pf, hPf⟩ : ∃ f : Int → Bool, f = fun c => allB ((openL Y).length - 1) (shE c (edgL Y)) := ⟨_, rfl⟩
      have HPF := Lib.hid hPf
      have hpk := hcl.pick HXB.out HOP.out.symm
      have HPK := Lib.hid (show ∃ c : Nat, (mayL Y b).find? Pf = some (c : Int) from by
        obtain ⟨c, h1, _⟩ := hpk
        exact ⟨c, by rw [hPf]; exact h1⟩)
      have hsr1 := (HIY.out V1 (HKX.out _ HK.out) (fun _ _ => rfl)).1
      have hpm : pk.m = x.ship.cabs.length := by have h := hsr1.cabs.len; rw [hcl.ship] at h; exact h.symm
      have hpm12 : pk.m ≤ 12 := by have := HO.out.bs.ship.cabs12; omega
      have HPM := Lib.hid hpm
      have HSR := Lib.hid (fun V (hV : Below V1.heap.size V1 V) => hsr1.bel hV)
      have HGV := Lib.hid (fun V (hV : Below V1.heap.size V1 V) => HG.out.bel hV)
      have hyok := spOk_of HO.out.bs.ship hcl.bk
      have HSF := Lib.hid (fun (c : Nat) V (hV : Below V1.heap.size V1 V) => SpansOf_any (some ⟨ab, off, none⟩) p.nb pk.cb Y.bks (c : Int) V (by have h := (hsr1.bel hV).bks; rw [HA.out, HPN.out] at h; exact h) hyok)
      have HEM := Lib.hid (fun c : Nat => empty_iff (c := c) hyok)
      have HTK := Lib.hid (show ∀ c : Nat, c < pk.m → takB Y.bks (c : Int) = true from fun c hc => by
        have h := (room_ok hcl.room).1
        unfold twiceB at h
        have := List.any_eq_false.1 h c (List.mem_range.2 (by rw [hcl.ship, ← hpm]; exact hc))
        simpa using this)
      have hbk := hcl.bk b (List.mem_of_getElem? hyb)
      have HEL := Lib.hid (fun (c : Nat) V (hV : Below V1.heap.size V1 V) (hc : c < pk.m) => IsEligible_any x.ship pk.A pk.n pk.cap pk.B pk.m pk.cap2 b (.slice A3 n3 c3) c V (by have h := (hsr1.bel hV).cats; rw [hcl.ship] at h; exact h) (by have h := (hsr1.bel hV).cabs; rw [hcl.ship] at h; exact h) HO.out.bs.ship hc (open_cat hbk HOP.out.symm).1 (by have h := (open_cat hbk HOP.out.symm).2; have h2 := hsr1.cats.len; rw [hcl.ship] at h2; omega))
      have HBK := Lib.hid hbk
      have HSS := Lib.hid (show ∀ V, Below V1.heap.size V1 V → (fun w' => (w'.cell? ⟨g, 0, none⟩ = some (.int .i64 x.ship.legs) ∧ w'.cell? ⟨g, 1, none⟩ = some (.int .i64 x.ship.souls) ∧ w'.cell? ⟨g, 2, none⟩ = some (.slice pk.A pk.n pk.cap) ∧ w'.cell? ⟨g, 3, none⟩ = some (.slice pk.B pk.m pk.cap2) ∧ w'.cell? ⟨g, 11, none⟩ = some (.slice (some ⟨ab, off, none⟩) p.nb pk.cb)) ∧ (w'.cell? ⟨ab, off + i * 11, none⟩ = some (.int .i64 b.id) ∧ w'.cell? ⟨ab, off + i * 11 + 1, none⟩ = some (.int .i64 b.kind) ∧ w'.cell? ⟨ab, off + i * 11 + 2, none⟩ = some (.int .i64 b.state) ∧ w'.cell? ⟨ab, off + i * 11 + 3, none⟩ = some (.int .i64 b.gst) ∧ w'.cell? ⟨ab, off + i * 11 + 4, none⟩ = some (.bool b.lev) ∧ w'.cell? ⟨ab, off + i * 11 + 5, none⟩ = some (.int .i64 b.cab) ∧ w'.cell? ⟨ab, off + i * 11 + 6, none⟩ = some (.int .i64 b.cat) ∧ w'.cell? ⟨ab, off + i * 11 + 7, none⟩ = some (.int .i64 b.frm) ∧ w'.cell? ⟨ab, off + i * 11 + 8, none⟩ = some (.int .i64 b.upto) ∧ w'.cell? ⟨ab, off + i * 11 + 9, none⟩ = some (.int .i64 b.til) ∧ w'.cell? ⟨ab, off + i * 11 + 10, none⟩ = some (.slice A3 n3 c3))) V from fun V hV => by
        have c := HG.out.bel hV
        exact ⟨⟨c.cell rfl, c.cell rfl, c.cell rfl, c.cell rfl, by rw [← HPN.out, ← HA.out]; exact c.cell rfl⟩, ⟨cellB hV (HM.out 0 _ rfl), cellB hV (HM.out 1 _ rfl), cellB hV (HM.out 2 _ rfl), cellB hV (HM.out 3 _ rfl), cellB hV (HM.out 4 _ rfl), cellB hV (HM.out 5 _ rfl), cellB hV (HM.out 6 _ rfl), cellB hV (HM.out 7 _ rfl), cellB hV (HM.out 8 _ rfl), cellB hV (HM.out 9 _ rfl), cellB hV (HM.out 10 _ rfl)⟩⟩)
      clear hY HI2 hcl hyb hPf hpk hsr1 hpm hyok hbk HI HCL
      go_wp2_with fail
      go_loopg [4] pk.m (fun gk iv wr => ∃ (c : Nat), c ≤ pk.m ∧ pk.m - c ≤ gk ∧ iv = .int .i64 c ∧ (mayN Y b c).find? Pf = none ∧ Below V1.heap.size V1 wr)
      case atStart => exact ⟨0, Nat.zero_le _, by omega, rfl, rfl, HB2.out⟩
      case round =>
        obtain ⟨c, hc, hgc, rfl, hnf, hb⟩ := hrel
        obtain ⟨V2, hV2⟩ : ∃ V, V = wr := ⟨_, rfl⟩
        subst hV2
        have g3 : V2.cell? ⟨g, 3, none⟩ = some (.slice pk.B pk.m pk.cap2) := (HGV.out _ hb).cell rfl
        by_cases hlc : c < pk.m
        · have g11 : V2.cell? ⟨g, 11, none⟩ = some (.slice (some ⟨ab, off, none⟩) p.nb pk.cb) := (HSS.out _ hb).1.2.2.2.2
          have HSC := Lib.hid (HSF.out c V2 hb)
          have HNF := Lib.hid hnf
          have HB := Lib.hid hb
          clear hb
          clear hnf
          go_wp2_with fail
          refine HSC.out.mono ?_
          rintro e w5 ⟨v5, xs5, rfl, hO5, hb5⟩
          obtain ⟨A5, n5, c5, rfl, hs5⟩ := hO5.sl spanC_good
          have hn5 : (takL Y.bks (c : Int)).length = n5 := hs5.len
          have HEMC := Lib.hid (show emptyB Y.bks c = decide (n5 = 0) by rw [← HEM.out c, HTK.out c hlc, hn5]; rfl)
          have hb := HB.out.trans (hb5.mono HB.out.size)
          clear hb5 hO5 hs5 hn5 g3 g11 HSC
          obtain ⟨V3, hV3⟩ : ∃ V, V = w5 := ⟨_, rfl⟩
          subst hV3
          have HB3 := Lib.hid hb
          clear hb
          obtain ⟨f, hf⟩ : ∃ f, f = eligB x.ship b (c : Int) := ⟨_, rfl⟩
          have HELC := Lib.hid (fun V hV => HEL.out c V hV hlc)
          rw [← hf] at HELC
          have HF := Lib.hid hf
          clear hf
          obtain ⟨tv, htv⟩ : ∃ t, t = (!decide (n5 = 0) || !f) := ⟨_, rfl⟩
          have HTV := Lib.hid htv
          clear htv
          go_upto_region 9 with (fail)
          go_cut [52] (fun q wx => q = .bool tv ∧ Below V1.heap.size V1 wx)
          case first =>
            have hbx := HB3.out.drew
            by_cases h5 : n5 = 0
            · have hv : tv = !f := by rw [HTV.out, decide_eq_true h5]; rfl
              have HV := Lib.hid hv
              have h5' : decide ((0 : Int) < (n5 : Int)) = false := decide_eq_false (by omega)
              have h5n : decide (0 < n5) = false := decide_eq_false (by omega)
              clear h5 hv
              refine wp_region_held_drew (S := (fun w' => (w'.cell? ⟨g, 0, none⟩ = some (.int .i64 x.ship.legs) ∧ w'.cell? ⟨g, 1, none⟩ = some (.int .i64 x.ship.souls) ∧ w'.cell? ⟨g, 2, none⟩ = some (.slice pk.A pk.n pk.cap) ∧ w'.cell? ⟨g, 3, none⟩ = some (.slice pk.B pk.m pk.cap2) ∧ w'.cell? ⟨g, 11, none⟩ = some (.slice (some ⟨ab, off, none⟩) p.nb pk.cb)) ∧ (w'.cell? ⟨ab, off + i * 11, none⟩ = some (.int .i64 b.id) ∧ w'.cell? ⟨ab, off + i * 11 + 1, none⟩ = some (.int .i64 b.kind) ∧ w'.cell? ⟨ab, off + i * 11 + 2, none⟩ = some (.int .i64 b.state) ∧ w'.cell? ⟨ab, off + i * 11 + 3, none⟩ = some (.int .i64 b.gst) ∧ w'.cell? ⟨ab, off + i * 11 + 4, none⟩ = some (.bool b.lev) ∧ w'.cell? ⟨ab, off + i * 11 + 5, none⟩ = some (.int .i64 b.cab) ∧ w'.cell? ⟨ab, off + i * 11 + 6, none⟩ = some (.int .i64 b.cat) ∧ w'.cell? ⟨ab, off + i * 11 + 7, none⟩ = some (.int .i64 b.frm) ∧ w'.cell? ⟨ab, off + i * 11 + 8, none⟩ = some (.int .i64 b.upto) ∧ w'.cell? ⟨ab, off + i * 11 + 9, none⟩ = some (.int .i64 b.til) ∧ w'.cell? ⟨ab, off + i * 11 + 10, none⟩ = some (.slice A3 n3 c3)))) (by kernel_rfl) (HSS.out _ hbx) (fun hHeld => ?_)
              refine wpAnyH_take (i := 0) (v := ?v1) (gA rfl) (by kernel_rfl) (by kernel_rfl) (by kernel_rfl) (fun _ _ _ h => h) (Or.inl ⟨rfl, ?y1⟩) (by assumption) ?_
              case y1 => (intro w hSw; (try dsimp only at hSw); go_simp <;> with_reducible rfl)
              simp only [Act.put, List.setIfInBounds_toArray, List.set_cons_zero, List.set_cons_succ]
              refine wpAnyH_take (i := 1) (v := ?v2) (gA rfl) (by kernel_rfl) (by kernel_rfl) (by kernel_rfl) (fun _ _ _ h => h) (Or.inl ⟨rfl, ?y2⟩) (by assumption) ?_
              case y2 => (intro w hSw; (try dsimp only at hSw); go_simp <;> with_reducible rfl)
              simp only [Act.put, List.setIfInBounds_toArray, List.set_cons_zero, List.set_cons_succ]
              refine wpAnyH_take (i := 2) (v := ?v3) (gA rfl) (by kernel_rfl) (by kernel_rfl) (by kernel_rfl) (fun _ _ _ h => h) (Or.inl ⟨rfl, ?y3⟩) (by assumption) ?_
              case y3 => (intro w hSw; (try dsimp only at hSw); go_simp <;> with_reducible rfl)
              simp only [Act.put, List.setIfInBounds_toArray, List.set_cons_zero, List.set_cons_succ]
              refine wpAnyH_take (i := 3) (v := ?v4) (gA rfl) (by kernel_rfl) (by kernel_rfl) (by kernel_rfl) (fun _ _ _ h => h) (Or.inl ⟨rfl, ?y4⟩) (by assumption) ?_
              case y4 => (intro w hSw; (try dsimp only at hSw); go_simp <;> with_reducible rfl)
              simp only [Act.put, List.setIfInBounds_toArray, List.set_cons_zero, List.set_cons_succ]
              refine wpAnyH_take (i := 4) (v := ?v5) (gA rfl) (by kernel_rfl) (by kernel_rfl) (by kernel_rfl) (fun _ _ _ h => h) (Or.inl ⟨rfl, ?y5⟩) (by assumption) ?_
              case y5 => (intro w hSw; (try dsimp only at hSw); go_simp <;> with_reducible rfl)
              simp only [Act.put, List.setIfInBounds_toArray, List.set_cons_zero, List.set_cons_succ]
              refine wpAnyH_take (i := 5) (v := ?v6) (gA rfl) (by kernel_rfl) (by kernel_rfl) (by kernel_rfl) (fun _ _ _ h => h) (Or.inl ⟨rfl, ?y6⟩) (by assumption) ?_
              case y6 => (intro w hSw; (try dsimp only at hSw); go_simp <;> with_reducible rfl)
              simp only [Act.put, List.setIfInBounds_toArray, List.set_cons_zero, List.set_cons_succ]
              refine wpAnyH_take (i := 6) (v := ?v7) (gA rfl) (by kernel_rfl) (by kernel_rfl) (by kernel_rfl) (fun _ _ _ h => h) (Or.inl ⟨rfl, ?y7⟩) (by assumption) ?_
              case y7 => (intro w hSw; (try dsimp only at hSw); go_simp <;> with_reducible rfl)
              simp only [Act.put, List.setIfInBounds_toArray, List.set_cons_zero, List.set_cons_succ]
              refine wpAnyH_take (i := 7) (v := ?v8) (gA rfl) (by kernel_rfl) (by kernel_rfl) (by kernel_rfl) (fun _ _ _ h => h) (Or.inl ⟨rfl, ?y8⟩) (by assumption) ?_
              case y8 => (intro w hSw; (try dsimp only at hSw); go_simp <;> with_reducible rfl)
              simp only [Act.put, List.setIfInBounds_toArray, List.set_cons_zero, List.set_cons_succ]
              refine wpAnyH_take (i := 8) (v := ?v9) (gA rfl) (by kernel_rfl) (by kernel_rfl) (by kernel_rfl) (fun _ _ _ h => h) (Or.inl ⟨rfl, ?y9⟩) (by assumption) ?_
              case y9 => (intro w hSw; (try dsimp only at hSw); go_simp <;> with_reducible rfl)
              simp only [Act.put, List.setIfInBounds_toArray, List.set_cons_zero, List.set_cons_succ]
              refine wpAnyH_take (i := 9) (v := ?v10) (gA rfl) (by kernel_rfl) (by kernel_rfl) (by kernel_rfl) (fun _ _ _ h => h) (Or.inl ⟨rfl, ?y10⟩) (by assumption) ?_
              case y10 => (intro w hSw; (try dsimp only at hSw); go_simp <;> with_reducible rfl)
              simp only [Act.put, List.setIfInBounds_toArray, List.set_cons_zero, List.set_cons_succ]
              refine wpAnyH_take (i := 10) (v := ?v11) (gA rfl) (by kernel_rfl) (by kernel_rfl) (by kernel_rfl) (fun _ _ _ h => h) (Or.inl ⟨rfl, ?y11⟩) (by assumption) ?_
              case y11 => (intro w hSw; (try dsimp only at hSw); go_simp <;> with_reducible rfl)
              simp only [Act.put, List.setIfInBounds_toArray, List.set_cons_zero, List.set_cons_succ]
              refine wpAnyH_take (i := 11) (v := ?v12) (gA rfl) (by kernel_rfl) (by kernel_rfl) (by kernel_rfl) (fun _ _ _ h => h) (Or.inl ⟨rfl, ?y12⟩) (by assumption) ?_
              case y12 => (intro w hSw; (try dsimp only at hSw); go_simp <;> with_reducible rfl)
              simp only [Act.put, List.setIfInBounds_toArray, List.set_cons_zero, List.set_cons_succ]
              refine wpAnyH_ready (rs := [12]) (by kernel_rfl) (by simp) (AllReadyH.cons (gA rfl) (fun K hK => ?_) AllReadyH.nil)
              go_simp
              (go_at_call 127; refine (HELC.out _ hbx).mono ?_; rintro e w6 ⟨rfl, hb6⟩; replace hbx := hbx.trans (hb6.mono hbx.size); clear hb6)
              go_wp2_with fail
              refine hK.out _ _ ?_ (fun hHeld => ?_)
              · exact HSS.out _ hbx
              clear hK K
              try simp only [Act.put, List.setIfInBounds_toArray, List.set_cons_zero, List.set_cons_succ]
              refine wpAnyH_take (i := 13) (v := ?v14) (gA rfl) (by kernel_rfl) (by kernel_rfl) (by kernel_rfl) (fun _ _ _ h => h) (Or.inl ⟨rfl, ?y14⟩) (by assumption) ?_
              case y14 => (intro w hSw; (try dsimp only at hSw); go_simp <;> with_reducible rfl)
              simp only [Act.put, List.setIfInBounds_toArray, List.set_cons_zero, List.set_cons_succ]
              refine wpAnyH_take (i := 14) (v := ?v15) (gA rfl) (by kernel_rfl) (by kernel_rfl) (by kernel_rfl) (fun _ _ _ h => h) (Or.inl ⟨rfl, ?y15⟩) (by assumption) ?_
              case y15 => (intro w hSw; (try dsimp only at hSw); go_simp <;> with_reducible rfl)
              simp only [Act.put, List.setIfInBounds_toArray, List.set_cons_zero, List.set_cons_succ]
              refine wpAnyH_done (by kernel_rfl) ?_ _
              go_wp2_with fail
              go_meet
              exact ⟨by rw [HV.out], hbx⟩
            · have hv : tv = true := by rw [HTV.out, decide_eq_false h5]; rfl
              have HV := Lib.hid hv
              have h5' : decide ((0 : Int) < (n5 : Int)) = true := decide_eq_true (by omega)
              have h5n : decide (0 < n5) = true := decide_eq_true (by omega)
              clear h5 hv
              refine wp_region_held_drew (S := (fun w' => (w'.cell? ⟨g, 0, none⟩ = some (.int .i64 x.ship.legs) ∧ w'.cell? ⟨g, 1, none⟩ = some (.int .i64 x.ship.souls) ∧ w'.cell? ⟨g, 2, none⟩ = some (.slice pk.A pk.n pk.cap) ∧ w'.cell? ⟨g, 3, none⟩ = some (.slice pk.B pk.m pk.cap2) ∧ w'.cell? ⟨g, 11, none⟩ = some (.slice (some ⟨ab, off, none⟩) p.nb pk.cb)) ∧ (w'.cell? ⟨ab, off + i * 11, none⟩ = some (.int .i64 b.id) ∧ w'.cell? ⟨ab, off + i * 11 + 1, none⟩ = some (.int .i64 b.kind) ∧ w'.cell? ⟨ab, off + i * 11 + 2, none⟩ = some (.int .i64 b.state) ∧ w'.cell? ⟨ab, off + i * 11 + 3, none⟩ = some (.int .i64 b.gst) ∧ w'.cell? ⟨ab, off + i * 11 + 4, none⟩ = some (.bool b.lev) ∧ w'.cell? ⟨ab, off + i * 11 + 5, none⟩ = some (.int .i64 b.cab) ∧ w'.cell? ⟨ab, off + i * 11 + 6, none⟩ = some (.int .i64 b.cat) ∧ w'.cell? ⟨ab, off + i * 11 + 7, none⟩ = some (.int .i64 b.frm) ∧ w'.cell? ⟨ab, off + i * 11 + 8, none⟩ = some (.int .i64 b.upto) ∧ w'.cell? ⟨ab, off + i * 11 + 9, none⟩ = some (.int .i64 b.til) ∧ w'.cell? ⟨ab, off + i * 11 + 10, none⟩ = some (.slice A3 n3 c3)))) (by kernel_rfl) (HSS.out _ hbx) (fun hHeld => ?_)
              refine wpAnyH_take (i := 0) (v := ?v16) (gA rfl) (by kernel_rfl) (by kernel_rfl) (by kernel_rfl) (fun _ _ _ h => h) (Or.inl ⟨rfl, ?y16⟩) (by assumption) ?_
              case y16 => (intro w hSw; (try dsimp only at hSw); go_simp <;> with_reducible rfl)
              simp only [Act.put, List.setIfInBounds_toArray, List.set_cons_zero, List.set_cons_succ]
              refine wpAnyH_take (i := 1) (v := ?v17) (gA rfl) (by kernel_rfl) (by kernel_rfl) (by kernel_rfl) (fun _ _ _ h => h) (Or.inl ⟨rfl, ?y17⟩) (by assumption) ?_
              case y17 => (intro w hSw; (try dsimp only at hSw); go_simp <;> with_reducible rfl)
              simp only [Act.put, List.setIfInBounds_toArray, List.set_cons_zero, List.set_cons_succ]
              refine wpAnyH_take (i := 2) (v := ?v18) (gA rfl) (by kernel_rfl) (by kernel_rfl) (by kernel_rfl) (fun _ _ _ h => h) (Or.inl ⟨rfl, ?y18⟩) (by assumption) ?_
              case y18 => (intro w hSw; (try dsimp only at hSw); go_simp <;> with_reducible rfl)
              simp only [Act.put, List.setIfInBounds_toArray, List.set_cons_zero, List.set_cons_succ]
              refine wpAnyH_take (i := 3) (v := ?v19) (gA rfl) (by kernel_rfl) (by kernel_rfl) (by kernel_rfl) (fun _ _ _ h => h) (Or.inl ⟨rfl, ?y19⟩) (by assumption) ?_
              case y19 => (intro w hSw; (try dsimp only at hSw); go_simp <;> with_reducible rfl)
              simp only [Act.put, List.setIfInBounds_toArray, List.set_cons_zero, List.set_cons_succ]
              refine wpAnyH_take (i := 4) (v := undef) (gA rfl) (by kernel_rfl) (by kernel_rfl) (by kernel_rfl) (fun _ _ _ h => h) (Or.inr ⟨rfl, rfl⟩) (by assumption) ?_
              simp only [Act.put, List.setIfInBounds_toArray, List.set_cons_zero, List.set_cons_succ]
              refine wpAnyH_take (i := 5) (v := undef) (gA rfl) (by kernel_rfl) (by kernel_rfl) (by kernel_rfl) (fun _ _ _ h => h) (Or.inr ⟨rfl, rfl⟩) (by assumption) ?_
              simp only [Act.put, List.setIfInBounds_toArray, List.set_cons_zero, List.set_cons_succ]
              refine wpAnyH_take (i := 6) (v := undef) (gA rfl) (by kernel_rfl) (by kernel_rfl) (by kernel_rfl) (fun _ _ _ h => h) (Or.inr ⟨rfl, rfl⟩) (by assumption) ?_
              simp only [Act.put, List.setIfInBounds_toArray, List.set_cons_zero, List.set_cons_succ]
              refine wpAnyH_take (i := 7) (v := undef) (gA rfl) (by kernel_rfl) (by kernel_rfl) (by kernel_rfl) (fun _ _ _ h => h) (Or.inr ⟨rfl, rfl⟩) (by assumption) ?_
              simp only [Act.put, List.setIfInBounds_toArray, List.set_cons_zero, List.set_cons_succ]
              refine wpAnyH_take (i := 8) (v := undef) (gA rfl) (by kernel_rfl) (by kernel_rfl) (by kernel_rfl) (fun _ _ _ h => h) (Or.inr ⟨rfl, rfl⟩) (by assumption) ?_
              simp only [Act.put, List.setIfInBounds_toArray, List.set_cons_zero, List.set_cons_succ]
              refine wpAnyH_take (i := 9) (v := undef) (gA rfl) (by kernel_rfl) (by kernel_rfl) (by kernel_rfl) (fun _ _ _ h => h) (Or.inr ⟨rfl, rfl⟩) (by assumption) ?_
              simp only [Act.put, List.setIfInBounds_toArray, List.set_cons_zero, List.set_cons_succ]
              refine wpAnyH_take (i := 10) (v := undef) (gA rfl) (by kernel_rfl) (by kernel_rfl) (by kernel_rfl) (fun _ _ _ h => h) (Or.inr ⟨rfl, rfl⟩) (by assumption) ?_
              simp only [Act.put, List.setIfInBounds_toArray, List.set_cons_zero, List.set_cons_succ]
              refine wpAnyH_take (i := 11) (v := undef) (gA rfl) (by kernel_rfl) (by kernel_rfl) (by kernel_rfl) (fun _ _ _ h => h) (Or.inr ⟨rfl, rfl⟩) (by assumption) ?_
              simp only [Act.put, List.setIfInBounds_toArray, List.set_cons_zero, List.set_cons_succ]
              refine wpAnyH_take (i := 12) (v := undef) (gA rfl) (by kernel_rfl) (by kernel_rfl) (by kernel_rfl) (fun _ _ _ h => h) (Or.inr ⟨rfl, rfl⟩) (by assumption) ?_
              simp only [Act.put, List.setIfInBounds_toArray, List.set_cons_zero, List.set_cons_succ]
              refine wpAnyH_take (i := 13) (v := undef) (gA rfl) (by kernel_rfl) (by kernel_rfl) (by kernel_rfl) (fun _ _ _ h => h) (Or.inr ⟨rfl, rfl⟩) (by assumption) ?_
              simp only [Act.put, List.setIfInBounds_toArray, List.set_cons_zero, List.set_cons_succ]
              refine wpAnyH_take (i := 14) (v := ?v30) (gA rfl) (by kernel_rfl) (by kernel_rfl) (by kernel_rfl) (fun _ _ _ h => h) (Or.inl ⟨rfl, ?y30⟩) (by assumption) ?_
              case y30 => (intro w hSw; (try dsimp only at hSw); go_simp <;> with_reducible rfl)
              simp only [Act.put, List.setIfInBounds_toArray, List.set_cons_zero, List.set_cons_succ]
              refine wpAnyH_done (by kernel_rfl) ?_ _
              go_wp2_with fail
              go_meet
              exact ⟨by rw [HV.out], hbx⟩
          obtain ⟨rfl, hb4⟩ := hcut
          obtain ⟨V4, hV4⟩ : ∃ V, V = wc := ⟨_, rfl⟩
          subst hV4
          have hs14 := hb4.size
          have HB4 := Lib.hid hb4
          clear hb4 HB3 HB
          have HEY := Lib.hid (show eligB Y.ship b (c : Int) = f by rw [HCY.out.ship]; exact HF.out.symm)
          cases tv
          rotate_left
          · have hno : ¬ (eligB Y.ship b (c : Int) && emptyB Y.bks c) = true := by
              rw [HEY.out, HEMC.out]
              intro h
              rw [Bool.and_eq_true] at h
              have h1 := HTV.out
              rw [h.1, h.2] at h1
              exact absurd h1 (by decide)
            have HN := Lib.hid (find_next HNF.out (fun h => absurd h hno))
            clear hno
            go_wp2_with fail
            go_roundg (pk.m - (c + 1))
            case measure => omega
            case rel => exact ⟨c + 1, by omega, by omega, by go_num, HN.out, HB4.out⟩
          obtain ⟨hfe, hem⟩ : f = true ∧ emptyB Y.bks c = true := by
            rw [HEMC.out]
            have h1 := Bool.or_eq_false_iff.1 HTV.out.symm
            exact ⟨by simpa using h1.2, by simpa using h1.1⟩
          have HFE := Lib.hid hfe
          have HEMT := Lib.hid hem
          clear hfe hem
          have g11 : V4.cell? ⟨g, 11, none⟩ = some (.slice (some ⟨ab, off, none⟩) p.nb pk.cb) := (HSS.out _ HB4.out).1.2.2.2.2
          have HM4 := Lib.hid (show V4.rangeAt ab (off + i * 11) (bkgA b (.slice A3 n3 c3)).toList from fun j u hu => cellB HB4.out (HM.out j u hu))
          go_upto_region 10 with (fail)
          go_cut [7] (fun p wx => ∃ h, p = .pointer (some ⟨h, 0, none⟩) ∧ V4.heap.size ≤ h ∧ Blk wx h (bkgA b (.slice A3 n3 c3)) 37 ∧ Below V4.heap.size V4 wx)
          case first =>
            go_wp2_with (first | (refine wpList_load_mid rfl 37 (.tmp 56) rfl ab (off + i * 11) rfl (bkgA b (.slice A3 n3 c3)).toList _ HM4.out Tryz.underlying37 rfl (by kernel_rfl) ?_) | (refine wpList_store_row rfl 37 (.tmp 7) (.tmp 57) rfl V4.heap.size (bkgA b (.slice A3 n3 c3)) rfl rfl 37 _ (Blk.new V4 #[.int .i64 0, .int .i64 0, .int .i64 0, .int .i64 0, .bool false, .int .i64 0, .int .i64 0, .int .i64 0, .int .i64 0, .int .i64 0, .slice none 0 0] 37) (by kernel_rfl) rfl (bkgA_one _ _ _ _) ?_))
            go_meet
            exact ⟨_, rfl, Nat.le_refl _, (Blk.new V4 _ _).row _, below_setRow (bel1 V4 _) (Nat.le_refl _) _⟩
          obtain ⟨h, rfl, hh, hH, hb5⟩ := hcut
          obtain ⟨V5, hV5⟩ : ∃ V, V = wc := ⟨_, rfl⟩
          subst hV5
          have hs45 := hb5.size
          have hhl := hH.lt
          have h5 : V5.cell? ⟨h, 5, none⟩ = some (.int .i64 b.cab) := hH.cell rfl
          have f5 := hH.free 5
          have HH := Lib.hid hH
          clear hH
          have HB5 := Lib.hid (HB4.out.trans (hb5.mono HB4.out.size))
          clear hb5 g11 HM4
          go_upto_region 11 with (fail)
          go_cut [] (fun wx => Blk wx h (bkgA (moveB b (c : Int)) (.slice A3 n3 c3)) 37 ∧ Kept (fun k => k = h) V5 wx)
          case first => as_aux_lemma =>
            go_wp2_with fail
            go_meet
            exact ⟨HH.out.set (j := 5) _, kset V5 h [(5, .int .i64 (c : Int))]⟩
          obtain ⟨hH6, hK6⟩ := hcut
          obtain ⟨V6, hV6⟩ : ∃ V, V = wc := ⟨_, rfl⟩
          subst hV6
          have hb6 : Below V1.heap.size V1 V6 := HB5.out.trans (hK6.below (B := V1.heap.size) HB5.out.size (fun k hk e => by omega))
          have hs16 := hb6.size
          have HB6 := Lib.hid hb6
          have hK16 : Kept (fun j => j = g) W1 V6 := HK.out.trans (Kept.of_below hb6 (fun q h1 h2 => absurd h1 (by omega)))
          have HK16 := Lib.hid hK16
          have hMI : BkIn (moveB b (c : Int)) := ⟨HIN.out.id, HIN.out.kind, HIN.out.state, HIN.out.gst, show InI (c : Int) from .of (by omega) (by omega), HIN.out.cat, HIN.out.frm, HIN.out.upto, HIN.out.til⟩
          have HC := Lib.hid (HSB0.out (fun V => K V ∧ ∀ j, Q j → V.heap[j]? = V1.heap[j]?) Y pk i (moveB b (c : Int)) A3 n3 c3 Lk V6 (fun V hV => (HIY.out V hV.1 hV.2).1) (fun V hV => (HIY.out V hV.1 hV.2).2) (fun V hV => HFK.out V hV) ⟨HKX.out _ hK16, fun j hj => hb6.block j (HQ.out j hj).2⟩ (HSL.out.bel hb6) hMI (by rw [HCY.out.len, HNB.out]; exact hlt) (by rw [HCY.out.len, HNB.out]; exact h16))
          rw [saiA_clo HCY.out pk] at HC
          have HG6 := Lib.hid (HGV.out _ hb6)
          have hgl6 := HG6.out.lt
          have HH6 := Lib.hid hH6
          clear hH6 hK6 hb6 hK16 hMI h5 f5 HH
          go_upto_region 12 with (fail)
          go_cut [8] (fun v wx => ∃ s q p', v = .pointer (some ⟨s, 0, none⟩) ∧ Blk wx s (saiA x p') 32 ∧ V6.heap.size ≤ q ∧ q < wx.heap.size ∧ p'.nb = pk.nb ∧ (∀ X, (K X ∧ ∀ j, Q j → X.heap[j]? = V1.heap[j]?) → X.heap[q]? = wx.heap[q]? → SaiR X (setS Y i (moveB b (c : Int))) p' ∧ Pts bkgC X (Lk.set i (bkgA (moveB b (c : Int)) (.slice A3 n3 c3)).toList) (Y.bks.set i (moveB b (c : Int))) ∧ Sl (rawC 11) 11 X All p'.C p'.nb p'.cb (Lk.set i (bkgA (moveB b (c : Int)) (.slice A3 n3 c3)).toList)) ∧ Below V6.heap.size V6 wx)
          case first =>
            go_wp2_with (first | (refine wpList_load_row rfl 32 (.tmp 1) rfl g rfl 32 _ (0, 0) _ HG6.out Tryz.underlying32 rfl (by kernel_rfl) ?_) | (refine wpList_load_row rfl 37 (.tmp 7) rfl h rfl 37 _ (0, 0) _ HH6.out Tryz.underlying37 rfl (by kernel_rfl) ?_))
            refine HC.out.mono ?_
            rintro e w7 ⟨q, p', he, hq0, hq1, hSR, hpn', _, hb7⟩
            rw [show saiA (setS Y i (moveB b (c : Int))) p' = saiA x p' from saiA_clo HCY.out p'] at he
            subst he
            have HS7 := Lib.hid hSR
            have HB7 := Lib.hid hb7
            have HPN7 := Lib.hid hpn'
            clear HC hSR hb7 hpn'
            go_wp2_with (refine wpList_store_row rfl 32 (.tmp 8) (.tmp 63) rfl w7.heap.size (saiA x p') rfl rfl 32 _ (Blk.new w7 #[.int .i64 0, .int .i64 0, .slice none 0 0, .slice none 0 0, .slice none 0 0, .int .i64 0, .int .i64 0, .slice none 0 0, .int .i64 0, .int .i64 0, .int .i64 0, .slice none 0 0, .bool false] 32) (by kernel_rfl) rfl (by simp [Value.oneCell']) ?_)
            go_meet
            have hbe : Below w7.heap.size w7 ((w7.alloc (.cells #[.int .i64 0, .int .i64 0, .slice none 0 0, .slice none 0 0, .slice none 0 0, .int .i64 0, .int .i64 0, .slice none 0 0, .int .i64 0, .int .i64 0, .int .i64 0, .slice none 0 0, .bool false] 32)).setRow w7.heap.size (saiA x p')) := below_setRow (bel1 w7 _) (Nat.le_refl _) _
            exact ⟨_, q, p', rfl, (Blk.new w7 _ _).row _, hq0, Nat.lt_of_lt_of_le hq1 hbe.size, HPN7.out, fun X hX hq => HS7.out X hX (hq.trans (hbe.block q hq1)), HB7.out.trans (hbe.mono HB7.out.size)⟩
          obtain ⟨s, q, p', rfl, hS8, hq0, hq1, hpn', hSR, hb8⟩ := hcut
          obtain ⟨V8, hV8⟩ : ∃ V, V = wc := ⟨_, rfl⟩
          subst hV8
          have hs68 := hb8.size
          have hb18 := HB6.out.trans (hb8.mono HB6.out.size)
          have hK18 : Kept (fun j => j = g) W1 V8 := HK.out.trans (Kept.of_below hb18 (fun q h1 h2 => absurd h1 (by omega)))
          have hsr8 := (hSR V8 ⟨HKX.out _ hK18, fun j hj => hb18.block j (HQ.out j hj).2⟩ rfl).1
          obtain ⟨rm, hrm⟩ : ∃ r, r = roomE (setS Y i (moveB b (c : Int))) := ⟨_, rfl⟩
          have HRM := Lib.hid (RoomOf_any (setS Y i (moveB b (c : Int))) p' V8 hsr8 (by show OkShp Y.ship; rw [HCY.out.ship]; exact HO.out.bs.ship) (fun d hd => by
            show OkBk Y.ship d
            rw [HCY.out.ship]
            rcases mem_set_of hd with h1 | rfl
            · exact HCY.out.bk d h1
            · exact move_okBk HBK.out HOP.out.symm (by rw [← HPM.out]; exact hlc) (by rw [← HF.out]; exact HFE.out)) (by show (Y.bks.set i (moveB b (c : Int))).length ≤ 16; rw [List.length_set, HCY.out.len, HNB.out]; exact h16))
          rw [show saiA (setS Y i (moveB b (c : Int))) p' = saiA x p' from saiA_clo HCY.out p', ← hrm] at HRM
          have hrv : rm = if Pf (c : Int) = true then 0 else 9 := by
            rw [hrm, room_mv (by rw [HCY.out.ship]; exact HO.out.bs.ship) (by rw [HCY.out.ship]; exact HBK.out) HCY.out.room HYB.out HCY.out.none HOP.out.symm HEMT.out, HPF.out]
          obtain ⟨pv, hpv⟩ : ∃ r, r = Pf (c : Int) := ⟨_, rfl⟩
          rw [← hpv] at hrv
          have HPV := Lib.hid hpv
          have HS8 := Lib.hid hS8
          have HB18 := Lib.hid hb18
          have HSR8 := Lib.hid hSR
          have HPN8 := Lib.hid hpn'
          have HK18 := Lib.hid hK18
          have hELI : (eligB Y.ship b (c : Int) && emptyB Y.bks c) = true := by rw [HEY.out, HFE.out, HEMT.out]; rfl
          have HELI := Lib.hid hELI
          clear hS8 hb18 hSR hpn' hK18 hsr8 hrm hb8 hpv HG6 HH6 HC hELI
          cases pv
          · obtain rfl : rm = 9 := hrv
            have HN := Lib.hid (find_next HNF.out (fun _ => HPV.out.symm))
            go_wp2_with (refine wpList_load_row rfl 32 (.tmp 8) rfl s rfl 32 _ (0, 0) _ HS8.out Tryz.underlying32 rfl (by kernel_rfl) ?_)
            refine HRM.out.mono ?_
            rintro e w9 ⟨rfl, hb9⟩
            have HB9 := Lib.hid (HB18.out.trans (hb9.mono HB18.out.size))
            clear hb9 HRM
            go_wp2_with fail
            go_roundg (pk.m - (c + 1))
            case measure => omega
            case rel => exact ⟨c + 1, by omega, by omega, by go_num, HN.out, HB9.out⟩
          obtain rfl : rm = 0 := hrv
          have hfm := find_may (show pk.m = Y.ship.cabs.length by rw [HCY.out.ship]; exact HPM.out) hlc HNF.out HELI.out HPV.out.symm
          have HNX := Lib.hid (show closeK x (i + 1) = setS Y i (moveB b (c : Int)) from by
            show closeAt (closeK x i) i = _
            rw [← HYE.out]
            exact closeAt_open HYB.out HOP.out.symm (by unfold pickC; rw [HPF.out] at hfm; exact hfm))
          clear hfm
          go_wp2_with (refine wpList_load_row rfl 32 (.tmp 8) rfl s rfl 32 _ (0, 0) _ HS8.out Tryz.underlying32 rfl (by kernel_rfl) ?_)
          refine HRM.out.mono ?_
          rintro e w9 ⟨rfl, hb9⟩
          have hs89 := hb9.size
          have HS9 := Lib.hid (HS8.out.bel hb9)
          have hb19 := HB18.out.trans (hb9.mono HB18.out.size)
          have hG9 := HGV.out _ hb19
          have HB9 := Lib.hid hb9
          have HB19 := Lib.hid hb19
          clear hb9 hb19 HRM HS8
          go_wp2_with (first | (refine wpList_load_row rfl 32 (.tmp 8) rfl s rfl 32 _ (0, 0) _ HS9.out Tryz.underlying32 rfl (by kernel_rfl) ?_) | (refine wpList_store_row rfl 32 (.tmp 1) (.tmp 67) rfl g (saiA x p') rfl rfl 32 _ hG9 (by kernel_rfl) rfl (by simp [Value.oneCell']) ?_))
          go_roundg (p.nb - (i + 1))
          case measure => omega
          case rel =>
            obtain ⟨wE, hwE⟩ : ∃ V, V = w9.setRow g (saiA x p') := ⟨_, rfl⟩
            have hKE : Kept (fun j => j = g) w9 wE := by rw [hwE]; exact (Kept.refl (fun j => j = g) w9).setRow (.inl rfl) _
            have hGE : Blk wE g (saiA x p') 32 := by rw [hwE]; exact hG9.row _
            rw [← hwE]
            have hs9E := hKE.size
            have hKWE : Kept (fun j => j = g) W1 wE := HK18.out.trans ((Kept.of_below HB9.out (fun q h1 h2 => absurd h1 (by omega))).trans hKE)
            have hQE : ∀ V : World, (∀ j, Q j ∨ j = q → V.heap[j]? = wE.heap[j]?) → (∀ j, Q j → V.heap[j]? = V1.heap[j]?) ∧ V.heap[q]? = V8.heap[q]? := fun V hS => ⟨fun j hj => by
                have h1 := HQ.out j hj
                exact (hS j (.inl hj)).trans ((hKE.block j (by omega) (by omega)).trans (HB19.out.block j h1.2)), (hS q (.inr rfl)).trans ((hKE.block q (by omega) (by omega)).trans (HB9.out.block q hq1))⟩
            have hE := hQE wE (fun _ _ => rfl)
            have hRE := HSR8.out wE ⟨HKX.out _ hKWE, hE.1⟩ hE.2
            refine ⟨i + 1, p', _, fun j => Q j ∨ j = q, by omega, by omega, by go_num, hGE, HPN8.out.trans HPN.out, hRE.2.2, fun j hj => ?_, fun V hV hS => ?_, hKWE⟩
            · rcases hj with h1 | rfl
              · have := HQ.out j h1; exact ⟨this.1, by omega⟩
              · exact ⟨by omega, by omega⟩
            · have h9 := hQE V hS
              rw [HNX.out]
              have := HSR8.out V ⟨hV, h9.1⟩ h9.2
              exact ⟨this.1, this.2.1⟩
        · obtain rfl : c = pk.m := by omega
          obtain ⟨c, hcf⟩ := HPK.out
          rw [mayL_eq, show Y.ship.cabs.length = pk.m by rw [HCY.out.ship]; exact HPM.out.symm, hnf] at hcf
          cases hcf
    · obtain rfl : i = p.nb := by omega
      have hend : closeK x p.nb = closeK x x.bks.length := by rw [HNB.out]
      rw [hend] at hI
      have hb1 := hK
      have f12 := hG.free 12
      have g12 : V1.cell? ⟨g, 12, none⟩ = some (.bool x.closed) := hG.cell rfl
      have HG := Lib.hid hG
      have HI := Lib.hid hI
      have HQ := Lib.hid hQ
      have HK := Lib.hid hK
      clear hG hI hQ hK hb1 hsl hc hend
      go_upto_region 15 with (fail)
      go_cut [] (fun wx => Blk wx g (saiA { x with closed := true } pk) 32 ∧ Kept (fun j => j = g) V1 wx)
      case first => as_aux_lemma =>
        go_wp2_with fail
        go_meet
        exact ⟨HG.out.set (j := 12) _, kset V1 g [(12, .bool true)]⟩
      obtain ⟨hG2, hK2⟩ := hcut
      obtain ⟨V2, hV2⟩ : ∃ V, V = wc := ⟨_, rfl⟩
      subst hV2
      have hs12 := hK2.size
      have hKW := HK.out.trans hK2
      have hz6 := HZX.out _ hKW
      have HG2 := Lib.hid hG2
      have HK2 := Lib.hid hK2
      have HKW := Lib.hid hKW
      clear hG2 hK2 hKW g11 g12 f12
      go_wp2_with (first | (refine wpList_load_row rfl 32 (.tmp 1) rfl g rfl 32 _ (0, 0) _ HG2.out Tryz.underlying32 rfl (by kernel_rfl) ?_) | (refine wpList_store_row rfl 32 (.tmp 2) (.tmp 69) rfl z (saiA { x with closed := true } pk) rfl rfl 32 _ hz6 (by kernel_rfl) rfl (by simp [Value.oneCell']) ?_))
      refine bodyPost_ret (v := .agg (saiA { x with closed := true } pk)) ((hz6.row _).ret (k := 2) (by kernel_rfl) rfl Tryz.underlying32 (by kernel_rfl) (by kernel_rfl)) rfl ?_
      have hKz : Kept (fun j => j = z) V2 (V2.setRow z (saiA { x with closed := true } pk)) := (Kept.refl (fun j => j = z) V2).setRow (.inl rfl) _
      have hszz := hKz.size
      refine ⟨⟨pk, by rw [saiA_close HO.out], fun V hV hN => ?_⟩, ?_⟩
      · have h := (HI.out V hV (fun j hj => by
          have h1 := HQ.out j hj
          exact (hN j (by omega) (by omega)).trans ((hKz.block j (by omega) (by omega)).trans (HK2.out.block j h1.2 (by omega))))).1
        exact ⟨h.cats, h.cabs, h.fares, h.bks⟩
      · exact (HT.out _ HKW.out).trans (hKz.below (B := w.heap.size) (HT.out _ HKW.out).size (fun k hk e => by omega))
end Go.Proofs.YtoilcdgpeilgaaaGreat
