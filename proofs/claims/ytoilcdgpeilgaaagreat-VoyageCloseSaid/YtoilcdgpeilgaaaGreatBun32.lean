/-
  Words, laws and contracts: ChgA, ChgB, ChgC.
-/
import Derived.Test.YtoilcdgpeilgaaaGreatBun31
import Derived.BigQuiet
set_option linter.unusedSimpArgs false
set_option linter.unusedVariables false
namespace Go.Proofs.YtoilcdgpeilgaaaGreat
open Go.RowKit Go.Shelf
def setS (x : Sai) (i : Nat) (b : Bkg) : Sai := { x with bks := x.bks.set i b }
def penV (x : Sai) (b : Bkg) (day : Int) : Int := if b.state = 2 ∧ 0 < faresOf b.fol then lateV x.fares (faresOf b.fol) (max 0 (x.leaves - day)) else 0
def goneE (x : Sai) (b : Bkg) (day : Int) : Int := if b.state = 2 ∧ 100000000 < faresOf b.fol then 3 else checkFolio (cancelL b.fol day (penV x b day))
def goneB (x : Sai) (b : Bkg) (day : Int) : Bkg := { b with state := 3, til := 0, fol := cancelL b.fol day (penV x b day) }
def moveB (b : Bkg) (c : Int) : Bkg := { b with cab := c }
theorem frozenB {B : Nat} {W X : World} {p : Addr} (hX : Below B W X) (hp : p.block < B) (hf : W.frozen? p = false) : X.frozen? p = false := (hX.frozen hp).trans hf
theorem lateP_bd {x : Fares} {c many n d : Int} (hf : FareOk x c many) (h0 : 0 ≤ n) (h1 : n ≤ 100000000) : 0 ≤ lateV x n d ∧ lateV x n d ≤ 100000000 := by
  unfold lateV
  split
  · omega
  · obtain ⟨p, hp⟩ : ∃ p, p = (x.bands[(lateI x d).toNat]?.getD default).part := ⟨_, rfl⟩
    rw [← hp]
    have hpb : 0 ≤ p ∧ p ≤ 100 := by
      rw [hp]
      rcases h : x.bands[(lateI x d).toNat]? with _ | b
      · decide
      · have := hf.band b (List.mem_of_getElem? h)
        simpa using ⟨this.2.2.1, this.2.2.2⟩
    unfold partV
    have m0 : 0 ≤ n * p := Int.mul_nonneg h0 hpb.1
    have m1 : n * p ≤ n * 100 := Int.mul_le_mul_of_nonneg_left hpb.2 h0
    omega
theorem pen_bd {x : Sai} {b : Bkg} {d : Int} (hf : FareOk x.fares x.ship.cats.length x.ship.legs) (h : ¬ (b.state = 2 ∧ 100000000 < faresOf b.fol)) : 0 ≤ penV x b d ∧ penV x b d ≤ 100000000 := by
  unfold penV
  split
  · next hc => exact lateP_bd hf (by omega) (by have := hc.1; omega)
  · omega
theorem cancelE_ok {l : List Entry} {d p : Int} (h : checkFolio l = 0) (h0 : 0 ≤ p) (h1 : p ≤ 100000000) : cancelE l d p = checkFolio (cancelL l d p) := by
  unfold cancelE
  rw [if_neg (by simpa using h), if_neg (by omega)]
theorem penE_ok {x : Sai} {n d : Int} (hf : fareE x.fares x.ship.cats.length x.ship.legs = 0) (h0 : 0 ≤ n) (hd : 0 ≤ d) : penE x.fares x.ship.cats.length x.ship.legs n d = if 100000000 < n then 3 else 0 := by
  have hp : payE x.fares x.ship.cats.length x.ship.legs n = if 100000000 < n then 3 else 0 := by
    unfold payE
    rw [if_neg (by rw [hf]; simp)]
    by_cases h : 100000000 < n
    · rw [if_pos h, if_neg (fun hb => by have := betB_iff.1 hb; omega)]
    · rw [if_neg h, if_pos (betB_iff.2 ⟨h0, by omega⟩)]
  unfold penE
  rw [hp]
  by_cases h : 100000000 < n
  · rw [if_pos h, if_pos (by decide)]
  · rw [if_neg h, if_neg (by decide), if_neg (by omega)]
end Go.Proofs.YtoilcdgpeilgaaaGreat
namespace Go.Proofs.YtoilcdgpeilgaaaGreat
open Go.RowKit Go.Shelf
section
variable {α : Type} {c : Cod α} {size : Nat} {e : TypeId} {w : World} {base g n cap : Nat} {l : List α} {xs : List Value}
theorem Own.putG (hg : Good c) (h : Own c size e w base (.slice (some ⟨g, 0, none⟩) n cap) l xs) {i j : Nat} {x x' : α} {u : Value} (hx : l[i]? = some x) (hj : j < size)
    (hc : ∀ cs, c (w.setCell ⟨g, i * size + j, none⟩ u) (Beside base (.slice (some ⟨g, 0, none⟩) n cap)) x cs → c (w.setCell ⟨g, i * size + j, none⟩ u) (Beside base (.slice (some ⟨g, 0, none⟩) n cap)) x' (cs.set j u)) :
    Own c size e (w.setCell ⟨g, i * size + j, none⟩ u) base (.slice (some ⟨g, 0, none⟩) n cap) (l.set i x') (xs.set (i * size + j) u) := by
  have hrow := h.row
  have hn := h.len
  subst hn
  have hk : Kept (fun b => b = g) w (w.setCell ⟨g, i * size + j, none⟩ u) := (Kept.refl (fun b => b = g) w).setCell (p := ⟨g, i * size + j, none⟩) (.inl rfl) u
  have hmove : ∀ (x : α) (cs0 : List Value), c w (Beside base (.slice (some ⟨g, 0, none⟩) l.length cap)) x cs0 → c (w.setCell ⟨g, i * size + j, none⟩ u) (Beside base (.slice (some ⟨g, 0, none⟩) l.length cap)) x cs0 := fun x cs0 h0 =>
    hg.keep h0 fun b hb hlt => ⟨hk.block b hlt (fun e => by subst e; exact hb.2 rfl), hb⟩
  have hil : i < l.length := (List.getElem?_eq_some_iff.1 hx).1
  have hxl : xs.length = l.length * size := hrow.1
  have hlt : i * size + j < xs.length := by have := idx_in hil hj; omega
  refine ⟨by rw [List.length_set]; exact (hrow.stored _ u).1, fun k y hy => ?_⟩
  by_cases hki : k = i
  · subst hki
    rw [List.getElem?_set_self hil] at hy
    injection hy with hy
    subst hy
    obtain ⟨cs, hcc, hl, hcell⟩ := h.el k x hx
    refine ⟨cs.set j u, hc _ (hmove _ _ hcc), by simpa using hl, fun q v hv => ?_⟩
    by_cases hq : q = j
    · subst hq
      rw [List.getElem?_set_self (by omega)] at hv
      rw [List.getElem?_set_self hlt]
      exact hv
    · rw [List.getElem?_set_ne (by omega)] at hv
      rw [List.getElem?_set_ne (by omega)]
      exact hcell q v hv
  · rw [List.getElem?_set_ne (by omega)] at hy
    obtain ⟨cs, hcc, hl, hcell⟩ := h.el k y hy
    refine ⟨cs, hmove _ _ hcc, hl, fun q v hv => ?_⟩
    have hq : q < size := by have := (List.getElem?_eq_some_iff.1 hv).1; omega
    rw [List.getElem?_set_ne ?_]
    · exact hcell q v hv
    · intro he
      rcases Nat.lt_or_ge k i with h1 | h1
      · have := idx_lt h1 hq; omega
      · have := idx_lt (show i < k by omega) hj; omega
end
theorem bkgO_state {w : World} {S : Nat → Prop} {b : Bkg} {cs : List Value} {s : Int} (h : bkgO w S b cs) (hs : InI s) : bkgO w S { b with state := s } (cs.set 2 (.int .i64 s)) := by
  obtain ⟨v, rfl, hi, hI⟩ := h
  exact ⟨v, rfl, hi, hI.id, hI.kind, hs, hI.gst, hI.cab, hI.cat, hI.frm, hI.upto, hI.til⟩
theorem bkgO_til {w : World} {S : Nat → Prop} {b : Bkg} {cs : List Value} {s : Int} (h : bkgO w S b cs) (hs : InI s) : bkgO w S { b with til := s } (cs.set 9 (.int .i64 s)) := by
  obtain ⟨v, rfl, hi, hI⟩ := h
  exact ⟨v, rfl, hi, hI.id, hI.kind, hI.state, hI.gst, hI.cab, hI.cat, hI.frm, hI.upto, hs⟩
theorem bkgO_cab {w : World} {S : Nat → Prop} {b : Bkg} {cs : List Value} {s : Int} (h : bkgO w S b cs) (hs : InI s) : bkgO w S { b with cab := s } (cs.set 5 (.int .i64 s)) := by
  obtain ⟨v, rfl, hi, hI⟩ := h
  exact ⟨v, rfl, hi, hI.id, hI.kind, hI.state, hI.gst, hs, hI.cat, hI.frm, hI.upto, hI.til⟩
theorem bkgO_fol {w : World} {S : Nat → Prop} {b : Bkg} {cs : List Value} {v : Value} {f : List Entry} (h : bkgO w S b cs) (hv : InnO entryC 3 57 w S v f) : bkgO w S { b with fol := f } (cs.set 10 v) := by
  obtain ⟨v0, rfl, hi, hI⟩ := h
  exact ⟨v, rfl, hv, hI.id, hI.kind, hI.state, hI.gst, hI.cab, hI.cat, hI.frm, hI.upto, hI.til⟩
section
variable {w0 : World} {b0 : Nat} {w : World} {base : Nat} {x : Sai} {p : SaiV} {g i : Nat} {b : Bkg}
theorem SaiW.put {j : Nat} {b' : Bkg} {u : Value} (h : SaiW w0 b0 w base x p) (hC : p.C = some ⟨g, 0, none⟩) (hb : x.bks[i]? = some b) (hj : j < 11)
    (hc : ∀ cs, bkgO (w.setCell ⟨g, i * 11 + j, none⟩ u) (Beside w0.heap.size (.slice (some ⟨g, 0, none⟩) p.nb p.cb)) b cs → bkgO (w.setCell ⟨g, i * 11 + j, none⟩ u) (Beside w0.heap.size (.slice (some ⟨g, 0, none⟩) p.nb p.cb)) b' (cs.set j u)) :
    SaiW w0 b0 (w.setCell ⟨g, i * 11 + j, none⟩ u) base (setS x i b') p := by
  obtain ⟨a1, a2, a3, a4, a5, xs, a6⟩ := h
  rw [hC] at a6
  have hg := (a6.lt g rfl).1
  have hk : Kept (fun b => b = g) w (w.setCell ⟨g, i * 11 + j, none⟩ u) := (Kept.refl (fun b => b = g) w).setCell (p := ⟨g, i * 11 + j, none⟩) (.inl rfl) u
  refine ⟨a1, a2, Nat.le_trans a3 hk.size, fun k h1 h2 => (hk.block k (by omega) (by omega)).trans (a4 k h1 h2), ⟨a5.cats, a5.cabs, a5.leg, a5.bands, a5.a, a5.t, a5.d⟩, xs.set (i * 11 + j) u, ?_⟩
  rw [hC]
  exact a6.putG bkgO_good hb hj hc
theorem SaiW.at (h : SaiW w0 b0 w base x p) (hb : x.bks[i]? = some b) : ∃ g A3 n3 c3, p.C = some ⟨g, 0, none⟩ ∧ w0.heap.size ≤ g ∧ g < w.heap.size ∧ (∀ j u, (bkgA b (.slice A3 n3 c3)).toList[j]? = some u → w.cell? ⟨g, i * 11 + j, none⟩ = some u) ∧
    (∀ j, w.frozen? ⟨g, j, none⟩ = false) ∧ Sl entryC 3 w All A3 n3 c3 b.fol ∧ BkIn b ∧ x.bks.length = p.nb := by
  obtain ⟨a1, a2, a3, a4, a5, xs, a6⟩ := h
  obtain ⟨g, cap, hv, hg, hgl⟩ := a6.form (by have := (List.getElem?_eq_some_iff.1 hb).1; omega)
  injection hv with e1 e2 e3
  rw [e1] at a6
  obtain ⟨cs, hc, hl, hcell, hf⟩ := a6.cells hb
  obtain ⟨v, rfl, hi, hI⟩ := hc
  obtain ⟨A3, n3, c3, rfl, hs⟩ := hi.sl entryC_good entryC_flat2
  exact ⟨g, A3, n3, c3, e1, hg, hgl, hcell, hf, hs.all entryC_good (by omega), hI, e2.symm⟩
theorem SaiW.neB {y : Nat} {cs : Array Value} {t : TypeId} (h : SaiW w0 b0 w base x p) (hC : p.C = some ⟨g, 0, none⟩) (hY : Blk w y cs t) (ht : t ≠ 37) : g ≠ y := by
  obtain ⟨a1, a2, a3, a4, a5, xs, a6⟩ := h
  rw [hC] at a6
  exact fun e => a6.neTy hY ht (by rw [e]; rfl)
end
theorem set_set (x : Sai) (i : Nat) (b c : Bkg) : setS (setS x i b) i c = setS x i c := by unfold setS; rw [List.set_set]
theorem set_get {x : Sai} {i : Nat} {b c : Bkg} (h : x.bks[i]? = some c) : (setS x i b).bks[i]? = some b := List.getElem?_set_self (List.getElem?_eq_some_iff.1 h).1
end Go.Proofs.YtoilcdgpeilgaaaGreat
namespace Go.Proofs.YtoilcdgpeilgaaaGreat
open Go.RowKit Go.Shelf
def goneS (x : Sai) (i : Nat) (b : Bkg) (day : Int) : Sai := if goneE x b day = 0 then setS x i (goneB x b day) else x
theorem goneS_ok {x : Sai} {i : Nat} {b : Bkg} {day : Int} (h : goneE x b day = 0) : goneS x i b day = setS x i (goneB x b day) := if_pos h
theorem goneS_no {x : Sai} {i : Nat} {b : Bkg} {day : Int} (h : ¬ goneE x b day = 0) : goneS x i b day = x := if_neg h
set_option maxRecDepth 100000 in
set_option maxHeartbeats 16000000 in
theorem Leave_any (w0 : World) (b0 : Nat) (x : Sai) (p : SaiV) (i g y : Nat) (b : Bkg) (day : Int) (base : Nat) (w : World) (hW : SaiW w0 b0 w base x p) (hC : p.C = some ⟨g, 0, none⟩)
    (hY : ∀ j u, (saiA x p)[j]? = some u → w.cell? ⟨y, j, none⟩ = some u) (hb : x.bks[i]? = some b) (hfe : fareE x.fares x.ship.cats.length x.ship.legs = 0) (hlv : betB x.leaves 0 9999 = true) (h16 : x.bks.length ≤ 16) (hfo : checkFolio b.fol = 0) (hd : 0 ≤ day ∧ day ≤ 9999) :
    Calls Tryz.prog 102 #[.pointer (some ⟨y, 0, none⟩), .int .i64 (i : Int), .int .i64 day] w fun e w' => e = .returned (.int .i64 (goneE x b day)) ∧ SaiW w0 b0 w' base (goneS x i b day) p ∧ Kept (fun k => k = g) w w' := by
  obtain ⟨g', A3, n3, c3, hC', hg0, hgl, hcel, hfr, hF, hI, hnb⟩ := hW.at hb
  obtain rfl : g' = g := by rw [hC'] at hC; injection hC with h; injection h
  have hsai := hW.sai
  have HPE := Lib.hid (fun X hF => Penalty_any p.D p.nd p.cd x.fares p.E p.ne p.ce x.ship.cats.length x.ship.legs (faresOf b.fol) (max 0 (x.leaves - day)) X hF)
  have HFA := Lib.hid (fun X h => Fares_any A3 n3 c3 b.fol X h (check_small hfo))
  have HCA := Lib.hid (fun X h (h1 : InI (penV x b day)) => Cancel_any A3 n3 c3 b.fol day (penV x b day) X h (.of (by omega) (by omega)) h1)
  have hfk := fare_ok hfe
  have hlb := betB_iff.1 hlv
  obtain ⟨fa, hfa⟩ : ∃ r, r = faresOf b.fol := ⟨_, rfl⟩
  obtain ⟨pv, hpv⟩ : ∃ r, r = penV x b day := ⟨_, rfl⟩
  obtain ⟨E', hE⟩ : ∃ r, r = goneE x b day := ⟨_, rfl⟩
  obtain ⟨lt, hlt⟩ : ∃ r, r = lateV x.fares (faresOf b.fol) (max 0 (x.leaves - day)) := ⟨_, rfl⟩
  obtain ⟨pe, hpe⟩ : ∃ r, r = penE x.fares x.ship.cats.length x.ship.legs (faresOf b.fol) (max 0 (x.leaves - day)) := ⟨_, rfl⟩
  obtain ⟨L, hL⟩ : ∃ r, r = cancelL b.fol day (penV x b day) := ⟨_, rfl⟩
  obtain ⟨ce', hce⟩ : ∃ r, r = checkFolio (cancelL b.fol day (penV x b day)) := ⟨_, rfl⟩
  have HE := Lib.hid (show E' = if b.state = 2 ∧ 100000000 < fa then 3 else ce' by rw [hE, hfa, hce]; rfl)
  have HP := Lib.hid (show pv = if b.state = 2 ∧ 0 < fa then lt else 0 by rw [hpv, hfa, hlt]; rfl)
  have HPB := Lib.hid (show ¬ (b.state = 2 ∧ 100000000 < fa) → 0 ≤ pv ∧ pv ≤ 100000000 from fun h => by rw [hpv]; rw [hfa] at h; exact pen_bd hfk h)
  have HPEE := Lib.hid (show 0 < fa → pe = if 100000000 < fa then 3 else 0 from fun h => by rw [hpe, hfa]; rw [hfa] at h; exact penE_ok hfe (by omega) (by omega))
  have HCE := Lib.hid (show 0 ≤ pv → pv ≤ 100000000 → cancelE b.fol day pv = ce' from fun h0 h1 => by rw [hce]; rw [hpv] at h0 h1 ⊢; exact cancelE_ok hfo h0 h1)
  have HOK := Lib.hid (show E' = 0 → goneS x i b day = setS x i { b with state := 3, til := 0, fol := L } from fun h => by rw [goneS_ok (hE.symm.trans h), hL]; rfl)
  have HNO := Lib.hid (show ¬ E' = 0 → goneS x i b day = x from fun h => goneS_no (fun h2 => h (hE.trans h2)))
  obtain ⟨GS, hGS⟩ : ∃ r, r = goneS x i b day := ⟨_, rfl⟩
  rw [← hpe, ← hlt, ← hfa] at HPE
  rw [← hfa] at HFA
  rw [← hpv] at HCA
  rw [← hpv] at hL
  rw [← hL] at HCA
  rw [← hE, ← hGS]
  rw [← hGS] at HOK HNO
  have hsub : IntKind.i64.wrap (x.leaves - day) = x.leaves - day := IntWalk.i64_in _ (by omega)
  have HW := Lib.hid hW
  have HFR := Lib.hid (fun X (hX : Below w.heap.size w X) => hsai.fares.below hX)
  have HF := Lib.hid hF
  have HCL := Lib.hid (show x.ship.cats.length = p.n from hsai.cats.len)
  have HY := Lib.hid hY
  have HCEL := Lib.hid hcel
  have HFRZ := Lib.hid hfr
  have HBX := Lib.hid hb
  have HI := Lib.hid hI
  have hi0 : (0 : Int) ≤ (i : Int) := Int.natCast_nonneg _
  have hil := (List.getElem?_eq_some_iff.1 hb).1
  have hi1 : (i : Int) < (p.nb : Int) := by omega
  have hnb16 : p.nb ≤ 16 := by omega
  have hcn : p.n ≤ 9223372036854775807 := hsai.cats.bd
  rw [HCL.out] at HPE
  clear hfa hpv hE hlt hpe hL hce hGS hfk hW hsai hF hY hcel hfr hb hI hfe hlv h16 hfo hC' hnb hil
  obtain ⟨A, n, cap, B, m, cap2, D, nd, cd, E, ne, ce, C, nb, cb⟩ := p
  obtain ⟨id, kind, state, gst, lev, cab, cat, frm, upto, til, fol⟩ := b
  simp only at hC HPE hi1 hnb16 hcn HE HP HPB HCE HOK
  subst hC
  have y11 : w.cell? ⟨y, 11, none⟩ = some (.slice (some ⟨g', 0, none⟩) nb cb) := HY.out 11 _ rfl
  have b2 : w.cell? ⟨g', i * 11 + 2, none⟩ = some (.int .i64 state) := HCEL.out 2 _ rfl
  have b10 : w.cell? ⟨g', i * 11 + 10, none⟩ = some (.slice A3 n3 c3) := HCEL.out 10 _ rfl
  have HSY := Lib.hid (show ∀ X, Below w.heap.size w X → (fun w' => w'.cell? ⟨y, 0, none⟩ = some (.int .i64 x.ship.legs) ∧ w'.cell? ⟨y, 2, none⟩ = some (.slice A n cap) ∧ w'.cell? ⟨y, 4, none⟩ = some (.slice D nd cd) ∧ w'.cell? ⟨y, 5, none⟩ = some (.int .i64 x.fares.alone) ∧ w'.cell? ⟨y, 6, none⟩ = some (.int .i64 x.fares.third) ∧ w'.cell? ⟨y, 7, none⟩ = some (.slice E ne ce) ∧ w'.cell? ⟨y, 8, none⟩ = some (.int .i64 x.fares.down) ∧ w'.cell? ⟨y, 10, none⟩ = some (.int .i64 x.leaves)) X from fun X hX => ⟨cellB hX (HY.out 0 _ rfl), cellB hX (HY.out 2 _ rfl), cellB hX (HY.out 4 _ rfl), cellB hX (HY.out 5 _ rfl), cellB hX (HY.out 6 _ rfl), cellB hX (HY.out 7 _ rfl), cellB hX (HY.out 8 _ rfl), cellB hX (HY.out 10 _ rfl)⟩)
  have HB2 := Lib.hid (show ∀ X, Below w.heap.size w X → X.cell? ⟨g', i * 11 + 2, none⟩ = some (.int .i64 state) from fun X hX => cellB hX b2)
  have HB10 := Lib.hid (show ∀ X, Below w.heap.size w X → X.cell? ⟨g', i * 11 + 10, none⟩ = some (.slice A3 n3 c3) from fun X hX => cellB hX b10)
  have hb : Below w.heap.size w w := Below.refl _ _
  go_enter Tryz.func102, Tryz.ntmps102
  go_wp2_with fail
  refine (HFA.out _ HF.out).mono ?_
  rintro e w1 ⟨rfl, hb1⟩
  replace hb := hb.trans (hb1.mono hb.size)
  clear hb1 HFA b2 b10 y11
  have b2 := HB2.out _ hb
  by_cases qA : state = 2 ∧ 100000000 < fa
  · obtain rfl : E' = 3 := by rw [HE.out, if_pos qA]
    obtain ⟨rfl, q2⟩ := qA
    have q3 : decide (0 < fa) = true := decide_eq_true (by omega)
    obtain rfl : pe = 3 := by rw [HPEE.out (by omega), if_pos q2]
    have HG := Lib.hid (HNO.out (by decide))
    go_upto_region 5 with (fail)
    replace hb := hb.drew
    go_region_held3 (fun w' => w'.cell? ⟨y, 0, none⟩ = some (.int .i64 x.ship.legs) ∧ w'.cell? ⟨y, 2, none⟩ = some (.slice A n cap) ∧ w'.cell? ⟨y, 4, none⟩ = some (.slice D nd cd) ∧ w'.cell? ⟨y, 5, none⟩ = some (.int .i64 x.fares.alone) ∧ w'.cell? ⟨y, 6, none⟩ = some (.int .i64 x.fares.third) ∧ w'.cell? ⟨y, 7, none⟩ = some (.slice E ne ce) ∧ w'.cell? ⟨y, 8, none⟩ = some (.int .i64 x.fares.down) ∧ w'.cell? ⟨y, 10, none⟩ = some (.int .i64 x.leaves)) (first | exact HSY.out _ hb | go_keep) (first | (go_at_call 142; refine (HPE.out _ (HFR.out _ hb)).mono ?_; rintro e w5 ⟨rfl, hb5⟩; replace hb := hb.trans (hb5.mono hb.size); clear hb5))
    go_wp2_with fail
    go_ret
    exact ⟨rfl, by rw [HG.out]; exact HW.out.bel hb, Kept.of_below hb (fun k hk h => by omega)⟩
  have HPB2 := Lib.hid (HPB.out qA)
  obtain rfl : E' = ce' := by rw [HE.out, if_neg qA]
  obtain ⟨W1, hW1⟩ : ∃ V, V = w1 := ⟨_, rfl⟩
  subst hW1
  obtain ⟨tv, htv⟩ : ∃ q, q = (decide (state = 2) && decide (0 < fa)) := ⟨_, rfl⟩
  have HTV := Lib.hid htv
  clear htv
  go_upto_region 4 with (fail)
  go_cut [33] (fun q wx => q = .bool tv ∧ W1 = wx)
  case first => as_aux_lemma =>
    by_cases q2 : state = 2
    · obtain rfl : tv = decide (0 < fa) := by rw [HTV.out, decide_eq_true q2]; rfl
      subst q2
      go_wp2_with fail
      go_meet
      exact ⟨rfl, rfl⟩
    · obtain rfl : tv = false := by rw [HTV.out, decide_eq_false q2]; rfl
      have q4 : (state == 2) = false := by simpa using q2
      clear q2
      go_wp2_with fail
      go_meet
      exact ⟨rfl, rfl⟩
  obtain ⟨rfl, rfl⟩ := hcut
  go_upto_if 33 with (fail)
  go_cut [8] (fun q wx => q = .int .i64 pv ∧ Below w.heap.size w wx)
  case first =>
    cases tv
    · obtain rfl : pv = 0 := by
        rw [HP.out]
        refine if_neg fun h => ?_
        have := HTV.out
        rw [decide_eq_true h.1, decide_eq_true h.2] at this
        cases this
      go_wp2_with fail
      go_meet
      exact ⟨rfl, hb⟩
    · obtain ⟨h1, h2⟩ := Bool.and_eq_true_iff.1 HTV.out.symm
      have q2 := of_decide_eq_true h1
      have q3 := of_decide_eq_true h2
      obtain rfl : pe = 0 := by rw [HPEE.out q3, if_neg (fun h => qA ⟨q2, h⟩)]
      obtain rfl : pv = lt := by rw [HP.out, if_pos ⟨q2, q3⟩]
      clear h1 h2 q2 q3 qA
      go_upto_region 5 with (fail)
      replace hb := hb.drew
      go_region_held3 (fun w' => w'.cell? ⟨y, 0, none⟩ = some (.int .i64 x.ship.legs) ∧ w'.cell? ⟨y, 2, none⟩ = some (.slice A n cap) ∧ w'.cell? ⟨y, 4, none⟩ = some (.slice D nd cd) ∧ w'.cell? ⟨y, 5, none⟩ = some (.int .i64 x.fares.alone) ∧ w'.cell? ⟨y, 6, none⟩ = some (.int .i64 x.fares.third) ∧ w'.cell? ⟨y, 7, none⟩ = some (.slice E ne ce) ∧ w'.cell? ⟨y, 8, none⟩ = some (.int .i64 x.fares.down) ∧ w'.cell? ⟨y, 10, none⟩ = some (.int .i64 x.leaves)) (first | exact HSY.out _ hb | go_keep) (first | (go_at_call 142; refine (HPE.out _ (HFR.out _ hb)).mono ?_; rintro e w5 ⟨rfl, hb5⟩; replace hb := hb.trans (hb5.mono hb.size); clear hb5))
      go_wp2_with fail
      go_meet
      exact ⟨rfl, hb⟩
  obtain ⟨rfl, hb2⟩ := hcut
  replace hb := hb2
  obtain ⟨p0, p1⟩ := HPB2.out
  have HCC := Lib.hid (HCE.out p0 p1)
  have b10 := HB10.out _ hb
  have HC := Lib.hid (HCA.out _ (HF.out.bel hb) (.of (by omega) (by omega)))
  clear hb2 b2 qA HPE hsub
  obtain ⟨W2, hW2⟩ : ∃ V, V = wc := ⟨_, rfl⟩
  subst hW2
  go_wp2_with fail
  refine HC.out.mono ?_
  rw [HCC.out]
  rintro e w3 ⟨v, xs, rfl, hO, hb3⟩
  have hsz := hb.size
  replace hb := hb.trans (hb3.mono hb.size)
  clear hb3 HC b10
  have HO := Lib.hid hO
  clear hO
  by_cases q5 : E' = 0
  rotate_left
  · have q6 : (E' != 0) = true := by simpa using q5
    have HG := Lib.hid (HNO.out q5)
    clear q5
    go_wp2_with fail
    go_ret
    exact ⟨rfl, by rw [HG.out]; exact HW.out.bel hb, Kept.of_below hb (fun k hk h => by omega)⟩
  have hO2 : Own entryC 3 57 w3 W2.heap.size v L xs := by
    have := HO.out
    rwa [q5, okL_zero] at this
  have HG := Lib.hid (HOK.out q5)
  subst q5
  obtain ⟨A5, n5, c5, rfl, _⟩ := hO2.sl entryC_good
  have f2 : w3.frozen? ⟨g', i * 11 + 2, none⟩ = false := frozenB hb hgl (HFRZ.out _)
  have f9 : w3.frozen? ⟨g', i * 11 + 9, none⟩ = false := frozenB hb hgl (HFRZ.out _)
  have f10 : w3.frozen? ⟨g', i * 11 + 10, none⟩ = false := frozenB hb hgl (HFRZ.out _)
  have c2 := HB2.out _ hb
  have c9 : w3.cell? ⟨g', i * 11 + 9, none⟩ = some (.int .i64 til) := cellB hb (HCEL.out 9 _ rfl)
  have c10 := HB10.out _ hb
  have HB := Lib.hid hb
  have HO2 := Lib.hid hO2
  clear hb hO2
  go_wp2_with fail
  go_ret
  have hW3 := HW.out.bel HB.out
  have hW4 := hW3.put rfl HBX.out (j := 2) (by omega) (u := .int .i64 3) (fun cs h => bkgO_state h (.of (by decide) (by decide)))
  have hW5 := hW4.put rfl (set_get HBX.out) (j := 9) (by omega) (u := .int .i64 0) (fun cs h => bkgO_til h (.of (by decide) (by decide)))
  have hK : Kept (fun k => k = g') w3 (((w3.setCell ⟨g', i * 11 + 2, none⟩ (.int .i64 3)).setCell ⟨g', i * 11 + 9, none⟩ (.int .i64 0)).setCell ⟨g', i * 11 + 10, none⟩ (.slice A5 n5 c5)) := kset w3 g' [(i * 11 + 2, .int .i64 3), (i * 11 + 9, .int .i64 0), (i * 11 + 10, .slice A5 n5 c5)]
  have hne : ∀ k, (Value.slice A5 n5 c5).ownBlock = some k → W2.heap.size ≤ k ∧ k ≠ g' := fun k hk => by have := HO2.out.lt k hk; exact ⟨this.1, by omega⟩
  have hW6 := hW5.put rfl (set_get (set_get HBX.out)) (j := 10) (by omega) (u := .slice A5 n5 c5) (fun cs h => bkgO_fol (f := L) h ⟨xs, (HO2.out.keepB entryC_flat2 (fun k hk => hK.block k (HO2.out.lt k hk).2 (hne k hk).2)).mono entryC_good (Nat.zero_le _), fun k hk => ⟨by have := (hne k hk).1; omega, fun e => (hne k hk).2 (by injection e)⟩⟩)
  rw [set_set, set_set] at hW6
  exact ⟨rfl, by rw [HG.out]; exact hW6, (Kept.of_below HB.out (fun k hk h => by omega)).trans hK⟩
end Go.Proofs.YtoilcdgpeilgaaaGreat
