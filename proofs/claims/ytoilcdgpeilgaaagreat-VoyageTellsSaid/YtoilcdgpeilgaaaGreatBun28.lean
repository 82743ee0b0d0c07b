/-
  Words, laws and contracts: ChgA, ChgB, ChgC, ChgF, ChgG, ChgH.
-/
import Derived.Test.YtoilcdgpeilgaaaGreatBun27
import Derived.BigQuiet
set_option linter.unusedSimpArgs false
set_option linter.unusedVariables false
namespace Go.Proofs.YtoilcdgpeilgaaaGreat
open Go.RowKit Go.Shelf
def setS (x : Sai) (i : Nat) (b : Bkg) : Sai := { x with bks := x.bks.set i b }
def penV (x : Sai) (b : Bkg) (day : Int) : Int := if b.state = 2 ∧ 0 < faresOf b.fol then lateV x.fares (faresOf b.fol) (max 0 (x.leaves - day)) else 0
def goneE (x : Sai) (b : Bkg) (day : Int) : Int := if b.state = 2 ∧ 100000000 < faresOf b.fol then 3 else checkFolio (cancelL b.fol day (penV x b day))
def goneB (x : Sai) (b : Bkg) (day : Int) : Bkg := { b with state := 3, til := 0, fol := cancelL b.fol day (penV x b day) }
def moveB (b : Bkg) (c : Int) : Bkg := { b with cab := c }
theorem frozenB {B : Nat} {W X : World} {p : Addr} (hX : Below B W X) (hp : p.block < B) (hf : W.frozen? p = false) : X.frozen? p = false := (hX.frozen hp).trans hf
theorem lateP_bd {x : Fares} {c many n d : Int} (hf : FareOk x c many) (h0 : 0 ≤ n) (h1 : n ≤ 100000000) : 0 ≤ lateV x n d ∧ lateV x n d ≤ 100000000 := by
  unfold lateV
  split
  · omega
  · obtain ⟨p, hp⟩ : ∃ p, p = (x.bands[(lateI x d).toNat]?.getD default).part := ⟨_, rfl⟩
    rw [← hp]
    have hpb : 0 ≤ p ∧ p ≤ 100 := by
      rw [hp]
      rcases h : x.bands[(lateI x d).toNat]? with _ | b
      · decide
      · have := hf.band b (List.mem_of_getElem? h)
        simpa using ⟨this.2.2.1, this.2.2.2⟩
    unfold partV
    have m0 : 0 ≤ n * p := Int.mul_nonneg h0 hpb.1
    have m1 : n * p ≤ n * 100 := Int.mul_le_mul_of_nonneg_left hpb.2 h0
    omega
theorem pen_bd {x : Sai} {b : Bkg} {d : Int} (hf : FareOk x.fares x.ship.cats.length x.ship.legs) (h : ¬ (b.state = 2 ∧ 100000000 < faresOf b.fol)) : 0 ≤ penV x b d ∧ penV x b d ≤ 100000000 := by
  unfold penV
  split
  · next hc => exact lateP_bd hf (by omega) (by have := hc.1; omega)
  · omega
theorem cancelE_ok {l : List Entry} {d p : Int} (h : checkFolio l = 0) (h0 : 0 ≤ p) (h1 : p ≤ 100000000) : cancelE l d p = checkFolio (cancelL l d p) := by
  unfold cancelE
  rw [if_neg (by simpa using h), if_neg (by omega)]
theorem penE_ok {x : Sai} {n d : Int} (hf : fareE x.fares x.ship.cats.length x.ship.legs = 0) (h0 : 0 ≤ n) (hd : 0 ≤ d) : penE x.fares x.ship.cats.length x.ship.legs n d = if 100000000 < n then 3 else 0 := by
  have hp : payE x.fares x.ship.cats.length x.ship.legs n = if 100000000 < n then 3 else 0 := by
    unfold payE
    rw [if_neg (by rw [hf]; simp)]
    by_cases h : 100000000 < n
    · rw [if_pos h, if_neg (fun hb => by have := betB_iff.1 hb; omega)]
    · rw [if_neg h, if_pos (betB_iff.2 ⟨h0, by omega⟩)]
  unfold penE
  rw [hp]
  by_cases h : 100000000 < n
  · rw [if_pos h, if_pos (by decide)]
  · rw [if_neg h, if_neg (by decide), if_neg (by omega)]
end Go.Proofs.YtoilcdgpeilgaaaGreat
namespace Go.Proofs.YtoilcdgpeilgaaaGreat
open Go.RowKit Go.Shelf
section
variable {α : Type} {c : Cod α} {size : Nat} {e : TypeId} {w : World} {base g n cap : Nat} {l : List α} {xs : List Value}
theorem Own.putG (hg : Good c) (h : Own c size e w base (.slice (some ⟨g, 0, none⟩) n cap) l xs) {i j : Nat} {x x' : α} {u : Value} (hx : l[i]? = some x) (hj : j < size)
    (hc : ∀ cs, c (w.setCell ⟨g, i * size + j, none⟩ u) (Beside base (.slice (some ⟨g, 0, none⟩) n cap)) x cs → c (w.setCell ⟨g, i * size + j, none⟩ u) (Beside base (.slice (some ⟨g, 0, none⟩) n cap)) x' (cs.set j u)) :
    Own c size e (w.setCell ⟨g, i * size + j, none⟩ u) base (.slice (some ⟨g, 0, none⟩) n cap) (l.set i x') (xs.set (i * size + j) u) := by
  have hrow := h.row
  have hn := h.len
  subst hn
  have hk : Kept (fun b => b = g) w (w.setCell ⟨g, i * size + j, none⟩ u) := (Kept.refl (fun b => b = g) w).setCell (p := ⟨g, i * size + j, none⟩) (.inl rfl) u
  have hmove : ∀ (x : α) (cs0 : List Value), c w (Beside base (.slice (some ⟨g, 0, none⟩) l.length cap)) x cs0 → c (w.setCell ⟨g, i * size + j, none⟩ u) (Beside base (.slice (some ⟨g, 0, none⟩) l.length cap)) x cs0 := fun x cs0 h0 =>
    hg.keep h0 fun b hb hlt => ⟨hk.block b hlt (fun e => by subst e; exact hb.2 rfl), hb⟩
  have hil : i < l.length := (List.getElem?_eq_some_iff.1 hx).1
  have hxl : xs.length = l.length * size := hrow.1
  have hlt : i * size + j < xs.length := by have := idx_in hil hj; omega
  refine ⟨by rw [List.length_set]; exact (hrow.stored _ u).1, fun k y hy => ?_⟩
  by_cases hki : k = i
  · subst hki
    rw [List.getElem?_set_self hil] at hy
    injection hy with hy
    subst hy
    obtain ⟨cs, hcc, hl, hcell⟩ := h.el k x hx
    refine ⟨cs.set j u, hc _ (hmove _ _ hcc), by simpa using hl, fun q v hv => ?_⟩
    by_cases hq : q = j
    · subst hq
      rw [List.getElem?_set_self (by omega)] at hv
      rw [List.getElem?_set_self hlt]
      exact hv
    · rw [List.getElem?_set_ne (by omega)] at hv
      rw [List.getElem?_set_ne (by omega)]
      exact hcell q v hv
  · rw [List.getElem?_set_ne (by omega)] at hy
    obtain ⟨cs, hcc, hl, hcell⟩ := h.el k y hy
    refine ⟨cs, hmove _ _ hcc, hl, fun q v hv => ?_⟩
    have hq : q < size := by have := (List.getElem?_eq_some_iff.1 hv).1; omega
    rw [List.getElem?_set_ne ?_]
    · exact hcell q v hv
    · intro he
      rcases Nat.lt_or_ge k i with h1 | h1
      · have := idx_lt h1 hq; omega
      · have := idx_lt (show i < k by omega) hj; omega
end
theorem bkgO_state {w : World} {S : Nat → Prop} {b : Bkg} {cs : List Value} {s : Int} (h : bkgO w S b cs) (hs : InI s) : bkgO w S { b with state := s } (cs.set 2 (.int .i64 s)) := by
  obtain ⟨v, rfl, hi, hI⟩ := h
  exact ⟨v, rfl, hi, hI.id, hI.kind, hs, hI.gst, hI.cab, hI.cat, hI.frm, hI.upto, hI.til⟩
theorem bkgO_til {w : World} {S : Nat → Prop} {b : Bkg} {cs : List Value} {s : Int} (h : bkgO w S b cs) (hs : InI s) : bkgO w S { b with til := s } (cs.set 9 (.int .i64 s)) := by
  obtain ⟨v, rfl, hi, hI⟩ := h
  exact ⟨v, rfl, hi, hI.id, hI.kind, hI.state, hI.gst, hI.cab, hI.cat, hI.frm, hI.upto, hs⟩
theorem bkgO_cab {w : World} {S : Nat → Prop} {b : Bkg} {cs : List Value} {s : Int} (h : bkgO w S b cs) (hs : InI s) : bkgO w S { b with cab := s } (cs.set 5 (.int .i64 s)) := by
  obtain ⟨v, rfl, hi, hI⟩ := h
  exact ⟨v, rfl, hi, hI.id, hI.kind, hI.state, hI.gst, hs, hI.cat, hI.frm, hI.upto, hI.til⟩
theorem bkgO_fol {w : World} {S : Nat → Prop} {b : Bkg} {cs : List Value} {v : Value} {f : List Entry} (h : bkgO w S b cs) (hv : InnO entryC 3 57 w S v f) : bkgO w S { b with fol := f } (cs.set 10 v) := by
  obtain ⟨v0, rfl, hi, hI⟩ := h
  exact ⟨v, rfl, hv, hI.id, hI.kind, hI.state, hI.gst, hI.cab, hI.cat, hI.frm, hI.upto, hI.til⟩
section
variable {w0 : World} {b0 : Nat} {w : World} {base : Nat} {x : Sai} {p : SaiV} {g i : Nat} {b : Bkg}
theorem SaiW.put {j : Nat} {b' : Bkg} {u : Value} (h : SaiW w0 b0 w base x p) (hC : p.C = some ⟨g, 0, none⟩) (hb : x.bks[i]? = some b) (hj : j < 11)
    (hc : ∀ cs, bkgO (w.setCell ⟨g, i * 11 + j, none⟩ u) (Beside w0.heap.size (.slice (some ⟨g, 0, none⟩) p.nb p.cb)) b cs → bkgO (w.setCell ⟨g, i * 11 + j, none⟩ u) (Beside w0.heap.size (.slice (some ⟨g, 0, none⟩) p.nb p.cb)) b' (cs.set j u)) :
    SaiW w0 b0 (w.setCell ⟨g, i * 11 + j, none⟩ u) base (setS x i b') p := by
  obtain ⟨a1, a2, a3, a4, a5, xs, a6⟩ := h
  rw [hC] at a6
  have hg := (a6.lt g rfl).1
  have hk : Kept (fun b => b = g) w (w.setCell ⟨g, i * 11 + j, none⟩ u) := (Kept.refl (fun b => b = g) w).setCell (p := ⟨g, i * 11 + j, none⟩) (.inl rfl) u
  refine ⟨a1, a2, Nat.le_trans a3 hk.size, fun k h1 h2 => (hk.block k (by omega) (by omega)).trans (a4 k h1 h2), ⟨a5.cats, a5.cabs, a5.leg, a5.bands, a5.a, a5.t, a5.d⟩, xs.set (i * 11 + j) u, ?_⟩
  rw [hC]
  exact a6.putG bkgO_good hb hj hc
theorem SaiW.at (h : SaiW w0 b0 w base x p) (hb : x.bks[i]? = some b) : ∃ g A3 n3 c3, p.C = some ⟨g, 0, none⟩ ∧ w0.heap.size ≤ g ∧ g < w.heap.size ∧ (∀ j u, (bkgA b (.slice A3 n3 c3)).toList[j]? = some u → w.cell? ⟨g, i * 11 + j, none⟩ = some u) ∧
    (∀ j, w.frozen? ⟨g, j, none⟩ = false) ∧ Sl entryC 3 w All A3 n3 c3 b.fol ∧ BkIn b ∧ x.bks.length = p.nb := by
  obtain ⟨a1, a2, a3, a4, a5, xs, a6⟩ := h
  obtain ⟨g, cap, hv, hg, hgl⟩ := a6.form (by have := (List.getElem?_eq_some_iff.1 hb).1; omega)
  injection hv with e1 e2 e3
  rw [e1] at a6
  obtain ⟨cs, hc, hl, hcell, hf⟩ := a6.cells hb
  obtain ⟨v, rfl, hi, hI⟩ := hc
  obtain ⟨A3, n3, c3, rfl, hs⟩ := hi.sl entryC_good entryC_flat2
  exact ⟨g, A3, n3, c3, e1, hg, hgl, hcell, hf, hs.all entryC_good (by omega), hI, e2.symm⟩
theorem SaiW.neB {y : Nat} {cs : Array Value} {t : TypeId} (h : SaiW w0 b0 w base x p) (hC : p.C = some ⟨g, 0, none⟩) (hY : Blk w y cs t) (ht : t ≠ 37) : g ≠ y := by
  obtain ⟨a1, a2, a3, a4, a5, xs, a6⟩ := h
  rw [hC] at a6
  exact fun e => a6.neTy hY ht (by rw [e]; rfl)
end
theorem set_set (x : Sai) (i : Nat) (b c : Bkg) : setS (setS x i b) i c = setS x i c := by unfold setS; rw [List.set_set]
theorem set_get {x : Sai} {i : Nat} {b c : Bkg} (h : x.bks[i]? = some c) : (setS x i b).bks[i]? = some b := List.getElem?_set_self (List.getElem?_eq_some_iff.1 h).1
end Go.Proofs.YtoilcdgpeilgaaaGreat
namespace Go.Proofs.YtoilcdgpeilgaaaGreat
open Go.RowKit Go.Shelf
def goneS (x : Sai) (i : Nat) (b : Bkg) (day : Int) : Sai := if goneE x b day = 0 then setS x i (goneB x b day) else x
theorem goneS_ok {x : Sai} {i : Nat} {b : Bkg} {day : Int} (h : goneE x b day = 0) : goneS x i b day = setS x i (goneB x b day) := if_pos h
theorem goneS_no {x : Sai} {i : Nat} {b : Bkg} {day : Int} (h : ¬ goneE x b day = 0) : goneS x i b day = x := if_neg h
set_option maxRecDepth 100000 in
set_option maxHeartbeats 16000000 in
theorem Leave_any (w0 : World) (b0 : Nat) (x : Sai) (p : SaiV) (i g y : Nat) (b : Bkg) (day : Int) (base : Nat) (w : World) (hW : SaiW w0 b0 w base x p) (hC : p.C = some ⟨g, 0, none⟩)
    (hY : ∀ j u, (saiA x p)[j]? = some u → w.cell? ⟨y, j, none⟩ = some u) (hb : x.bks[i]? = some b) (hfe : fareE x.fares x.ship.cats.length x.ship.legs = 0) (hlv : betB x.leaves 0 9999 = true) (h16 : x.bks.length ≤ 16) (hfo : checkFolio b.fol = 0) (hd : 0 ≤ day ∧ day ≤ 9999) :
    Calls Tryz.prog 102 #[.pointer (some ⟨y, 0, none⟩), .int .i64 (i : Int), .int .i64 day] w fun e w' => e = .returned (.int .i64 (goneE x b day)) ∧ SaiW w0 b0 w' base (goneS x i b day) p ∧ Kept (fun k => k = g) w w' := by
  obtain ⟨g', A3, n3, c3, hC', hg0, hgl, hcel, hfr, hF, hI, hnb⟩ := hW.at hb
  obtain rfl : g' = g := by rw [hC'] at hC; injection hC with h; injection h
  have hsai := hW.sai
  have HPE := Lib.hid (fun X hF => Penalty_any p.D p.nd p.cd x.fares p.E p.ne p.ce x.ship.cats.length x.ship.legs (faresOf b.fol) (max 0 (x.leaves - day)) X hF)
  have HFA := Lib.hid (fun X h => Fares_any A3 n3 c3 b.fol X h (check_small hfo))
  have HCA := Lib.hid (fun X h (h1 : InI (penV x b day)) => Cancel_any A3 n3 c3 b.fol day (penV x b day) X h (.of (by omega) (by omega)) h1)
  have hfk := fare_ok hfe
  have hlb := betB_iff.1 hlv
  obtain ⟨fa, hfa⟩ : ∃ r, r = faresOf b.fol := ⟨_, rfl⟩
  obtain ⟨pv, hpv⟩ : ∃ r, r = penV x b day := ⟨_, rfl⟩
  obtain ⟨E', hE⟩ : ∃ r, r = goneE x b day := ⟨_, rfl⟩
  obtain ⟨lt, hlt⟩ : ∃ r, r = lateV x.fares (faresOf b.fol) (max 0 (x.leaves - day)) := ⟨_, rfl⟩
  obtain ⟨pe, hpe⟩ : ∃ r, r = penE x.fares x.ship.cats.length x.ship.legs (faresOf b.fol) (max 0 (x.leaves - day)) := ⟨_, rfl⟩
  obtain ⟨L, hL⟩ : ∃ r, r = cancelL b.fol day (penV x b day) := ⟨_, rfl⟩
  obtain ⟨ce', hce⟩ : ∃ r, r = checkFolio (cancelL b.fol day (penV x b day)) := ⟨_, rfl⟩
  have HE := Lib.hid (show E' = if b.state = 2 ∧ 100000000 < fa then 3 else ce' by rw [hE, hfa, hce]; rfl)
  have HP := Lib.hid (show pv = if b.state = 2 ∧ 0 < fa then lt else 0 by rw [hpv, hfa, hlt]; rfl)
  have HPB := Lib.hid (show ¬ (b.state = 2 ∧ 100000000 < fa) → 0 ≤ pv ∧ pv ≤ 100000000 from fun h => by rw [hpv]; rw [hfa] at h; exact pen_bd hfk h)
  have HPEE := Lib.hid (show 0 < fa → pe = if 100000000 < fa then 3 else 0 from fun h => by rw [hpe, hfa]; rw [hfa] at h; exact penE_ok hfe (by omega) (by omega))
  have HCE := Lib.hid (show 0 ≤ pv → pv ≤ 100000000 → cancelE b.fol day pv = ce' from fun h0 h1 => by rw [hce]; rw [hpv] at h0 h1 ⊢; exact cancelE_ok hfo h0 h1)
  have HOK := Lib.hid (show E' = 0 → goneS x i b day = setS x i { b with state := 3, til := 0, fol := L } from fun h => by rw [goneS_ok (hE.symm.trans h), hL]; rfl)
  have HNO := Lib.hid (show ¬ E' = 0 → goneS x i b day = x from fun h => goneS_no (fun h2 => h (hE.trans h2)))
  obtain ⟨GS, hGS⟩ : ∃ r, r = goneS x i b day := ⟨_, rfl⟩
  rw [← hpe, ← hlt, ← hfa] at HPE
  rw [← hfa] at HFA
  rw [← hpv] at HCA
  rw [← hpv] at hL
  rw [← hL] at HCA
  rw [← hE, ← hGS]
  rw [← hGS] at HOK HNO
  have hsub : IntKind.i64.wrap (x.leaves - day) = x.leaves - day := IntWalk.i64_in _ (by omega)
  have HW := Lib.hid hW
  have HFR := Lib.hid (fun X (hX : Below w.heap.size w X) => hsai.fares.below hX)
  have HF := Lib.hid hF
  have HCL := Lib.hid (show x.ship.cats.length = p.n from hsai.cats.len)
  have HY := Lib.hid hY
  have HCEL := Lib.hid hcel
  have HFRZ := Lib.hid hfr
  have HBX := Lib.hid hb
  have HI := Lib.hid hI
  have hi0 : (0 : Int) ≤ (i : Int) := Int.natCast_nonneg _
  have hil := (List.getElem?_eq_some_iff.1 hb).1
  have hi1 : (i : Int) < (p.nb : Int) := by omega
  have hnb16 : p.nb ≤ 16 := by omega
  have hcn : p.n ≤ 9223372036854775807 := hsai.cats.bd
  rw [HCL.out] at HPE
  clear hfa hpv hE hlt hpe hL hce hGS hfk hW hsai hF hY hcel hfr hb hI hfe hlv h16 hfo hC' hnb hil
  obtain ⟨A, n, cap, B, m, cap2, D, nd, cd, E, ne, ce, C, nb, cb⟩ := p
  obtain ⟨id, kind, state, gst, lev, cab, cat, frm, upto, til, fol⟩ := b
  simp only at hC HPE hi1 hnb16 hcn HE HP HPB HCE HOK
  subst hC
  have y11 : w.cell? ⟨y, 11, none⟩ = some (.slice (some ⟨g', 0, none⟩) nb cb) := HY.out 11 _ rfl
  have b2 : w.cell? ⟨g', i * 11 + 2, none⟩ = some (.int .i64 state) := HCEL.out 2 _ rfl
  have b10 : w.cell? ⟨g', i * 11 + 10, none⟩ = some (.slice A3 n3 c3) := HCEL.out 10 _ rfl
  have HSY := Lib.hid (show ∀ X, Below w.heap.size w X → (fun w' => w'.cell? ⟨y, 0, none⟩ = some (.int .i64 x.ship.legs) ∧ w'.cell? ⟨y, 2, none⟩ = some (.slice A n cap) ∧ w'.cell? ⟨y, 4, none⟩ = some (.slice D nd cd) ∧ w'.cell? ⟨y, 5, none⟩ = some (.int .i64 x.fares.alone) ∧ w'.cell? ⟨y, 6, none⟩ = some (.int .i64 x.fares.third) ∧ w'.cell? ⟨y, 7, none⟩ = some (.slice E ne ce) ∧ w'.cell? ⟨y, 8, none⟩ = some (.int .i64 x.fares.down) ∧ w'.cell? ⟨y, 10, none⟩ = some (.int .i64 x.leaves)) X from fun X hX => ⟨cellB hX (HY.out 0 _ rfl), cellB hX (HY.out 2 _ rfl), cellB hX (HY.out 4 _ rfl), cellB hX (HY.out 5 _ rfl), cellB hX (HY.out 6 _ rfl), cellB hX (HY.out 7 _ rfl), cellB hX (HY.out 8 _ rfl), cellB hX (HY.out 10 _ rfl)⟩)
  have HB2 := Lib.hid (show ∀ X, Below w.heap.size w X → X.cell? ⟨g', i * 11 + 2, none⟩ = some (.int .i64 state) from fun X hX => cellB hX b2)
  have HB10 := Lib.hid (show ∀ X, Below w.heap.size w X → X.cell? ⟨g', i * 11 + 10, none⟩ = some (.slice A3 n3 c3) from fun X hX => cellB hX b10)
  have hb : Below w.heap.size w w := Below.refl _ _
  go_enter Tryz.func102, Tryz.ntmps102
  go_wp2_with fail
  refine (HFA.out _ HF.out).mono ?_
  rintro e w1 ⟨rfl, hb1⟩
  replace hb := hb.trans (hb1.mono hb.size)
  clear hb1 HFA b2 b10 y11
  have b2 := HB2.out _ hb
  by_cases qA : state = 2 ∧ 100000000 < fa
  · obtain rfl : E' = 3 := by rw [HE.out, if_pos qA]
    obtain ⟨rfl, q2⟩ := qA
    have q3 : decide (0 < fa) = true := decide_eq_true (by omega)
    obtain rfl : pe = 3 := by rw [HPEE.out (by omega), if_pos q2]
    have HG := Lib.hid (HNO.out (by decide))
    go_upto_region 5 with (fail)
    replace hb := hb.drew
    go_region_held3 (fun w' => w'.cell? ⟨y, 0, none⟩ = some (.int .i64 x.ship.legs) ∧ w'.cell? ⟨y, 2, none⟩ = some (.slice A n cap) ∧ w'.cell? ⟨y, 4, none⟩ = some (.slice D nd cd) ∧ w'.cell? ⟨y, 5, none⟩ = some (.int .i64 x.fares.alone) ∧ w'.cell? ⟨y, 6, none⟩ = some (.int .i64 x.fares.third) ∧ w'.cell? ⟨y, 7, none⟩ = some (.slice E ne ce) ∧ w'.cell? ⟨y, 8, none⟩ = some (.int .i64 x.fares.down) ∧ w'.cell? ⟨y, 10, none⟩ = some (.int .i64 x.leaves)) (first | exact HSY.out _ hb | go_keep) (first | (go_at_call 142; refine (HPE.out _ (HFR.out _ hb)).mono ?_; rintro e w5 ⟨rfl, hb5⟩; replace hb := hb.trans (hb5.mono hb.size); clear hb5))
    go_wp2_with fail
    go_ret
    exact ⟨rfl, by rw [HG.out]; exact HW.out.bel hb, Kept.of_below hb (fun k hk h => by omega)⟩
  have HPB2 := Lib.hid (HPB.out qA)
  obtain rfl : E' = ce' := by rw [HE.out, if_neg qA]
  obtain ⟨W1, hW1⟩ : ∃ V, V = w1 := ⟨_, rfl⟩
  subst hW1
  obtain ⟨tv, htv⟩ : ∃ q, q = (decide (state = 2) && decide (0 < fa)) := ⟨_, rfl⟩
  have HTV := Lib.hid htv
  clear htv
  go_upto_region 4 with (fail)
  go_cut [33] (fun q wx => q = .bool tv ∧ W1 = wx)
  case first => as_aux_lemma =>
    by_cases q2 : state = 2
    · obtain rfl : tv = decide (0 < fa) := by rw [HTV.out, decide_eq_true q2]; rfl
      subst q2
      go_wp2_with fail
      go_meet
      exact ⟨rfl, rfl⟩
    · obtain rfl : tv = false := by rw [HTV.out, decide_eq_false q2]; rfl
      have q4 : (state == 2) = false := by simpa using q2
      clear q2
      go_wp2_with fail
      go_meet
      exact ⟨rfl, rfl⟩
  obtain ⟨rfl, rfl⟩ := hcut
  go_upto_if 33 with (fail)
  go_cut [8] (fun q wx => q = .int .i64 pv ∧ Below w.heap.size w wx)
  case first =>
    cases tv
    · obtain rfl : pv = 0 := by
        rw [HP.out]
        refine if_neg fun h => ?_
        have := HTV.out
        rw [decide_eq_true h.1, decide_eq_true h.2] at this
        cases this
      go_wp2_with fail
      go_meet
      exact ⟨rfl, hb⟩
    · obtain ⟨h1, h2⟩ := Bool.and_eq_true_iff.1 HTV.out.symm
      have q2 := of_decide_eq_true h1
      have q3 := of_decide_eq_true h2
      obtain rfl : pe = 0 := by rw [HPEE.out q3, if_neg (fun h => qA ⟨q2, h⟩)]
      obtain rfl : pv = lt := by rw [HP.out, if_pos ⟨q2, q3⟩]
      clear h1 h2 q2 q3 qA
      go_upto_region 5 with (fail)
      replace hb := hb.drew
      go_region_held3 (fun w' => w'.cell? ⟨y, 0, none⟩ = some (.int .i64 x.ship.legs) ∧ w'.cell? ⟨y, 2, none⟩ = some (.slice A n cap) ∧ w'.cell? ⟨y, 4, none⟩ = some (.slice D nd cd) ∧ w'.cell? ⟨y, 5, none⟩ = some (.int .i64 x.fares.alone) ∧ w'.cell? ⟨y, 6, none⟩ = some (.int .i64 x.fares.third) ∧ w'.cell? ⟨y, 7, none⟩ = some (.slice E ne ce) ∧ w'.cell? ⟨y, 8, none⟩ = some (.int .i64 x.fares.down) ∧ w'.cell? ⟨y, 10, none⟩ = some (.int .i64 x.leaves)) (first | exact HSY.out _ hb | go_keep) (first | (go_at_call 142; refine (HPE.out _ (HFR.out _ hb)).mono ?_; rintro e w5 ⟨rfl, hb5⟩; replace hb := hb.trans (hb5.mono hb.size); clear hb5))
      go_wp2_with fail
      go_meet
      exact ⟨rfl, hb⟩
  obtain ⟨rfl, hb2⟩ := hcut
  replace hb := hb2
  obtain ⟨p0, p1⟩ := HPB2.out
  have HCC := Lib.hid (HCE.out p0 p1)
  have b10 := HB10.out _ hb
  have HC := Lib.hid (HCA.out _ (HF.out.bel hb) (.of (by omega) (by omega)))
  clear hb2 b2 qA HPE hsub
  obtain ⟨W2, hW2⟩ : ∃ V, V = wc := ⟨_, rfl⟩
  subst hW2
  go_wp2_with fail
  refine HC.out.mono ?_
  rw [HCC.out]
  rintro e w3 ⟨v, xs, rfl, hO, hb3⟩
  have hsz := hb.size
  replace hb := hb.trans (hb3.mono hb.size)
  clear hb3 HC b10
  have HO := Lib.hid hO
  clear hO
  by_cases q5 : E' = 0
  rotate_left
  · have q6 : (E' != 0) = true := by simpa using q5
    have HG := Lib.hid (HNO.out q5)
    clear q5
    go_wp2_with fail
    go_ret
    exact ⟨rfl, by rw [HG.out]; exact HW.out.bel hb, Kept.of_below hb (fun k hk h => by omega)⟩
  have hO2 : Own entryC 3 57 w3 W2.heap.size v L xs := by
    have := HO.out
    rwa [q5, okL_zero] at this
  have HG := Lib.hid (HOK.out q5)
  subst q5
  obtain ⟨A5, n5, c5, rfl, _⟩ := hO2.sl entryC_good
  have f2 : w3.frozen? ⟨g', i * 11 + 2, none⟩ = false := frozenB hb hgl (HFRZ.out _)
  have f9 : w3.frozen? ⟨g', i * 11 + 9, none⟩ = false := frozenB hb hgl (HFRZ.out _)
  have f10 : w3.frozen? ⟨g', i * 11 + 10, none⟩ = false := frozenB hb hgl (HFRZ.out _)
  have c2 := HB2.out _ hb
  have c9 : w3.cell? ⟨g', i * 11 + 9, none⟩ = some (.int .i64 til) := cellB hb (HCEL.out 9 _ rfl)
  have c10 := HB10.out _ hb
  have HB := Lib.hid hb
  have HO2 := Lib.hid hO2
  clear hb hO2
  go_wp2_with fail
  go_ret
  have hW3 := HW.out.bel HB.out
  have hW4 := hW3.put rfl HBX.out (j := 2) (by omega) (u := .int .i64 3) (fun cs h => bkgO_state h (.of (by decide) (by decide)))
  have hW5 := hW4.put rfl (set_get HBX.out) (j := 9) (by omega) (u := .int .i64 0) (fun cs h => bkgO_til h (.of (by decide) (by decide)))
  have hK : Kept (fun k => k = g') w3 (((w3.setCell ⟨g', i * 11 + 2, none⟩ (.int .i64 3)).setCell ⟨g', i * 11 + 9, none⟩ (.int .i64 0)).setCell ⟨g', i * 11 + 10, none⟩ (.slice A5 n5 c5)) := kset w3 g' [(i * 11 + 2, .int .i64 3), (i * 11 + 9, .int .i64 0), (i * 11 + 10, .slice A5 n5 c5)]
  have hne : ∀ k, (Value.slice A5 n5 c5).ownBlock = some k → W2.heap.size ≤ k ∧ k ≠ g' := fun k hk => by have := HO2.out.lt k hk; exact ⟨this.1, by omega⟩
  have hW6 := hW5.put rfl (set_get (set_get HBX.out)) (j := 10) (by omega) (u := .slice A5 n5 c5) (fun cs h => bkgO_fol (f := L) h ⟨xs, (HO2.out.keepB entryC_flat2 (fun k hk => hK.block k (HO2.out.lt k hk).2 (hne k hk).2)).mono entryC_good (Nat.zero_le _), fun k hk => ⟨by have := (hne k hk).1; omega, fun e => (hne k hk).2 (by injection e)⟩⟩)
  rw [set_set, set_set] at hW6
  exact ⟨rfl, by rw [HG.out]; exact hW6, (Kept.of_below HB.out (fun k hk h => by omega)).trans hK⟩
end Go.Proofs.YtoilcdgpeilgaaaGreat
namespace Go.Proofs.YtoilcdgpeilgaaaGreat
open Go.RowKit Go.Shelf
set_option maxRecDepth 100000 in
set_option maxHeartbeats 16000000 in
theorem setBooking_L (K : World → Prop) (x : Sai) (p : SaiV) (i : Nat) (b : Bkg) (A3 : Option Addr) (n3 c3 : Nat) (L : List (List Value)) (w : World) (hS : ∀ X, K X → SaiR X x p) (hP : ∀ X, K X → Pts bkgC X L x.bks) (hf : ∀ X, K X → Sl entryC 3 X All A3 n3 c3 b.fol) (hw : K w) (hLs : Sl (rawC 11) 11 w All p.C p.nb p.cb L)
    (hI : BkIn b) (hi : i < x.bks.length) (h16 : x.bks.length ≤ 16) :
    Calls Tryz.prog 111 #[.agg (saiA x p), .int .i64 (i : Int), .agg (bkgA b (.slice A3 n3 c3))] w fun e w' => ∃ q p', e = .returned (.agg (saiA (setS x i b) p')) ∧ w.heap.size ≤ q ∧ q < w'.heap.size ∧ (∀ X, K X → X.heap[q]? = w'.heap[q]? → SaiR X (setS x i b) p' ∧ Pts bkgC X (L.set i (bkgA b (.slice A3 n3 c3)).toList) (x.bks.set i b) ∧ Sl (rawC 11) 11 X All p'.C p'.nb p'.cb (L.set i (bkgA b (.slice A3 n3 c3)).toList)) ∧ p'.nb = p.nb ∧ p'.C = some ⟨q, 0, none⟩ ∧ Below w.heap.size w w' := by
  obtain ⟨A, n, cap, B, m, cap2, D, nd, cd, E, ne, ce, C, nb, cb⟩ := p
  simp only at hLs
  have hLl : L.length = nb := hLs.len
  have hbl : x.bks.length = nb := by rw [← hLl]; exact (hP w hw).len.symm
  have hnb : nb ≤ 16 := by omega
  have HS := Lib.hid hS
  clear hS
  have HF := Lib.hid hf
  clear hf
  have HI := Lib.hid hI
  clear hI
  have HLS := Lib.hid hLs
  clear hLs
  have HPP := Lib.hid hP
  clear hP
  have HLL := Lib.hid hLl
  clear hLl
  have HBL := Lib.hid hbl
  clear hbl
  have hi0 : (0 : Int) ≤ (i : Int) := Int.natCast_nonneg _
  have hi1 : (i : Int) < (nb : Int) := by have := HBL.out; omega
  clear h16
  go_enter Tryz.func111, Tryz.ntmps111
  go_upto_region 0 with (fail)
  go_cut [3, 5, 6] (fun p p2 p3 wx => ∃ g h z, p = .pointer (some ⟨g, 0, none⟩) ∧ p2 = .pointer (some ⟨h, 0, none⟩) ∧ p3 = .pointer (some ⟨z, 0, none⟩) ∧ w.heap.size ≤ g ∧ w.heap.size ≤ h ∧ w.heap.size ≤ z ∧ g ≠ h ∧ g ≠ z ∧ h ≠ z ∧ Blk wx g (saiA x ⟨A, n, cap, B, m, cap2, D, nd, cd, E, ne, ce, C, nb, cb⟩) 32 ∧ Blk wx h (bkgA b (.slice A3 n3 c3)) 37 ∧ Blk wx z #[.int .i64 0, .int .i64 0, .slice none 0 0, .slice none 0 0, .slice none 0 0, .int .i64 0, .int .i64 0, .slice none 0 0, .int .i64 0, .int .i64 0, .int .i64 0, .slice none 0 0, .bool false] 32 ∧ Below w.heap.size w wx)
  case first => as_aux_lemma =>
    go_wp2_with fail
    go_meet
    exact ⟨_, _, _, rfl, rfl, rfl, Nat.le_refl _, by omega, by omega, by omega, by omega, by omega, blk3_0 _ _ _ _, blk3_1 _ _ _ _, blk3_2 _ _ _ _, bel3 _ _ _ _⟩
  obtain ⟨g, h, z, rfl, rfl, rfl, hg, hh, hz, hgh, hgz, hhz, hG, hH, hZ, hb⟩ := hcut
  obtain ⟨W2, hW2⟩ : ∃ V, V = wc := ⟨_, rfl⟩
  subst hW2
  have hsz2 := hb.size
  have hby1 : (([] : List (List Value)).length + nb) * 104 ≤ 140737488355328 := by simp; omega
  have hLW := HLS.out.bel (hb.trans ((bel1 W2 (.cells #[] 37)).mono hsz2))
  have hgl := hG.lt
  have hhl := hH.lt
  have hzl := hZ.lt
  have HG1 := Lib.hid (hG.bel (bel1 W2 (.cells #[] 37)))
  have g11 : (W2.alloc (.cells #[] 37)).cell? ⟨g, 11, none⟩ = some (.slice C nb cb) := HG1.out.cell rfl
  have HB := Lib.hid hb
  clear hb
  have HLW := Lib.hid hLW
  clear hLW
  have HH := Lib.hid hH
  clear hH
  have HZ := Lib.hid hZ
  clear hZ
  clear hG
  go_upto_region 1 with (fail)
  go_cut [] (fun wx => ∃ q cp xs, W2.heap.size ≤ q ∧ Own (rawC 11) 11 37 wx W2.heap.size (.slice (some ⟨q, 0, none⟩) nb cp) L xs ∧ Blk wx g (saiA x ⟨A, n, cap, B, m, cap2, D, nd, cd, E, ne, ce, (some ⟨q, 0, none⟩), nb, cp⟩) 32 ∧ Kept (fun k => k = g ∨ W2.heap.size ≤ k) W2 wx)
  case first =>
    go_wp2_with (at_builtin; go_loud (refine list_app (t := 30) (e := 37) (bytes := 104) rfl (.tmp 7) (.tmp 9) rfl bok_elem (rawC_good 11) rfl (Own.made W2 (rawC 11) 11 37 W2.heap.size #[] 0 (Nat.le_refl _) (by simp [maxLen]) rfl) rfl HLW.out (fun _ _ hc => hc) hby1 (by omega) (by simp) ?_; intro v' w3 xs' hown hgr _; obtain ⟨q, cp, hv, hq, hql⟩ := hown.form (by rw [show ([] ++ L : List (List Value)).length = nb from HLL.out]; omega); rw [show ([] ++ L : List (List Value)).length = nb from HLL.out] at hv; subst hv; have hG3 := HG1.out.grown hgr (show some g ≠ some W2.heap.size from fun e => by injection e; omega); have m11 : w3.cell? ⟨g, 11, none⟩ = some (.slice C nb cb) := hG3.cell rfl; have mf : w3.frozen? ⟨g, 11, none⟩ = false := hG3.free 11; have HG3 := Lib.hid hG3; have HOW := Lib.hid hown; have HGR := Lib.hid hgr; clear hG3 hown hgr))
    go_meet
    have hb3 : Below W2.heap.size W2 w3 := below_app (bel1 W2 _) (Own.made W2 (rawC 11) 11 37 W2.heap.size #[] 0 (Nat.le_refl _) (by simp [maxLen]) rfl) HGR.out (by simp)
    have hKs : Kept (fun k => k = g) w3 (w3.setCell ⟨g, 11, none⟩ (.slice (some ⟨q, 0, none⟩) nb cp)) := (Kept.refl (fun k => k = g) _).setCell (p := ⟨g, 11, none⟩) (.inl rfl) _
    exact ⟨q, cp, xs', hq, own_setCell_flat (rawC_flat 11) HOW.out (by simp [Value.ownBlock]; omega) _, HG3.out.set (j := 11) _, (Kept.of_below hb3 (fun k hk h => .inr h)).trans (hKs.mono fun k _ hk => .inl hk)⟩
  obtain ⟨q, cp, xs, hq, hO, hG3, hK3⟩ := hcut
  obtain ⟨W3, hW3⟩ : ∃ V, V = wc := ⟨_, rfl⟩
  subst hW3
  have hH3 := HH.out.kept hK3 (by omega)
  have hZ3 := HZ.out.kept hK3 (by omega)
  have hqg : q ≠ g := by omega
  have hqz : q ≠ z := by omega
  have HG3 := Lib.hid hG3
  clear hG3
  have HH3 := Lib.hid hH3
  clear hH3
  have HZ3 := Lib.hid hZ3
  clear hZ3
  have HK3 := Lib.hid hK3
  clear hK3
  have HO := Lib.hid hO
  clear hO
  clear g11 hby1 HG1 HLW
  go_upto_region 2 with (fail)
  go_cut [] (fun wx => (∃ xs, Own (rawC 11) 11 37 wx W2.heap.size (.slice (some ⟨q, 0, none⟩) nb cp) (L.set i (bkgA b (.slice A3 n3 c3)).toList) xs) ∧ Kept (fun k => k = q) W3 wx)
  case first =>
    have hil : i < L.length := by rw [HLL.out]; omega
    obtain ⟨cs1, -, l1, hr1, ht1⟩ := HO.out.range (List.getElem?_eq_getElem hil)
    have g11 : W3.cell? ⟨g, 11, none⟩ = some (.slice (some ⟨q, 0, none⟩) nb cp) := HG3.out.cell rfl
    have HT := Lib.hid ht1
    clear l1 hr1 ht1
    go_wp2_with (first | (refine wpList_load_row rfl 37 (.tmp 5) rfl h rfl 37 _ (0, 0) _ HH3.out Tryz.underlying37 rfl (by kernel_rfl) ?_) | (refine wpList_store_mid rfl 37 (.tmp 16) (.tmp 15) rfl q (i * 11) (bkgA b (.slice A3 n3 c3)) rfl rfl HT.out (by kernel_rfl) (bkgA_one _ _ _ _) ?_))
    go_meet
    exact ⟨⟨_, HO.out.setEl (rawC_good 11) hil rfl ⟨rfl, rfl, bkgA_ones _ _ _ _⟩⟩, kept_setCells q _ _ _⟩
  obtain ⟨⟨xs2, hO2⟩, hK4⟩ := hcut
  obtain ⟨W4, hW4⟩ : ∃ V, V = wc := ⟨_, rfl⟩
  subst hW4
  have hG4 := HG3.out.kept hK4 (fun e => hqg e.symm)
  have hZ4 := HZ3.out.kept hK4 (fun e => hqz e.symm)
  have hql := (hO2.lt q rfl).2
  have hb4 : Below w.heap.size w W4 := (HB.out.trans (HK3.out.below (B := w.heap.size) HB.out.size (fun k hk e => by omega))).trans (hK4.below (B := w.heap.size) (by have := HK3.out.size; omega) (fun k hk e => by omega))
  obtain ⟨A8, n8, c8, hv8, hs8⟩ := hO2.sl (rawC_good 11)
  simp only [Value.slice.injEq] at hv8
  obtain ⟨rfl, rfl, rfl⟩ := hv8
  replace hs8 := hs8.all (rawC_good 11) (by omega)
  have HG4 := Lib.hid hG4
  clear hG4
  have HZ4 := Lib.hid hZ4
  clear hZ4
  have HS8 := Lib.hid hs8
  clear hs8
  have HB4 := Lib.hid hb4
  clear hb4
  clear hO2 hK4
  go_wp2_with (first | (refine wpList_load_row rfl 32 (.tmp 3) rfl g rfl 32 _ (0, 0) _ HG4.out Tryz.underlying32 rfl (by kernel_rfl) ?_) | (refine wpList_store_row rfl 32 (.tmp 6) (.tmp 17) rfl z (saiA x ⟨A, n, cap, B, m, cap2, D, nd, cd, E, ne, ce, (some ⟨q, 0, none⟩), nb, cp⟩) rfl rfl 32 _ HZ4.out (by kernel_rfl) rfl (by simp [Value.oneCell']) ?_))
  refine bodyPost_ret (v := .agg (saiA (setS x i b) ⟨A, n, cap, B, m, cap2, D, nd, cd, E, ne, ce, (some ⟨q, 0, none⟩), nb, cp⟩)) ((HZ4.out.row _).ret (k := 6) (by kernel_rfl) rfl Tryz.underlying32 (by kernel_rfl) (by kernel_rfl)) rfl ?_
  have hKz : Kept (fun k => k = z) W4 (W4.setRow z (saiA x ⟨A, n, cap, B, m, cap2, D, nd, cd, E, ne, ce, (some ⟨q, 0, none⟩), nb, cp⟩)) := (Kept.refl (fun k => k = z) _).setRow (.inl rfl) _
  have hbE : Below w.heap.size w (W4.setRow z (saiA x ⟨A, n, cap, B, m, cap2, D, nd, cd, E, ne, ce, (some ⟨q, 0, none⟩), nb, cp⟩)) := HB4.out.trans (hKz.below (B := w.heap.size) HB4.out.size (fun k hk e => by omega))
  refine ⟨q, ⟨A, n, cap, B, m, cap2, D, nd, cd, E, ne, ce, (some ⟨q, 0, none⟩), nb, cp⟩, rfl, Nat.le_trans hsz2 hq, Nat.lt_of_lt_of_le hql hKz.size, fun X hX hqX => ?_, rfl, rfl, hbE⟩
  have hsE : Sl (rawC 11) 11 X All (some ⟨q, 0, none⟩) nb cp (L.set i (bkgA b (.slice A3 n3 c3)).toList) := by
    refine ⟨HS8.out.len, HS8.out.le, HS8.out.max, fun k y hy => ?_⟩
    obtain ⟨b', o', cs, hA', _, hc, hl, hcell⟩ := HS8.out.rd k y hy
    simp only [Option.some.injEq, Addr.mk.injEq, and_true] at hA'
    obtain ⟨rfl, rfl⟩ := hA'
    refine ⟨q, 0, cs, rfl, trivial, hc, hl, fun j u hu => ?_⟩
    have h0 := hcell j u hu
    exact (World.cell?_of_block (hqX.trans (hKz.block q (cell_lt h0) hqz))).trans h0
  have hpE := (HPP.out X hX).set i (x := b) (cs := (bkgA b (.slice A3 n3 c3)).toList) ⟨A3, n3, c3, rfl, HF.out X hX, HI.out⟩
  exact ⟨⟨(HS.out X hX).cats, (HS.out X hX).cabs, (HS.out X hX).fares, hsE.unraw hpE⟩, hpE, hsE⟩
end Go.Proofs.YtoilcdgpeilgaaaGreat
namespace Go.Proofs.YtoilcdgpeilgaaaGreat
open Go.RowKit Go.Shelf
theorem raw_at {w : World} {A : Option Addr} {n cap k : Nat} {L : List (List Value)} (h : Sl (rawC 11) 11 w All A n cap L) (hk : k < n) : ∃ ab off cs, A = some ⟨ab, off, none⟩ ∧ L[k]? = some cs ∧ cs.length = 11 ∧ w.rangeAt ab (off + k * 11) cs := by
  have hl := h.len
  obtain ⟨b, off, cs, hA, _, hc, hlen, hcell⟩ := h.rd k (L[k]'(by omega)) (List.getElem?_eq_getElem (by omega))
  obtain ⟨rfl, h1, _⟩ := hc
  exact ⟨b, off, _, hA, List.getElem?_eq_getElem (by omega), h1, hcell⟩
theorem pts_fol {K : World → Prop} {L : List (List Value)} {l : List Bkg} {w : World} {k : Nat} {b : Bkg} {cs : List Value} (hP : ∀ X, K X → Pts bkgC X L l) (hL : L[k]? = some cs) (hb : l[k]? = some b) (hw : K w) :
    ∃ A3 n3 c3, cs = (bkgA b (.slice A3 n3 c3)).toList ∧ BkIn b ∧ ∀ X, K X → Sl entryC 3 X All A3 n3 c3 b.fol := by
  obtain ⟨A3, n3, c3, rfl, hF, hI⟩ := (hP w hw).el k _ _ hL hb
  refine ⟨A3, n3, c3, rfl, hI, fun X hX => ?_⟩
  obtain ⟨A4, n4, c4, he, hF4, _⟩ := (hP X hX).el k _ _ hL hb
  simp at he
  obtain ⟨rfl, rfl, rfl⟩ := he
  exact hF4
end Go.Proofs.YtoilcdgpeilgaaaGreat
namespace Go.Proofs.YtoilcdgpeilgaaaGreat
open Go.RowKit Go.Shelf
def GoneR (w w' : World) (x : Sai) (b : Bkg) (day : Int) (A3 : Option Addr) (n3 c3 : Nat) (e : Ending) : Prop :=
  ∃ (b' : Bkg) (A5 : Option Addr) (n5 c5 : Nat), e = .returned (.tuple #[.agg (bkgA b' (.slice A5 n5 c5)), .int .i64 (goneE x b day)]) ∧ (¬ goneE x b day = 0 → b' = b ∧ A5 = A3 ∧ n5 = n3 ∧ c5 = c3) ∧
    (goneE x b day = 0 → b' = goneB x b day ∧ ∃ xs, Own entryC 3 57 w' w.heap.size (.slice A5 n5 c5) b'.fol xs)
set_option maxRecDepth 100000 in
set_option maxHeartbeats 16000000 in
theorem goneOf_any (x : Sai) (p : SaiV) (b : Bkg) (A3 : Option Addr) (n3 c3 : Nat) (day : Int) (w : World) (hf : Sl entryC 3 w All A3 n3 c3 b.fol) (hFR : FareR w p.D p.nd p.cd x.fares p.E p.ne p.ce) (hfe : fareE x.fares x.ship.cats.length x.ship.legs = 0) (hlv : betB x.leaves 0 9999 = true) (hfo : checkFolio b.fol = 0) (hd : 0 ≤ day ∧ day ≤ 9999) :
    Calls Tryz.prog 114 #[.agg (saiA x p), .agg (bkgA b (.slice A3 n3 c3)), .int .i64 day] w fun e w' => GoneR w w' x b day A3 n3 c3 e ∧ Below w.heap.size w w' := by
  have hfk := fare_ok hfe
  have hlb := betB_iff.1 hlv
  have HSO := Lib.hid (fun q V h => SumOf_any A3 n3 c3 b.fol q V h (check_small hfo))
  have HPO := Lib.hid (fun d V hF h0 h1 => PenaltyOf_any p.D p.nd p.cd x.fares p.E p.ne p.ce (faresOf b.fol) d V hF h0 h1 (fun b hb => (hfk.band b hb).2.2))
  have HCO := Lib.hid (fun V h h0 h1 h2 => CancelOf_any A3 n3 c3 b.fol day (penV x b day) V h (.of (by omega) (by omega)) h0 hfo h1 h2)
  obtain ⟨E', hE⟩ : ∃ r, r = goneE x b day := ⟨_, rfl⟩
  have HGR := Lib.hid (show ∀ w' e, (∃ (b' : Bkg) (A5 : Option Addr) (n5 c5 : Nat), e = .returned (.tuple #[.agg (bkgA b' (.slice A5 n5 c5)), .int .i64 E']) ∧ (¬ E' = 0 → b' = b ∧ A5 = A3 ∧ n5 = n3 ∧ c5 = c3) ∧
    (E' = 0 → b' = goneB x b day ∧ ∃ xs, Own entryC 3 57 w' w.heap.size (.slice A5 n5 c5) b'.fol xs)) → GoneR w w' x b day A3 n3 c3 e from fun w' e h => by unfold GoneR; rw [← hE]; exact h)
  obtain ⟨fa, hfa⟩ : ∃ r, r = faresOf b.fol := ⟨_, rfl⟩
  obtain ⟨sk, hsk⟩ : ∃ r, r = sumOfK b.fol := ⟨_, rfl⟩
  obtain ⟨pv, hpv⟩ : ∃ r, r = penV x b day := ⟨_, rfl⟩
  obtain ⟨lt, hlt⟩ : ∃ r, r = lateV x.fares (faresOf b.fol) (max 0 (x.leaves - day)) := ⟨_, rfl⟩
  obtain ⟨L, hL⟩ : ∃ r, r = cancelL b.fol day (penV x b day) := ⟨_, rfl⟩
  obtain ⟨ce', hce⟩ : ∃ r, r = checkFolio (cancelL b.fol day (penV x b day)) := ⟨_, rfl⟩
  have HE := Lib.hid (show E' = if b.state = 2 ∧ 100000000 < fa then 3 else ce' by rw [hE, hfa, hce]; rfl)
  have HP := Lib.hid (show pv = if b.state = 2 ∧ 0 < fa then lt else 0 by rw [hpv, hfa, hlt]; rfl)
  have HPB := Lib.hid (show ¬ (b.state = 2 ∧ 100000000 < fa) → 0 ≤ pv ∧ pv ≤ 100000000 from fun h => by rw [hpv]; rw [hfa] at h; exact pen_bd hfk h)
  have HGB := Lib.hid (show goneB x b day = { b with state := 3, til := 0, fol := L } by rw [hL]; rfl)
  have HSUM := Lib.hid (show sk 1 + sk 4 = fa by rw [hsk, hfa]; exact faresOf_kinds b.fol)
  have b1 := check_sum hfo (kindB 1)
  have b4 := check_sum hfo (kindB 4)
  rw [show sumBy (kindB 1) b.fol = sk 1 by rw [hsk]; rfl] at b1
  rw [show sumBy (kindB 4) b.fol = sk 4 by rw [hsk]; rfl] at b4
  rw [← hsk] at HSO
  rw [← hfa] at HPO
  rw [← hce, ← hL, ← hpv] at HCO
  have HLT := Lib.hid (show lt = lateV x.fares fa (max 0 (x.leaves - day)) by rw [hlt, hfa])
  have hsub : IntKind.i64.wrap (x.leaves - day) = x.leaves - day := IntWalk.i64_in _ (by omega)
  have hadd : IntKind.i64.wrap (sk 1 + sk 4) = sk 1 + sk 4 := IntWalk.i64_in _ (by omega)
  have HF := Lib.hid hf
  have HFR := Lib.hid hFR
  clear hE hfa hsk hpv hlt hL hce hfk hf hFR hfe hlv hfo
  obtain ⟨A, n, cap, B, m, cap2, D, nd, cd, E, ne, ce, C, nb, cb⟩ := p
  obtain ⟨id, kind, state, gst, lev, cab, cat, frm, upto, til, fol⟩ := b
  simp only at HPO HE HP HPB HGB HCO
  go_enter Tryz.func114, Tryz.ntmps114
  go_upto_region 0 with (fail)
  go_cut [3, 4, 6, 7] (fun p p2 p3 p4 wx => ∃ g h z, p = .pointer (some ⟨g, 0, none⟩) ∧ p2 = .pointer (some ⟨h, 0, none⟩) ∧ p3 = .pointer (some ⟨z, 0, none⟩) ∧ p4 = .int .i64 0 ∧ w.heap.size ≤ g ∧ w.heap.size ≤ h ∧ w.heap.size ≤ z ∧ g ≠ h ∧ h ≠ z ∧ Blk wx g (saiA x ⟨A, n, cap, B, m, cap2, D, nd, cd, E, ne, ce, C, nb, cb⟩) 32 ∧ Blk wx h (bkgA ⟨id, kind, state, gst, lev, cab, cat, frm, upto, til, fol⟩ (.slice A3 n3 c3)) 37 ∧ Blk wx z #[.int .i64 0, .int .i64 0, .int .i64 0, .int .i64 0, .bool false, .int .i64 0, .int .i64 0, .int .i64 0, .int .i64 0, .int .i64 0, .slice none 0 0] 37 ∧ Below w.heap.size w wx)
  case first => as_aux_lemma =>
    go_wp2_with fail
    go_meet
    exact ⟨_, _, _, rfl, rfl, rfl, rfl, Nat.le_refl _, by omega, by omega, by omega, by omega, blk3_0 _ _ _ _, blk3_1 _ _ _ _, blk3_2 _ _ _ _, bel3 _ _ _ _⟩
  obtain ⟨g, h, z, rfl, rfl, rfl, rfl, hg, hh, hz, hgh, hhz, hG, hH, hZ, hb0⟩ := hcut
  obtain ⟨W1, hW1⟩ : ∃ V, V = wc := ⟨_, rfl⟩
  subst hW1
  have HT := Lib.hid (fun X (hX : Below W1.heap.size W1 X) => hb0.trans (hX.mono hb0.size))
  have HG := Lib.hid (fun X (hX : Below W1.heap.size W1 X) => hG.bel hX)
  have HH := Lib.hid (fun X (hX : Below W1.heap.size W1 X) => hH.bel hX)
  have HZ := Lib.hid (fun X (hX : Below W1.heap.size W1 X) => hZ.bel hX)
  have HFX := Lib.hid (fun X (hX : Below W1.heap.size W1 X) => HF.out.bel (HT.out X hX))
  have hhl := hH.lt
  have hzl := hZ.lt
  have HEND := Lib.hid (show ∀ (V : World), ¬ E' = 0 → Below W1.heap.size W1 V → GoneR w (V.setRow z (bkgA ⟨id, kind, state, gst, lev, cab, cat, frm, upto, til, fol⟩ (.slice A3 n3 c3))) x ⟨id, kind, state, gst, lev, cab, cat, frm, upto, til, fol⟩ day A3 n3 c3 (.returned (.tuple #[.agg (bkgA ⟨id, kind, state, gst, lev, cab, cat, frm, upto, til, fol⟩ (.slice A3 n3 c3)), .int .i64 E'])) ∧ Below w.heap.size w (V.setRow z (bkgA ⟨id, kind, state, gst, lev, cab, cat, frm, upto, til, fol⟩ (.slice A3 n3 c3))) from fun V h0 hX =>
    ⟨HGR.out _ _ ⟨⟨id, kind, state, gst, lev, cab, cat, frm, upto, til, fol⟩, A3, n3, c3, rfl, fun _ => ⟨rfl, rfl, rfl, rfl⟩, fun h => absurd h h0⟩, (HT.out V hX).trans (((Kept.refl (fun k => k = z) V).setRow (.inl rfl) _).below (B := w.heap.size) (HT.out V hX).size (fun k hk e => by omega))⟩)
  have hb : Below W1.heap.size W1 W1 := Below.refl _ _
  have hszW := hb0.size
  clear hG hH hZ hb0
  have HC10 := Lib.hid (show ∀ V, Below W1.heap.size W1 V → V.cell? ⟨h, 10, none⟩ = some (.slice A3 n3 c3) from fun V hX => (HH.out V hX).cell rfl)
  go_upto_region 1 with (fail)
  go_cut [8] (fun q wx => q = .int .i64 fa ∧ Below W1.heap.size W1 wx)
  case first =>
    replace hb := hb.drew
    go_region_held3 (fun w' => w'.cell? ⟨h, 10, none⟩ = some (.slice A3 n3 c3)) (first | exact HC10.out _ hb | go_keep) (first | (go_at_call 112; refine (HSO.out _ _ (HFX.out _ hb)).mono ?_; rintro e w5 ⟨rfl, rfl⟩))
    all_goals go_wp2_with fail
    all_goals go_meet
    all_goals exact ⟨by rw [HSUM.out], hb⟩
  obtain ⟨rfl, hb1⟩ := hcut
  replace hb := hb1
  obtain ⟨W2, hW2⟩ : ∃ V, V = wc := ⟨_, rfl⟩
  subst hW2
  clear hb1 hadd HSO HSUM b1 b4
  have c2 : W2.cell? ⟨h, 2, none⟩ = some (.int .i64 state) := (HH.out _ hb).cell rfl
  by_cases qA : state = 2 ∧ 100000000 < fa
  · obtain rfl : E' = 3 := by rw [HE.out, if_pos qA]
    obtain ⟨rfl, q2⟩ := qA
    have q3 : decide (0 < fa) = true := decide_eq_true (by omega)
    have q4 : decide (100000000 < fa) = true := decide_eq_true q2
    have hz6 := HZ.out _ hb
    clear q2
    go_wp2_with (first | (refine wpList_load_row rfl 37 (.tmp 4) rfl h rfl 37 _ (0, 0) _ (HH.out _ hb) Tryz.underlying37 rfl (by kernel_rfl) ?_) | (refine wpList_store_row rfl 37 (.tmp 6) (.tmp 29) rfl z (bkgA ⟨id, kind, 2, gst, lev, cab, cat, frm, upto, til, fol⟩ (.slice A3 n3 c3)) rfl rfl 37 _ hz6 (by kernel_rfl) rfl (bkgA_one _ _ _ _) ?_))
    refine bodyPost_ret (v := .tuple #[.agg (bkgA ⟨id, kind, 2, gst, lev, cab, cat, frm, upto, til, fol⟩ (.slice A3 n3 c3)), .int .i64 3]) ((hz6.row _).ret2 (k := 6) (u := 7) (by kernel_rfl) rfl rfl Tryz.underlying37 (by kernel_rfl) (by kernel_rfl)) rfl ?_
    exact HEND.out _ (by decide) hb
  have HPB2 := Lib.hid (HPB.out qA)
  obtain rfl : E' = ce' := by rw [HE.out, if_neg qA]
  obtain ⟨tv, htv⟩ : ∃ q, q = (decide (state = 2) && decide (0 < fa)) := ⟨_, rfl⟩
  have HTV := Lib.hid htv
  clear htv
  go_upto_region 3 with (fail)
  go_cut [26] (fun q wx => q = .bool tv ∧ W2 = wx)
  case first => as_aux_lemma =>
    by_cases q2 : state = 2
    · obtain rfl : tv = decide (0 < fa) := by rw [HTV.out, decide_eq_true q2]; rfl
      subst q2
      go_wp2_with fail
      go_meet
      exact ⟨rfl, rfl⟩
    · obtain rfl : tv = false := by rw [HTV.out, decide_eq_false q2]; rfl
      have q4 : (state == 2) = false := by simpa using q2
      clear q2
      go_wp2_with fail
      go_meet
      exact ⟨rfl, rfl⟩
  obtain ⟨rfl, rfl⟩ := hcut
  go_upto_if 26 with (fail)
  go_cut [9] (fun q wx => q = .int .i64 pv ∧ Below W1.heap.size W1 wx)
  case first =>
    cases tv
    · obtain rfl : pv = 0 := by
        rw [HP.out]
        refine if_neg fun h => ?_
        have := HTV.out
        rw [decide_eq_true h.1, decide_eq_true h.2] at this
        cases this
      go_wp2_with fail
      go_meet
      exact ⟨rfl, hb⟩
    · obtain ⟨h1, h2⟩ := Bool.and_eq_true_iff.1 HTV.out.symm
      have q2 := of_decide_eq_true h1
      have q3 := of_decide_eq_true h2
      have q5 : ¬ 100000000 < fa := fun h => qA ⟨q2, h⟩
      have q4 : decide (100000000 < fa) = false := decide_eq_false q5
      obtain rfl : pv = lt := by rw [HP.out, if_pos ⟨q2, q3⟩]
      have g4 : W2.cell? ⟨g, 4, none⟩ = some (.slice D nd cd) := (HG.out _ hb).cell rfl
      have g5 : W2.cell? ⟨g, 5, none⟩ = some (.int .i64 x.fares.alone) := (HG.out _ hb).cell rfl
      have g6 : W2.cell? ⟨g, 6, none⟩ = some (.int .i64 x.fares.third) := (HG.out _ hb).cell rfl
      have g7 : W2.cell? ⟨g, 7, none⟩ = some (.slice E ne ce) := (HG.out _ hb).cell rfl
      have g8 : W2.cell? ⟨g, 8, none⟩ = some (.int .i64 x.fares.down) := (HG.out _ hb).cell rfl
      have g10 : W2.cell? ⟨g, 10, none⟩ = some (.int .i64 x.leaves) := (HG.out _ hb).cell rfl
      have HC := Lib.hid (fun d => HPO.out d W2 (HFR.out.below (HT.out _ hb)) (by omega) (by omega))
      clear h1 h2 q2 q3 qA q5 HPO c2
      by_cases q6 : x.leaves - day < 0
      · have HL2 := Lib.hid (show lateV x.fares fa 0 = pv by rw [HLT.out]; congr 1; omega)
        have q7 : decide (x.leaves - day < 0) = true := decide_eq_true q6
        clear q6
        go_wp2_with fail
        refine (HC.out _).mono ?_
        rintro e w3 ⟨rfl, hb3⟩
        rw [HL2.out]
        replace hb := hb.trans (hb3.mono hb.size)
        clear hb3 HC
        go_wp2_with fail
        go_meet
        exact ⟨rfl, hb⟩
      · have HL2 := Lib.hid (show lateV x.fares fa (x.leaves - day) = pv by rw [HLT.out]; congr 1; omega)
        have q7 : decide (x.leaves - day < 0) = false := decide_eq_false q6
        clear q6
        go_wp2_with fail
        refine (HC.out _).mono ?_
        rintro e w3 ⟨rfl, hb3⟩
        rw [HL2.out]
        replace hb := hb.trans (hb3.mono hb.size)
        clear hb3 HC
        go_wp2_with fail
        go_meet
        exact ⟨rfl, hb⟩
  obtain ⟨rfl, hb2⟩ := hcut
  replace hb := hb2
  obtain ⟨p0, p1⟩ := HPB2.out
  obtain ⟨W3, hW3⟩ : ∃ V, V = wc := ⟨_, rfl⟩
  subst hW3
  have HC := Lib.hid (HCO.out _ (HFX.out _ hb) (.of (by omega) (by omega)) p0 p1)
  have c10 := HC10.out _ hb
  clear hb2 c2 qA HPO hsub HCO
  go_wp2_with fail
  refine HC.out.mono ?_
  rintro e w3 ⟨v, xs, rfl, hO, hb3⟩
  have hsz := hb.size
  replace hb := hb.trans (hb3.mono hb.size)
  clear hb3 HC c10
  have HO := Lib.hid hO
  clear hO
  have hz6 := HZ.out _ hb
  by_cases q5 : E' = 0
  rotate_left
  · have q6 : (E' != 0) = true := by simpa using q5
    have Q5 := Lib.hid q5
    clear q5
    go_wp2_with (first | (refine wpList_load_row rfl 37 (.tmp 4) rfl h rfl 37 _ (0, 0) _ (HH.out _ hb) Tryz.underlying37 rfl (by kernel_rfl) ?_) | (refine wpList_store_row rfl 37 (.tmp 6) (.tmp 51) rfl z (bkgA ⟨id, kind, state, gst, lev, cab, cat, frm, upto, til, fol⟩ (.slice A3 n3 c3)) rfl rfl 37 _ hz6 (by kernel_rfl) rfl (bkgA_one _ _ _ _) ?_))
    refine bodyPost_ret (v := .tuple #[.agg (bkgA ⟨id, kind, state, gst, lev, cab, cat, frm, upto, til, fol⟩ (.slice A3 n3 c3)), .int .i64 E']) ((hz6.row _).ret2 (k := 6) (u := 7) (by kernel_rfl) rfl rfl Tryz.underlying37 (by kernel_rfl) (by kernel_rfl)) rfl ?_
    exact HEND.out _ Q5.out hb
  have hO2 : Own entryC 3 57 w3 W3.heap.size v L xs := by
    have := HO.out
    rwa [q5, okL_zero] at this
  subst q5
  obtain ⟨A5, n5, c5, rfl, _⟩ := hO2.sl entryC_good
  have hH3 := HH.out _ hb
  have f2 := hH3.free 2
  have f9 := hH3.free 9
  have f10 := hH3.free 10
  have c2 : w3.cell? ⟨h, 2, none⟩ = some (.int .i64 state) := hH3.cell rfl
  have c9 : w3.cell? ⟨h, 9, none⟩ = some (.int .i64 til) := hH3.cell rfl
  have c10 := HC10.out _ hb
  have HB := Lib.hid hb
  clear hb
  have HO2 := Lib.hid hO2
  clear hO2
  have HH3 := Lib.hid hH3
  clear hH3
  go_upto_region 13 with (fail)
  go_cut [] (fun wx => Blk wx h (bkgA ⟨id, kind, 3, gst, lev, cab, cat, frm, upto, 0, L⟩ (.slice A5 n5 c5)) 37 ∧ Kept (fun k => k = h) w3 wx)
  case first => as_aux_lemma =>
    go_wp2_with fail
    go_meet
    exact ⟨((HH3.out.set (j := 10) _).set (j := 2) _).set (j := 9) _, kset w3 h [(10, .slice A5 n5 c5), (2, .int .i64 3), (9, .int .i64 0)]⟩
  obtain ⟨hH4, hK4⟩ := hcut
  obtain ⟨W4, hW4⟩ : ∃ V, V = wc := ⟨_, rfl⟩
  subst hW4
  have hz4 := hz6.kept hK4 (fun e => hhz e.symm)
  have HH4 := Lib.hid hH4
  have HK4 := Lib.hid hK4
  clear hK4
  clear hH4 f2 f9 f10 c2 c9 c10
  go_wp2_with (first | (refine wpList_load_row rfl 37 (.tmp 4) rfl h rfl 37 _ (0, 0) _ HH4.out Tryz.underlying37 rfl (by kernel_rfl) ?_) | (refine wpList_store_row rfl 37 (.tmp 6) (.tmp 57) rfl z (bkgA ⟨id, kind, 3, gst, lev, cab, cat, frm, upto, 0, L⟩ (.slice A5 n5 c5)) rfl rfl 37 _ hz4 (by kernel_rfl) rfl (bkgA_one _ _ _ _) ?_))
  refine bodyPost_ret (v := .tuple #[.agg (bkgA ⟨id, kind, 3, gst, lev, cab, cat, frm, upto, 0, L⟩ (.slice A5 n5 c5)), .int .i64 0]) ((hz4.row _).ret2 (k := 6) (u := 7) (by kernel_rfl) rfl rfl Tryz.underlying37 (by kernel_rfl) (by kernel_rfl)) rfl ?_
  have hKz : Kept (fun k => k = h ∨ k = z) w3 (W4.setRow z (bkgA ⟨id, kind, 3, gst, lev, cab, cat, frm, upto, 0, L⟩ (.slice A5 n5 c5))) := (HK4.out.mono fun k _ hk => .inl hk).setRow (.inl (.inr rfl)) _
  have hszT := (HT.out _ HB.out).size
  have hne : ∀ k, (Value.slice A5 n5 c5).ownBlock = some k → k < w3.heap.size ∧ ¬ (k = h ∨ k = z) := fun k hk => by have := HO2.out.lt k hk; exact ⟨this.2, by omega⟩
  refine ⟨HGR.out _ _ ⟨_, A5, n5, c5, rfl, fun h => (h (by first | rfl | trivial)).elim, fun _ => ⟨HGB.out.symm, xs, ?_⟩⟩, (HT.out _ HB.out).trans (hKz.below (B := w.heap.size) hszT (fun k hk e => by omega))⟩
  exact (HO2.out.keepB entryC_flat2 (fun k hk => hKz.block k (hne k hk).1 (hne k hk).2)).mono entryC_good (by omega)
end Go.Proofs.YtoilcdgpeilgaaaGreat
