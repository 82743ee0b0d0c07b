/-
  Words, laws and contracts: ChgA, ChgB, ChgC.
-/
import Derived.Test.YtoilcdgpeilgaaaGreatBun30
import Derived.BigQuiet
set_option linter.unusedSimpArgs false
set_option linter.unusedVariables false
namespace Go.Proofs.YtoilcdgpeilgaaaGreat
open Go.RowKit Go.Shelf
def setS (x : Sai) (i : Nat) (b : Bkg) : Sai := { x with bks := x.bks.set i b }
def curB (x : Sai) (t : Int) : Bkg := x.bks.getD (posI x.bks t) default
def isLive (x : Sai) (t : Int) : Bool := hasId x.bks t && liveB (curB x t)
def sureE (b : Bkg) : Int := if b.state = 1 then 0 else 4
def sureB (b : Bkg) : Bkg := { b with state := 2, til := 0 }
def paidB (x : Sai) (b : Bkg) (a : Int) : Bkg := { b with fol := b.fol ++ [⟨x.day, 2, -a⟩] }
def paidE (x : Sai) (b : Bkg) (a : Int) : Int := if betB a 1 100000000 = false then 3 else if dueOf b.fol < a then 4 else checkFolio (paidB x b a).fol
def penV (x : Sai) (b : Bkg) (day : Int) : Int := if b.state = 2 ∧ 0 < faresOf b.fol then lateV x.fares (faresOf b.fol) (max 0 (x.leaves - day)) else 0
def goneE (x : Sai) (b : Bkg) (day : Int) : Int := if b.state = 2 ∧ 100000000 < faresOf b.fol then 3 else checkFolio (cancelL b.fol day (penV x b day))
def goneB (x : Sai) (b : Bkg) (day : Int) : Bkg := { b with state := 3, til := 0, fol := cancelL b.fol day (penV x b day) }
def moveB (b : Bkg) (c : Int) : Bkg := { b with cab := c }
noncomputable def moveE (x : Sai) (i : Nat) (b : Bkg) (c : Int) : Int :=
  if b.cab < 0 then 4 else if c < 0 ∨ (x.ship.cabs.length : Int) ≤ c then 3 else if c = b.cab then 6 else if ofE x.ship (moveB b c) ≠ 0 then ofE x.ship (moveB b c) else roomE (setS x i (moveB b c))
def chE1 (x : Sai) (t E : Int) : Int := if isLive x t = true then E else 5
noncomputable def chE (x : Sai) (t E : Int) : Int := if saiE x ≠ 0 then saiE x else chE1 x t E
theorem chE_ok {x : Sai} {t E : Int} (h : saiE x = 0) : chE x t E = chE1 x t E := by unfold chE; rw [if_neg (by simpa using h)]
noncomputable def sureEx (x : Sai) (t : Int) : Int := chE x t (sureE (curB x t))
def sureX (x : Sai) (t : Int) : Sai := setS x (posI x.bks t) (sureB (curB x t))
noncomputable def paidEx (x : Sai) (t a : Int) : Int := chE x t (paidE x (curB x t) a)
def paidX (x : Sai) (t a : Int) : Sai := setS x (posI x.bks t) (paidB x (curB x t) a)
noncomputable def goneEx (x : Sai) (t : Int) : Int := chE x t (goneE x (curB x t) x.day)
def goneX (x : Sai) (t : Int) : Sai := setS x (posI x.bks t) (goneB x (curB x t) x.day)
noncomputable def moveEx (x : Sai) (t c : Int) : Int := chE x t (moveE x (posI x.bks t) (curB x t) c)
def moveX (x : Sai) (t c : Int) : Sai := setS x (posI x.bks t) (moveB (curB x t) c)
theorem cellK {S : Nat → Prop} {W X : World} {p : Addr} {v : Value} (hK : Kept S W X) (hS : ¬ S p.block) (hc : W.cell? p = some v) : X.cell? p = some v := (World.cell?_of_block (hK.block _ (World.block_lt_of_cell? W p hc) hS)).trans hc
theorem frozenB {B : Nat} {W X : World} {p : Addr} (hX : Below B W X) (hp : p.block < B) (hf : W.frozen? p = false) : X.frozen? p = false := (hX.frozen hp).trans hf
theorem idxF_has {l : List Bkg} {t : Int} (hr : Rise l) (h : hasId l t = true) : ∃ b, l[posI l t]? = some b ∧ b.id = t ∧ posI l t < l.length ∧ atI l t = (posI l t : Int) := by
  unfold hasId at h
  obtain ⟨b, hb, he⟩ := List.any_eq_true.1 h
  have he := of_decide_eq_true he
  obtain ⟨i, hi⟩ := List.getElem?_of_mem hb
  have hil := (List.getElem?_eq_some_iff.1 hi).1
  have hlo : LowTo l t i := fun q c hq hc => by have := hr q i c b hq hc hi; omega
  have hhi : HighFrom l t i := fun q c hq hc => by
    rcases Nat.lt_or_ge i q with h1 | h1
    · have := hr i q b c h1 hi hc; omega
    · obtain rfl : q = i := by omega
      rw [hi] at hc; injection hc with hc; subst hc; omega
  have hp := pos_of (by omega) hlo hhi
  rw [hp]
  refine ⟨b, hi, he, hil, ?_⟩
  refine idxF_at (x := b) ?_ hi (decide_eq_true he)
  refine List.any_eq_false.2 fun c hc => ?_
  obtain ⟨q, hq⟩ := List.getElem?_of_mem hc
  have hql := (List.getElem?_eq_some_iff.1 hq).1
  rw [List.length_take] at hql
  rw [List.getElem?_take, if_pos (by omega)] at hq
  have := hlo q c (by omega) hq
  simp; omega
theorem atI_no {l : List Bkg} {t : Int} (h : hasId l t = false) : atI l t = -1 := idxF_none h
theorem live_at {x : Sai} {t : Int} (hr : Rise x.bks) (h : isLive x t = true) : ∃ b, x.bks[posI x.bks t]? = some b ∧ b.id = t ∧ posI x.bks t < x.bks.length ∧ atI x.bks t = (posI x.bks t : Int) ∧ b.state ≠ 3 ∧ curB x t = b := by
  unfold isLive at h
  obtain ⟨h1, h2⟩ := Bool.and_eq_true_iff.1 h
  obtain ⟨b, g1, g2, g3, g4⟩ := idxF_has hr h1
  have e : curB x t = b := by unfold curB; rw [List.getD_eq_getElem?_getD, g1]; rfl
  refine ⟨b, g1, g2, g3, g4, ?_, e⟩
  rw [e] at h2
  unfold liveB at h2
  simpa using h2
theorem rise_set {l : List Bkg} {i : Nat} {b b' : Bkg} (hr : Rise l) (hb : l[i]? = some b) (he : b'.id = b.id) : Rise (l.set i b') := by
  have hil := (List.getElem?_eq_some_iff.1 hb).1
  have key : ∀ (k : Nat) (c : Bkg), (l.set i b')[k]? = some c → ∃ c0, l[k]? = some c0 ∧ c.id = c0.id := fun k c hc => by
    by_cases hk : k = i
    · subst hk
      rw [List.getElem?_set_self hil] at hc
      injection hc with hc
      subst hc
      exact ⟨b, hb, he⟩
    · rw [List.getElem?_set_ne (fun e => hk e.symm)] at hc
      exact ⟨c, hc, rfl⟩
  intro p q c d hpq hc hd
  obtain ⟨c0, h1, e1⟩ := key p c hc
  obtain ⟨d0, h2, e2⟩ := key q d hd
  have := hr p q c0 d0 hpq h1 h2
  omega
theorem lateP_bd {x : Fares} {c many n d : Int} (hf : FareOk x c many) (h0 : 0 ≤ n) (h1 : n ≤ 100000000) : 0 ≤ lateV x n d ∧ lateV x n d ≤ 100000000 := by
  unfold lateV
  split
  · omega
  · obtain ⟨p, hp⟩ : ∃ p, p = (x.bands[(lateI x d).toNat]?.getD default).part := ⟨_, rfl⟩
    rw [← hp]
    have hpb : 0 ≤ p ∧ p ≤ 100 := by
      rw [hp]
      rcases h : x.bands[(lateI x d).toNat]? with _ | b
      · decide
      · have := hf.band b (List.mem_of_getElem? h)
        simpa using ⟨this.2.2.1, this.2.2.2⟩
    unfold partV
    have m0 : 0 ≤ n * p := Int.mul_nonneg h0 hpb.1
    have m1 : n * p ≤ n * 100 := Int.mul_le_mul_of_nonneg_left hpb.2 h0
    omega
theorem pen_bd {x : Sai} {b : Bkg} {d : Int} (hf : FareOk x.fares x.ship.cats.length x.ship.legs) (h : ¬ (b.state = 2 ∧ 100000000 < faresOf b.fol)) : 0 ≤ penV x b d ∧ penV x b d ≤ 100000000 := by
  unfold penV
  split
  · next hc => exact lateP_bd hf (by omega) (by have := hc.1; omega)
  · omega
theorem cancelE_ok {l : List Entry} {d p : Int} (h : checkFolio l = 0) (h0 : 0 ≤ p) (h1 : p ≤ 100000000) : cancelE l d p = checkFolio (cancelL l d p) := by
  unfold cancelE
  rw [if_neg (by simpa using h), if_neg (by omega)]
theorem penE_ok {x : Sai} {n d : Int} (hf : fareE x.fares x.ship.cats.length x.ship.legs = 0) (h0 : 0 ≤ n) (hd : 0 ≤ d) : penE x.fares x.ship.cats.length x.ship.legs n d = if 100000000 < n then 3 else 0 := by
  have hp : payE x.fares x.ship.cats.length x.ship.legs n = if 100000000 < n then 3 else 0 := by
    unfold payE
    rw [if_neg (by rw [hf]; simp)]
    by_cases h : 100000000 < n
    · rw [if_pos h, if_neg (fun hb => by have := betB_iff.1 hb; omega)]
    · rw [if_neg h, if_pos (betB_iff.2 ⟨h0, by omega⟩)]
  unfold penE
  rw [hp]
  by_cases h : 100000000 < n
  · rw [if_pos h, if_pos (by decide)]
  · rw [if_neg h, if_neg (by decide), if_neg (by omega)]
end Go.Proofs.YtoilcdgpeilgaaaGreat
namespace Go.Proofs.YtoilcdgpeilgaaaGreat
open Go.RowKit Go.Shelf
section
variable {α : Type} {c : Cod α} {size : Nat} {e : TypeId} {w : World} {base g n cap : Nat} {l : List α} {xs : List Value}
theorem Own.putG (hg : Good c) (h : Own c size e w base (.slice (some ⟨g, 0, none⟩) n cap) l xs) {i j : Nat} {x x' : α} {u : Value} (hx : l[i]? = some x) (hj : j < size)
    (hc : ∀ cs, c (w.setCell ⟨g, i * size + j, none⟩ u) (Beside base (.slice (some ⟨g, 0, none⟩) n cap)) x cs → c (w.setCell ⟨g, i * size + j, none⟩ u) (Beside base (.slice (some ⟨g, 0, none⟩) n cap)) x' (cs.set j u)) :
    Own c size e (w.setCell ⟨g, i * size + j, none⟩ u) base (.slice (some ⟨g, 0, none⟩) n cap) (l.set i x') (xs.set (i * size + j) u) := by
  have hrow := h.row
  have hn := h.len
  subst hn
  have hk : Kept (fun b => b = g) w (w.setCell ⟨g, i * size + j, none⟩ u) := (Kept.refl (fun b => b = g) w).setCell (p := ⟨g, i * size + j, none⟩) (.inl rfl) u
  have hmove : ∀ (x : α) (cs0 : List Value), c w (Beside base (.slice (some ⟨g, 0, none⟩) l.length cap)) x cs0 → c (w.setCell ⟨g, i * size + j, none⟩ u) (Beside base (.slice (some ⟨g, 0, none⟩) l.length cap)) x cs0 := fun x cs0 h0 =>
    hg.keep h0 fun b hb hlt => ⟨hk.block b hlt (fun e => by subst e; exact hb.2 rfl), hb⟩
  have hil : i < l.length := (List.getElem?_eq_some_iff.1 hx).1
  have hxl : xs.length = l.length * size := hrow.1
  have hlt : i * size + j < xs.length := by have := idx_in hil hj; omega
  refine ⟨by rw [List.length_set]; exact (hrow.stored _ u).1, fun k y hy => ?_⟩
  by_cases hki : k = i
  · subst hki
    rw [List.getElem?_set_self hil] at hy
    injection hy with hy
    subst hy
    obtain ⟨cs, hcc, hl, hcell⟩ := h.el k x hx
    refine ⟨cs.set j u, hc _ (hmove _ _ hcc), by simpa using hl, fun q v hv => ?_⟩
    by_cases hq : q = j
    · subst hq
      rw [List.getElem?_set_self (by omega)] at hv
      rw [List.getElem?_set_self hlt]
      exact hv
    · rw [List.getElem?_set_ne (by omega)] at hv
      rw [List.getElem?_set_ne (by omega)]
      exact hcell q v hv
  · rw [List.getElem?_set_ne (by omega)] at hy
    obtain ⟨cs, hcc, hl, hcell⟩ := h.el k y hy
    refine ⟨cs, hmove _ _ hcc, hl, fun q v hv => ?_⟩
    have hq : q < size := by have := (List.getElem?_eq_some_iff.1 hv).1; omega
    rw [List.getElem?_set_ne ?_]
    · exact hcell q v hv
    · intro he
      rcases Nat.lt_or_ge k i with h1 | h1
      · have := idx_lt h1 hq; omega
      · have := idx_lt (show i < k by omega) hj; omega
end
theorem bkgO_state {w : World} {S : Nat → Prop} {b : Bkg} {cs : List Value} {s : Int} (h : bkgO w S b cs) (hs : InI s) : bkgO w S { b with state := s } (cs.set 2 (.int .i64 s)) := by
  obtain ⟨v, rfl, hi, hI⟩ := h
  exact ⟨v, rfl, hi, hI.id, hI.kind, hs, hI.gst, hI.cab, hI.cat, hI.frm, hI.upto, hI.til⟩
theorem bkgO_til {w : World} {S : Nat → Prop} {b : Bkg} {cs : List Value} {s : Int} (h : bkgO w S b cs) (hs : InI s) : bkgO w S { b with til := s } (cs.set 9 (.int .i64 s)) := by
  obtain ⟨v, rfl, hi, hI⟩ := h
  exact ⟨v, rfl, hi, hI.id, hI.kind, hI.state, hI.gst, hI.cab, hI.cat, hI.frm, hI.upto, hs⟩
theorem bkgO_cab {w : World} {S : Nat → Prop} {b : Bkg} {cs : List Value} {s : Int} (h : bkgO w S b cs) (hs : InI s) : bkgO w S { b with cab := s } (cs.set 5 (.int .i64 s)) := by
  obtain ⟨v, rfl, hi, hI⟩ := h
  exact ⟨v, rfl, hi, hI.id, hI.kind, hI.state, hI.gst, hs, hI.cat, hI.frm, hI.upto, hI.til⟩
theorem bkgO_fol {w : World} {S : Nat → Prop} {b : Bkg} {cs : List Value} {v : Value} {f : List Entry} (h : bkgO w S b cs) (hv : InnO entryC 3 57 w S v f) : bkgO w S { b with fol := f } (cs.set 10 v) := by
  obtain ⟨v0, rfl, hi, hI⟩ := h
  exact ⟨v, rfl, hv, hI.id, hI.kind, hI.state, hI.gst, hI.cab, hI.cat, hI.frm, hI.upto, hI.til⟩
section
variable {w0 : World} {b0 : Nat} {w : World} {base : Nat} {x : Sai} {p : SaiV} {g i : Nat} {b : Bkg}
theorem SaiW.put {j : Nat} {b' : Bkg} {u : Value} (h : SaiW w0 b0 w base x p) (hC : p.C = some ⟨g, 0, none⟩) (hb : x.bks[i]? = some b) (hj : j < 11)
    (hc : ∀ cs, bkgO (w.setCell ⟨g, i * 11 + j, none⟩ u) (Beside w0.heap.size (.slice (some ⟨g, 0, none⟩) p.nb p.cb)) b cs → bkgO (w.setCell ⟨g, i * 11 + j, none⟩ u) (Beside w0.heap.size (.slice (some ⟨g, 0, none⟩) p.nb p.cb)) b' (cs.set j u)) :
    SaiW w0 b0 (w.setCell ⟨g, i * 11 + j, none⟩ u) base (setS x i b') p := by
  obtain ⟨a1, a2, a3, a4, a5, xs, a6⟩ := h
  rw [hC] at a6
  have hg := (a6.lt g rfl).1
  have hk : Kept (fun b => b = g) w (w.setCell ⟨g, i * 11 + j, none⟩ u) := (Kept.refl (fun b => b = g) w).setCell (p := ⟨g, i * 11 + j, none⟩) (.inl rfl) u
  refine ⟨a1, a2, Nat.le_trans a3 hk.size, fun k h1 h2 => (hk.block k (by omega) (by omega)).trans (a4 k h1 h2), ⟨a5.cats, a5.cabs, a5.leg, a5.bands, a5.a, a5.t, a5.d⟩, xs.set (i * 11 + j) u, ?_⟩
  rw [hC]
  exact a6.putG bkgO_good hb hj hc
theorem SaiW.at (h : SaiW w0 b0 w base x p) (hb : x.bks[i]? = some b) : ∃ g A3 n3 c3, p.C = some ⟨g, 0, none⟩ ∧ w0.heap.size ≤ g ∧ g < w.heap.size ∧ (∀ j u, (bkgA b (.slice A3 n3 c3)).toList[j]? = some u → w.cell? ⟨g, i * 11 + j, none⟩ = some u) ∧
    (∀ j, w.frozen? ⟨g, j, none⟩ = false) ∧ Sl entryC 3 w All A3 n3 c3 b.fol ∧ BkIn b ∧ x.bks.length = p.nb := by
  obtain ⟨a1, a2, a3, a4, a5, xs, a6⟩ := h
  obtain ⟨g, cap, hv, hg, hgl⟩ := a6.form (by have := (List.getElem?_eq_some_iff.1 hb).1; omega)
  injection hv with e1 e2 e3
  rw [e1] at a6
  obtain ⟨cs, hc, hl, hcell, hf⟩ := a6.cells hb
  obtain ⟨v, rfl, hi, hI⟩ := hc
  obtain ⟨A3, n3, c3, rfl, hs⟩ := hi.sl entryC_good entryC_flat2
  exact ⟨g, A3, n3, c3, e1, hg, hgl, hcell, hf, hs.all entryC_good (by omega), hI, e2.symm⟩
theorem SaiW.neB {y : Nat} {cs : Array Value} {t : TypeId} (h : SaiW w0 b0 w base x p) (hC : p.C = some ⟨g, 0, none⟩) (hY : Blk w y cs t) (ht : t ≠ 37) : g ≠ y := by
  obtain ⟨a1, a2, a3, a4, a5, xs, a6⟩ := h
  rw [hC] at a6
  exact fun e => a6.neTy hY ht (by rw [e]; rfl)
end
theorem bk11 {w : World} {a o : Nat} {b : Bkg} {v : Value} (h : ∀ j u, (bkgA b v).toList[j]? = some u → w.cell? ⟨a, o + j, none⟩ = some u) : w.cell? ⟨a, o, none⟩ = some (.int .i64 b.id) ∧ w.cell? ⟨a, o + 1, none⟩ = some (.int .i64 b.kind) ∧ w.cell? ⟨a, o + 2, none⟩ = some (.int .i64 b.state) ∧
    w.cell? ⟨a, o + 3, none⟩ = some (.int .i64 b.gst) ∧ w.cell? ⟨a, o + 4, none⟩ = some (.bool b.lev) ∧ w.cell? ⟨a, o + 5, none⟩ = some (.int .i64 b.cab) ∧ w.cell? ⟨a, o + 6, none⟩ = some (.int .i64 b.cat) ∧ w.cell? ⟨a, o + 7, none⟩ = some (.int .i64 b.frm) ∧
    w.cell? ⟨a, o + 8, none⟩ = some (.int .i64 b.upto) ∧ w.cell? ⟨a, o + 9, none⟩ = some (.int .i64 b.til) ∧ w.cell? ⟨a, o + 10, none⟩ = some v :=
  ⟨h 0 _ rfl, h 1 _ rfl, h 2 _ rfl, h 3 _ rfl, h 4 _ rfl, h 5 _ rfl, h 6 _ rfl, h 7 _ rfl, h 8 _ rfl, h 9 _ rfl, h 10 _ rfl⟩
theorem set_set (x : Sai) (i : Nat) (b c : Bkg) : setS (setS x i b) i c = setS x i c := by unfold setS; rw [List.set_set]
theorem set_get {x : Sai} {i : Nat} {b c : Bkg} (h : x.bks[i]? = some c) : (setS x i b).bks[i]? = some b := List.getElem?_set_self (List.getElem?_eq_some_iff.1 h).1
abbrev chgA (x : Sai) (p : SaiV) (i : Nat) : Array Value := #[.int .i64 x.ship.legs, .int .i64 x.ship.souls, .slice p.A p.n p.cap, .slice p.B p.m p.cap2, .slice p.D p.nd p.cd, .int .i64 x.fares.alone, .int .i64 x.fares.third, .slice p.E p.ne p.ce, .int .i64 x.fares.down,
  .int .i64 x.day, .int .i64 x.leaves, .slice p.C p.nb p.cb, .bool x.closed, .int .i64 (i : Int)]
theorem chg_sai {x : Sai} {p : SaiV} {i j : Nat} {u : Value} (h : (saiA x p)[j]? = some u) : (chgA x p i)[j]? = some u := by
  have h13 : j < 13 := (Array.getElem?_eq_some_iff.1 h).1
  rw [← h]
  rcases j with _ | _ | _ | _ | _ | _ | _ | _ | _ | _ | _ | _ | _ | j <;> first | rfl | omega
theorem chg_rng {w : World} {y : Nat} {x : Sai} {p : SaiV} {i : Nat} {t : TypeId} (h : Blk w y (chgA x p i) t) : w.rangeAt y 0 (saiA x p).toList := fun j u hu => by
  rw [Nat.zero_add]
  exact h.cell (chg_sai (by simpa using hu))
def Chg (w' : World) (base : Nat) (x : Sai) (i : Nat) (v : Value) : Prop := ∃ (y : Nat) (p : SaiV) (w0 : World) (b0 : Nat), v = .pointer (some ⟨y, 0, none⟩) ∧ Blk w' y (chgA x p i) 149 ∧ SaiW w0 b0 w' base x p ∧ w0.heap.size ≤ y
set_option maxRecDepth 100000 in
set_option maxHeartbeats 2000000 in
theorem it_any (x : Sai) (p : SaiV) (i y g : Nat) (w : World) (hY : Blk w y (chgA x p i) 149) (hC : p.C = some ⟨g, 0, none⟩) (hi : i < p.nb) (_ : p.nb ≤ 16) :
    Calls Tryz.prog 97 #[.pointer (some ⟨y, 0, none⟩)] w fun e w' => e = .returned (.pointer (some ⟨g, i * 11, none⟩)) ∧ Below w.heap.size w w' := by
  have c11 : w.cell? ⟨y, 11, none⟩ = some (.slice (some ⟨g, 0, none⟩) p.nb p.cb) := hC ▸ hY.cell rfl
  have c13 : w.cell? ⟨y, 13, none⟩ = some (.int .i64 (i : Int)) := hY.cell rfl
  have hb : Below w.heap.size w w := Below.refl _ _
  have hi2 : (i : Int) < (p.nb : Int) := by omega
  obtain ⟨nb, hnb⟩ : ∃ q, q = p.nb := ⟨_, rfl⟩
  rw [← hnb] at c11 hi hi2
  clear hY hC hnb
  go_enter Tryz.func97, Tryz.ntmps97
  go_upto_region 1 with (fail)
  go_quiet (fail)
  go_wp2_with fail
  go_ret
  exact ⟨rfl, below_drewN hb _⟩
set_option maxRecDepth 100000 in
set_option maxHeartbeats 8000000 in
theorem cfind_any (x : Sai) (p : SaiV) (t : Int) (w : World) (hS : SaiR w x p) (ht : InI t) :
    Calls Tryz.prog 179 #[.agg (saiA x p), .int .i64 t] w fun e w' => ∃ v, e = .returned (.tuple #[v, .int .i64 (chE x t 0)]) ∧ IfOK (chE x t 0) (Chg w' w.heap.size x (posI x.bks t) v) ∧ Below w.heap.size w w' := by
  have HCK := Lib.hid (fun X hX => saiCheck_any x p X hX)
  have HPL := Lib.hid (fun X (ho : OkSai x) hl => Place_any x p t X hl (rise_of ho.bs.rise) (ids_of ho) ho.bs.len ht)
  have HOW := Lib.hid (fun X h ho => stockOwn_any x p X h ho)
  obtain ⟨r, hr⟩ : ∃ r, r = saiE x := ⟨_, rfl⟩
  obtain ⟨R, hR⟩ : ∃ r, r = chE x t 0 := ⟨_, rfl⟩
  obtain ⟨lv, hlv⟩ : ∃ r, r = isLive x t := ⟨_, rfl⟩
  obtain ⟨hi, hhi⟩ : ∃ r, r = hasId x.bks t := ⟨_, rfl⟩
  have HR := Lib.hid (show R = if r ≠ 0 then r else if lv = true then 0 else 5 by rw [hR, hr, hlv]; rfl)
  have HLV := Lib.hid (show lv = (hi && liveB (curB x t)) by rw [hlv, hhi]; rfl)
  have HHI := Lib.hid hhi
  have HRE := Lib.hid hr
  rw [← hr] at HCK
  rw [← hhi] at HPL
  rw [← hR]
  have HS := Lib.hid hS
  clear hr hR hlv hhi hS ht
  obtain ⟨A, n, cap, B, m, cap2, D, nd, cd, E, ne, ce, C, nb, cb⟩ := p
  simp only at HPL
  go_enter Tryz.func179, Tryz.ntmps179
  go_upto_region 0 with (fail)
  go_cut [2, 4, 5] (fun p p2 p3 wx => ∃ g, p = .pointer (some ⟨g, 0, none⟩) ∧ p2 = .pointer none ∧ p3 = .int .i64 0 ∧ Blk wx g (saiA x ⟨A, n, cap, B, m, cap2, D, nd, cd, E, ne, ce, C, nb, cb⟩) 32 ∧ Below w.heap.size w wx)
  case first => as_aux_lemma =>
    go_wp2_with fail
    go_meet
    exact ⟨_, rfl, rfl, rfl, blk1 _ _, bel1 _ _⟩
  obtain ⟨g, rfl, rfl, rfl, hG, hb0⟩ := hcut
  obtain ⟨W1, hW1⟩ : ∃ V, V = wc := ⟨_, rfl⟩
  subst hW1
  have HT := Lib.hid (fun X (hX : Below W1.heap.size W1 X) => hb0.trans (hX.mono hb0.size))
  have HG := Lib.hid (fun X (hX : Below W1.heap.size W1 X) => hG.bel hX)
  have HSX := Lib.hid (fun X (hX : Below W1.heap.size W1 X) => HS.out.bel (HT.out X hX))
  have hb : Below W1.heap.size W1 W1 := Below.refl _ _
  clear hG hb0
  have HC := Lib.hid (HCK.out _ (HSX.out _ hb))
  go_wp2_with (refine wpList_load_row rfl 32 (.tmp 2) rfl g rfl 32 _ (0, 0) _ (HG.out _ hb) Tryz.underlying32 rfl (by kernel_rfl) ?_)
  refine HC.out.mono ?_
  rintro e w1 ⟨rfl, hb1⟩
  replace hb := hb.trans (hb1.mono hb.size)
  clear hb1 HC HCK
  by_cases q0 : r = 0
  rotate_left
  · obtain rfl : R = r := by rw [HR.out, if_pos q0]
    have q0' : (R != 0) = true := by simpa using q0
    have Q0 := Lib.hid q0
    clear q0
    go_wp2_with fail
    go_ret2
    exact ⟨_, rfl, fun h => absurd h Q0.out, HT.out _ hb⟩
  have HOK := Lib.hid (sai_ok (HRE.out.symm.trans q0))
  have HR1 := Lib.hid (HR.out.trans (if_neg (by rw [q0]; simp)))
  subst q0
  have HC := Lib.hid (HPL.out _ HOK.out (HSX.out _ hb).bks)
  go_wp2_with (refine wpList_load_row rfl 32 (.tmp 2) rfl g rfl 32 _ (0, 0) _ (HG.out _ hb) Tryz.underlying32 rfl (by kernel_rfl) ?_)
  refine HC.out.mono ?_
  rintro e w2 ⟨k, rfl, hk, hks, hb1⟩
  replace hb := hb.trans (hb1.mono hb.size)
  have HKS := Lib.hid hks
  clear hb1 HC HPL hks
  cases hi
  · obtain rfl : lv = false := by rw [HLV.out]; rfl
    obtain rfl : R = 5 := by rw [HR1.out]; rfl
    go_wp2_with fail
    go_ret2
    exact ⟨_, rfl, fun h => absurd h (by decide), HT.out _ hb⟩
  obtain ⟨b, h1, h2, h3, h4⟩ := idxF_has (rise_of HOK.out.bs.rise) HHI.out.symm
  have h5 := ids_of HOK.out b (List.mem_of_getElem? h1)
  obtain rfl : k = posI x.bks t := HKS.out ⟨by omega, by omega⟩
  have HCU := Lib.hid (show curB x t = b by unfold curB; rw [List.getD_eq_getElem?_getD, h1]; rfl)
  obtain ⟨k, hkk⟩ : ∃ q, q = posI x.bks t := ⟨_, rfl⟩
  rw [← hkk] at h1 h3 ⊢
  have HKK := Lib.hid hkk
  clear h2 h4 h5 HKS hk hkk
  have hnb : nb = x.bks.length := HS.out.bks.len.symm
  have hlt : k < nb := by omega
  have hnb16 := HOK.out.bs.len
  have hk0 : (0 : Int) ≤ (k : Int) := Int.natCast_nonneg _
  have hk1 : (k : Int) < (nb : Int) := by omega
  obtain ⟨ab, off, b', A3, n3, c3, hA, hx, hF, hI, hcel⟩ := (HSX.out _ hb).bks.bkg hlt
  obtain rfl : b' = b := by rw [hx] at h1; injection h1
  simp only at hA
  subst hA
  have l11 : w2.cell? ⟨g, 11, none⟩ = some (.slice (some ⟨ab, off, none⟩) nb cb) := (HG.out _ hb).cell rfl
  obtain ⟨y0, y1, y2, y3, y4, y5, y6, y7, y8, y9, y10⟩ := bk11 hcel
  have HLI := Lib.hid (fun W => Live_any b' (.slice A3 n3 c3) W)
  have HLB := Lib.hid (show lv = liveB b' by rw [HLV.out, HCU.out]; rfl)
  obtain ⟨ll, hll⟩ : ∃ q, q = liveB b' := ⟨_, rfl⟩
  rw [← hll] at HLI HLB
  obtain rfl : lv = ll := HLB.out
  clear h1 h3 hx hF hI hcel HLB HLV HCU hnb hll hlt hnb16
  go_wp2_with fail
  refine (HLI.out _).mono ?_
  rintro e w3 ⟨rfl, hb1⟩
  replace hb := hb.trans (hb1.mono hb.size)
  clear hb1 HLI l11 y0 y1 y2 y3 y4 y5 y6 y7 y8 y9 y10
  cases lv
  · obtain rfl : R = 5 := by rw [HR1.out]; rfl
    go_wp2_with fail
    go_ret2
    exact ⟨_, rfl, fun h => absurd h (by decide), HT.out _ hb⟩
  obtain rfl : R = 0 := by rw [HR1.out]; rfl
  have HC := Lib.hid (HOW.out _ (HSX.out _ hb) HOK.out)
  go_wp2_with (refine wpList_load_row rfl 32 (.tmp 2) rfl g rfl 32 _ (0, 0) _ (HG.out _ hb) Tryz.underlying32 rfl (by kernel_rfl) ?_)
  refine HC.out.mono ?_
  rintro e w4 ⟨p3, rfl, hO3, hb3⟩
  obtain ⟨v0, b0, hW3⟩ := hO3
  have hsz := hb.size
  have hszT := (HT.out _ hb).size
  replace hb := hb.trans (hb3.mono hb.size)
  have HW3 := Lib.hid hW3
  clear hW3
  clear hb3 HC HOW
  go_wp2_with fail
  go_ret2
  have hW9 : SaiW v0 b0 (w4.alloc (.cells (chgA x p3 k) 149)) w.heap.size x p3 := by
    obtain ⟨a1, a2, a3, a4, a5, xs, a6⟩ := HW3.out.bel (bel1 w4 (.cells (chgA x p3 k) 149))
    exact ⟨by omega, a2, a3, a4, a5, xs, a6⟩
  exact ⟨_, rfl, fun _ => by rw [← HKK.out]; exact ⟨w4.heap.size, p3, v0, b0, rfl, Blk.new w4 _ _, hW9, by obtain ⟨_, _, a3, _⟩ := HW3.out; exact a3⟩, (HT.out _ hb).trans ((bel1 w4 _).mono (HT.out _ hb).size)⟩
end Go.Proofs.YtoilcdgpeilgaaaGreat
namespace Go.Proofs.YtoilcdgpeilgaaaGreat
open Go.RowKit Go.Shelf
def goneS (x : Sai) (i : Nat) (b : Bkg) (day : Int) : Sai := if goneE x b day = 0 then setS x i (goneB x b day) else x
theorem goneS_ok {x : Sai} {i : Nat} {b : Bkg} {day : Int} (h : goneE x b day = 0) : goneS x i b day = setS x i (goneB x b day) := if_pos h
theorem goneS_no {x : Sai} {i : Nat} {b : Bkg} {day : Int} (h : ¬ goneE x b day = 0) : goneS x i b day = x := if_neg h
set_option maxRecDepth 100000 in
set_option maxHeartbeats 16000000 in
theorem Leave_any (w0 : World) (b0 : Nat) (x : Sai) (p : SaiV) (i g y : Nat) (b : Bkg) (day : Int) (base : Nat) (w : World) (hW : SaiW w0 b0 w base x p) (hC : p.C = some ⟨g, 0, none⟩)
    (hY : ∀ j u, (saiA x p)[j]? = some u → w.cell? ⟨y, j, none⟩ = some u) (hb : x.bks[i]? = some b) (hfe : fareE x.fares x.ship.cats.length x.ship.legs = 0) (hlv : betB x.leaves 0 9999 = true) (h16 : x.bks.length ≤ 16) (hfo : checkFolio b.fol = 0) (hd : 0 ≤ day ∧ day ≤ 9999) :
    Calls Tryz.prog 102 #[.pointer (some ⟨y, 0, none⟩), .int .i64 (i : Int), .int .i64 day] w fun e w' => e = .returned (.int .i64 (goneE x b day)) ∧ SaiW w0 b0 w' base (goneS x i b day) p ∧ Kept (fun k => k = g) w w' := by
  obtain ⟨g', A3, n3, c3, hC', hg0, hgl, hcel, hfr, hF, hI, hnb⟩ := hW.at hb
  obtain rfl : g' = g := by rw [hC'] at hC; injection hC with h; injection h
  have hsai := hW.sai
  have HPE := Lib.hid (fun X hF => Penalty_any p.D p.nd p.cd x.fares p.E p.ne p.ce x.ship.cats.length x.ship.legs (faresOf b.fol) (max 0 (x.leaves - day)) X hF)
  have HFA := Lib.hid (fun X h => Fares_any A3 n3 c3 b.fol X h (check_small hfo))
  have HCA := Lib.hid (fun X h (h1 : InI (penV x b day)) => Cancel_any A3 n3 c3 b.fol day (penV x b day) X h (.of (by omega) (by omega)) h1)
  have hfk := fare_ok hfe
  have hlb := betB_iff.1 hlv
  obtain ⟨fa, hfa⟩ : ∃ r, r = faresOf b.fol := ⟨_, rfl⟩
  obtain ⟨pv, hpv⟩ : ∃ r, r = penV x b day := ⟨_, rfl⟩
  obtain ⟨E', hE⟩ : ∃ r, r = goneE x b day := ⟨_, rfl⟩
  obtain ⟨lt, hlt⟩ : ∃ r, r = lateV x.fares (faresOf b.fol) (max 0 (x.leaves - day)) := ⟨_, rfl⟩
  obtain ⟨pe, hpe⟩ : ∃ r, r = penE x.fares x.ship.cats.length x.ship.legs (faresOf b.fol) (max 0 (x.leaves - day)) := ⟨_, rfl⟩
  obtain ⟨L, hL⟩ : ∃ r, r = cancelL b.fol day (penV x b day) := ⟨_, rfl⟩
  obtain ⟨ce', hce⟩ : ∃ r, r = checkFolio (cancelL b.fol day (penV x b day)) := ⟨_, rfl⟩
  have HE := Lib.hid (show E' = if b.state = 2 ∧ 100000000 < fa then 3 else ce' by rw [hE, hfa, hce]; rfl)
  have HP := Lib.hid (show pv = if b.state = 2 ∧ 0 < fa then lt else 0 by rw [hpv, hfa, hlt]; rfl)
  have HPB := Lib.hid (show ¬ (b.state = 2 ∧ 100000000 < fa) → 0 ≤ pv ∧ pv ≤ 100000000 from fun h => by rw [hpv]; rw [hfa] at h; exact pen_bd hfk h)
  have HPEE := Lib.hid (show 0 < fa → pe = if 100000000 < fa then 3 else 0 from fun h => by rw [hpe, hfa]; rw [hfa] at h; exact penE_ok hfe (by omega) (by omega))
  have HCE := Lib.hid (show 0 ≤ pv → pv ≤ 100000000 → cancelE b.fol day pv = ce' from fun h0 h1 => by rw [hce]; rw [hpv] at h0 h1 ⊢; exact cancelE_ok hfo h0 h1)
  have HOK := Lib.hid (show E' = 0 → goneS x i b day = setS x i { b with state := 3, til := 0, fol := L } from fun h => by rw [goneS_ok (hE.symm.trans h), hL]; rfl)
  have HNO := Lib.hid (show ¬ E' = 0 → goneS x i b day = x from fun h => goneS_no (fun h2 => h (hE.trans h2)))
  obtain ⟨GS, hGS⟩ : ∃ r, r = goneS x i b day := ⟨_, rfl⟩
  rw [← hpe, ← hlt, ← hfa] at HPE
  rw [← hfa] at HFA
  rw [← hpv] at HCA
  rw [← hpv] at hL
  rw [← hL] at HCA
  rw [← hE, ← hGS]
  rw [← hGS] at HOK HNO
  have hsub : IntKind.i64.wrap (x.leaves - day) = x.leaves - day := IntWalk.i64_in _ (by omega)
  have HW := Lib.hid hW
  have HFR := Lib.hid (fun X (hX : Below w.heap.size w X) => hsai.fares.below hX)
  have HF := Lib.hid hF
  have HCL := Lib.hid (show x.ship.cats.length = p.n from hsai.cats.len)
  have HY := Lib.hid hY
  have HCEL := Lib.hid hcel
  have HFRZ := Lib.hid hfr
  have HBX := Lib.hid hb
  have HI := Lib.hid hI
  have hi0 : (0 : Int) ≤ (i : Int) := Int.natCast_nonneg _
  have hil := (List.getElem?_eq_some_iff.1 hb).1
  have hi1 : (i : Int) < (p.nb : Int) := by omega
  have hnb16 : p.nb ≤ 16 := by omega
  have hcn : p.n ≤ 9223372036854775807 := hsai.cats.bd
  rw [HCL.out] at HPE
  clear hfa hpv hE hlt hpe hL hce hGS hfk hW hsai hF hY hcel hfr hb hI hfe hlv h16 hfo hC' hnb hil
  obtain ⟨A, n, cap, B, m, cap2, D, nd, cd, E, ne, ce, C, nb, cb⟩ := p
  obtain ⟨id, kind, state, gst, lev, cab, cat, frm, upto, til, fol⟩ := b
  simp only at hC HPE hi1 hnb16 hcn HE HP HPB HCE HOK
  subst hC
  have y11 : w.cell? ⟨y, 11, none⟩ = some (.slice (some ⟨g', 0, none⟩) nb cb) := HY.out 11 _ rfl
  have b2 : w.cell? ⟨g', i * 11 + 2, none⟩ = some (.int .i64 state) := HCEL.out 2 _ rfl
  have b10 : w.cell? ⟨g', i * 11 + 10, none⟩ = some (.slice A3 n3 c3) := HCEL.out 10 _ rfl
  have HSY := Lib.hid (show ∀ X, Below w.heap.size w X → (fun w' => w'.cell? ⟨y, 0, none⟩ = some (.int .i64 x.ship.legs) ∧ w'.cell? ⟨y, 2, none⟩ = some (.slice A n cap) ∧ w'.cell? ⟨y, 4, none⟩ = some (.slice D nd cd) ∧ w'.cell? ⟨y, 5, none⟩ = some (.int .i64 x.fares.alone) ∧ w'.cell? ⟨y, 6, none⟩ = some (.int .i64 x.fares.third) ∧ w'.cell? ⟨y, 7, none⟩ = some (.slice E ne ce) ∧ w'.cell? ⟨y, 8, none⟩ = some (.int .i64 x.fares.down) ∧ w'.cell? ⟨y, 10, none⟩ = some (.int .i64 x.leaves)) X from fun X hX => ⟨cellB hX (HY.out 0 _ rfl), cellB hX (HY.out 2 _ rfl), cellB hX (HY.out 4 _ rfl), cellB hX (HY.out 5 _ rfl), cellB hX (HY.out 6 _ rfl), cellB hX (HY.out 7 _ rfl), cellB hX (HY.out 8 _ rfl), cellB hX (HY.out 10 _ rfl)⟩)
  have HB2 := Lib.hid (show ∀ X, Below w.heap.size w X → X.cell? ⟨g', i * 11 + 2, none⟩ = some (.int .i64 state) from fun X hX => cellB hX b2)
  have HB10 := Lib.hid (show ∀ X, Below w.heap.size w X → X.cell? ⟨g', i * 11 + 10, none⟩ = some (.slice A3 n3 c3) from fun X hX => cellB hX b10)
  have hb : Below w.heap.size w w := Below.refl _ _
  go_enter Tryz.func102, Tryz.ntmps102
  go_wp2_with fail
  refine (HFA.out _ HF.out).mono ?_
  rintro e w1 ⟨rfl, hb1⟩
  replace hb := hb.trans (hb1.mono hb.size)
  clear hb1 HFA b2 b10 y11
  have b2 := HB2.out _ hb
  by_cases qA : state = 2 ∧ 100000000 < fa
  · obtain rfl : E' = 3 := by rw [HE.out, if_pos qA]
    obtain ⟨rfl, q2⟩ := qA
    have q3 : decide (0 < fa) = true := decide_eq_true (by omega)
    obtain rfl : pe = 3 := by rw [HPEE.out (by omega), if_pos q2]
    have HG := Lib.hid (HNO.out (by decide))
    go_upto_region 5 with (fail)
    replace hb := hb.drew
    go_region_held3 (fun w' => w'.cell? ⟨y, 0, none⟩ = some (.int .i64 x.ship.legs) ∧ w'.cell? ⟨y, 2, none⟩ = some (.slice A n cap) ∧ w'.cell? ⟨y, 4, none⟩ = some (.slice D nd cd) ∧ w'.cell? ⟨y, 5, none⟩ = some (.int .i64 x.fares.alone) ∧ w'.cell? ⟨y, 6, none⟩ = some (.int .i64 x.fares.third) ∧ w'.cell? ⟨y, 7, none⟩ = some (.slice E ne ce) ∧ w'.cell? ⟨y, 8, none⟩ = some (.int .i64 x.fares.down) ∧ w'.cell? ⟨y, 10, none⟩ = some (.int .i64 x.leaves)) (first | exact HSY.out _ hb | go_keep) (first | (go_at_call 142; refine (HPE.out _ (HFR.out _ hb)).mono ?_; rintro e w5 ⟨rfl, hb5⟩; replace hb := hb.trans (hb5.mono hb.size); clear hb5))
    go_wp2_with fail
    go_ret
    exact ⟨rfl, by rw [HG.out]; exact HW.out.bel hb, Kept.of_below hb (fun k hk h => by omega)⟩
  have HPB2 := Lib.hid (HPB.out qA)
  obtain rfl : E' = ce' := by rw [HE.out, if_neg qA]
  obtain ⟨W1, hW1⟩ : ∃ V, V = w1 := ⟨_, rfl⟩
  subst hW1
  obtain ⟨tv, htv⟩ : ∃ q, q = (decide (state = 2) && decide (0 < fa)) := ⟨_, rfl⟩
  have HTV := Lib.hid htv
  clear htv
  go_upto_region 4 with (fail)
  go_cut [33] (fun q wx => q = .bool tv ∧ W1 = wx)
  case first => as_aux_lemma =>
    by_cases q2 : state = 2
    · obtain rfl : tv = decide (0 < fa) := by rw [HTV.out, decide_eq_true q2]; rfl
      subst q2
      go_wp2_with fail
      go_meet
      exact ⟨rfl, rfl⟩
    · obtain rfl : tv = false := by rw [HTV.out, decide_eq_false q2]; rfl
      have q4 : (state == 2) = false := by simpa using q2
      clear q2
      go_wp2_with fail
      go_meet
      exact ⟨rfl, rfl⟩
  obtain ⟨rfl, rfl⟩ := hcut
  go_upto_if 33 with (fail)
  go_cut [8] (fun q wx => q = .int .i64 pv ∧ Below w.heap.size w wx)
  case first =>
    cases tv
    · obtain rfl : pv = 0 := by
        rw [HP.out]
        refine if_neg fun h => ?_
        have := HTV.out
        rw [decide_eq_true h.1, decide_eq_true h.2] at this
        cases this
      go_wp2_with fail
      go_meet
      exact ⟨rfl, hb⟩
    · obtain ⟨h1, h2⟩ := Bool.and_eq_true_iff.1 HTV.out.symm
      have q2 := of_decide_eq_true h1
      have q3 := of_decide_eq_true h2
      obtain rfl : pe = 0 := by rw [HPEE.out q3, if_neg (fun h => qA ⟨q2, h⟩)]
      obtain rfl : pv = lt := by rw [HP.out, if_pos ⟨q2, q3⟩]
      clear h1 h2 q2 q3 qA
      go_upto_region 5 with (fail)
      replace hb := hb.drew
      go_region_held3 (fun w' => w'.cell? ⟨y, 0, none⟩ = some (.int .i64 x.ship.legs) ∧ w'.cell? ⟨y, 2, none⟩ = some (.slice A n cap) ∧ w'.cell? ⟨y, 4, none⟩ = some (.slice D nd cd) ∧ w'.cell? ⟨y, 5, none⟩ = some (.int .i64 x.fares.alone) ∧ w'.cell? ⟨y, 6, none⟩ = some (.int .i64 x.fares.third) ∧ w'.cell? ⟨y, 7, none⟩ = some (.slice E ne ce) ∧ w'.cell? ⟨y, 8, none⟩ = some (.int .i64 x.fares.down) ∧ w'.cell? ⟨y, 10, none⟩ = some (.int .i64 x.leaves)) (first | exact HSY.out _ hb | go_keep) (first | (go_at_call 142; refine (HPE.out _ (HFR.out _ hb)).mono ?_; rintro e w5 ⟨rfl, hb5⟩; replace hb := hb.trans (hb5.mono hb.size); clear hb5))
      go_wp2_with fail
      go_meet
      exact ⟨rfl, hb⟩
  obtain ⟨rfl, hb2⟩ := hcut
  replace hb := hb2
  obtain ⟨p0, p1⟩ := HPB2.out
  have HCC := Lib.hid (HCE.out p0 p1)
  have b10 := HB10.out _ hb
  have HC := Lib.hid (HCA.out _ (HF.out.bel hb) (.of (by omega) (by omega)))
  clear hb2 b2 qA HPE hsub
  obtain ⟨W2, hW2⟩ : ∃ V, V = wc := ⟨_, rfl⟩
  subst hW2
  go_wp2_with fail
  refine HC.out.mono ?_
  rw [HCC.out]
  rintro e w3 ⟨v, xs, rfl, hO, hb3⟩
  have hsz := hb.size
  replace hb := hb.trans (hb3.mono hb.size)
  clear hb3 HC b10
  have HO := Lib.hid hO
  clear hO
  by_cases q5 : E' = 0
  rotate_left
  · have q6 : (E' != 0) = true := by simpa using q5
    have HG := Lib.hid (HNO.out q5)
    clear q5
    go_wp2_with fail
    go_ret
    exact ⟨rfl, by rw [HG.out]; exact HW.out.bel hb, Kept.of_below hb (fun k hk h => by omega)⟩
  have hO2 : Own entryC 3 57 w3 W2.heap.size v L xs := by
    have := HO.out
    rwa [q5, okL_zero] at this
  have HG := Lib.hid (HOK.out q5)
  subst q5
  obtain ⟨A5, n5, c5, rfl, _⟩ := hO2.sl entryC_good
  have f2 : w3.frozen? ⟨g', i * 11 + 2, none⟩ = false := frozenB hb hgl (HFRZ.out _)
  have f9 : w3.frozen? ⟨g', i * 11 + 9, none⟩ = false := frozenB hb hgl (HFRZ.out _)
  have f10 : w3.frozen? ⟨g', i * 11 + 10, none⟩ = false := frozenB hb hgl (HFRZ.out _)
  have c2 := HB2.out _ hb
  have c9 : w3.cell? ⟨g', i * 11 + 9, none⟩ = some (.int .i64 til) := cellB hb (HCEL.out 9 _ rfl)
  have c10 := HB10.out _ hb
  have HB := Lib.hid hb
  have HO2 := Lib.hid hO2
  clear hb hO2
  go_wp2_with fail
  go_ret
  have hW3 := HW.out.bel HB.out
  have hW4 := hW3.put rfl HBX.out (j := 2) (by omega) (u := .int .i64 3) (fun cs h => bkgO_state h (.of (by decide) (by decide)))
  have hW5 := hW4.put rfl (set_get HBX.out) (j := 9) (by omega) (u := .int .i64 0) (fun cs h => bkgO_til h (.of (by decide) (by decide)))
  have hK : Kept (fun k => k = g') w3 (((w3.setCell ⟨g', i * 11 + 2, none⟩ (.int .i64 3)).setCell ⟨g', i * 11 + 9, none⟩ (.int .i64 0)).setCell ⟨g', i * 11 + 10, none⟩ (.slice A5 n5 c5)) := kset w3 g' [(i * 11 + 2, .int .i64 3), (i * 11 + 9, .int .i64 0), (i * 11 + 10, .slice A5 n5 c5)]
  have hne : ∀ k, (Value.slice A5 n5 c5).ownBlock = some k → W2.heap.size ≤ k ∧ k ≠ g' := fun k hk => by have := HO2.out.lt k hk; exact ⟨this.1, by omega⟩
  have hW6 := hW5.put rfl (set_get (set_get HBX.out)) (j := 10) (by omega) (u := .slice A5 n5 c5) (fun cs h => bkgO_fol (f := L) h ⟨xs, (HO2.out.keepB entryC_flat2 (fun k hk => hK.block k (HO2.out.lt k hk).2 (hne k hk).2)).mono entryC_good (Nat.zero_le _), fun k hk => ⟨by have := (hne k hk).1; omega, fun e => (hne k hk).2 (by injection e)⟩⟩)
  rw [set_set, set_set] at hW6
  exact ⟨rfl, by rw [HG.out]; exact hW6, (Kept.of_below HB.out (fun k hk h => by omega)).trans hK⟩
end Go.Proofs.YtoilcdgpeilgaaaGreat
