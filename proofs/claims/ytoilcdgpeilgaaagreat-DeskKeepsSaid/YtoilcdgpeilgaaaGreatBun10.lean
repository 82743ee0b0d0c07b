/-
  Words, laws and contracts: BookP, BookA, BookB, BookC, BookD, BookF, BookS, BookG.
-/
import Derived.Test.YtoilcdgpeilgaaaGreatBun5
import Derived.Test.YtoilcdgpeilgaaaGreatBun8
import Derived.Test.YtoilcdgpeilgaaaGreatBun9
import Derived.BigRegion
import Derived.Deep.CutBlock
import Derived.Shelf.SlSortCmp.WholeK
import Derived.Shelf.SlSortCmp.NoneTotal
set_option linter.unusedSimpArgs false
set_option linter.unusedVariables false
namespace Go.Proofs.YtoilcdgpeilgaaaGreat
open Go.RowKit Go.Shelf
theorem meet_comm (x y : Span) : meetB x y = meetB y x := by
  unfold meetB
  rw [Bool.and_comm]
def put1 (out : List Span) (s : Span) : Option (List Span) := if adE out s = 0 then some (insSp s out) else none
def spF (ls : List Span) : Option (List Span) := ls.foldl (fun o s => o.bind (fun out => put1 out s)) (some [])
theorem spF_snoc (ls : List Span) (s : Span) : spF (ls ++ [s]) = (spF ls).bind (fun out => put1 out s) := by
  unfold spF
  rw [List.foldl_append]; rfl
theorem adE_zero {l : List Span} {s : Span} : adE l s = 0 ↔ l.any (fun x => meetB x s) = false := by
  unfold adE
  cases h : l.any (fun x => meetB x s)
  · simp
  · simp
theorem snoc_ind {α : Type} {p : List α → Prop} (h0 : p []) (h1 : ∀ l x, p l → p (l ++ [x])) : ∀ l, p l := fun l => by
  have : ∀ l : List α, p l.reverse := fun l => by
    induction l with
    | nil => exact h0
    | cons x l ih => rw [List.reverse_cons]; exact h1 _ _ ih
  have h := this l.reverse
  rwa [List.reverse_reverse] at h
theorem spF_some0 : ∀ ls : List Span, ∀ out : List Span, (∀ x ∈ ls, x.frm < x.upto) → spF ls = some out → out.Perm ls ∧ out.Pairwise (fun x y => x.upto ≤ y.frm) := by
  refine snoc_ind (p := fun ls => ∀ out : List Span, (∀ x ∈ ls, x.frm < x.upto) → spF ls = some out → out.Perm ls ∧ out.Pairwise (fun x y => x.upto ≤ y.frm)) ?_ ?_
  · intro out _ h
    injection h with h
    subst h
    exact ⟨List.Perm.refl _, List.Pairwise.nil⟩
  · intro ls s ih out hok h
    rw [spF_snoc] at h
    cases ho : spF ls with
    | none => rw [ho] at h; cases h
    | some o =>
      rw [ho] at h
      have h : put1 o s = some out := h
      unfold put1 at h
      by_cases h1 : adE o s = 0
      · rw [if_pos h1] at h
        injection h with h
        subst h
        obtain ⟨hp, hw⟩ := ih _ (fun x hx => hok x (List.mem_append_left _ hx)) ho
        exact ⟨(ins_perm s o).trans (hp.append_right [s]), ins_pair (hok s (by simp)) (fun x hx => hok x (List.mem_append_left _ (hp.subset hx))) hw (adE_zero.1 h1)⟩
      · rw [if_neg h1] at h; cases h
theorem spF_some {ls out : List Span} (h1 : ∀ x ∈ ls, x.frm < x.upto) (h2 : spF ls = some out) : out.Perm ls ∧ out.Pairwise (fun x y => x.upto ≤ y.frm) := spF_some0 ls out h1 h2
theorem spF_apart0 : ∀ ls : List Span, (∀ x ∈ ls, x.frm < x.upto) → ls.Pairwise (fun x y => meetB x y = false) → ∃ out, spF ls = some out := by
  refine snoc_ind (p := fun ls => (∀ x ∈ ls, x.frm < x.upto) → ls.Pairwise (fun x y => meetB x y = false) → ∃ out, spF ls = some out) (fun _ _ => ⟨[], rfl⟩) ?_
  intro ls s ih hok hw
  rw [List.pairwise_append] at hw
  obtain ⟨o, ho⟩ := ih (fun x hx => hok x (List.mem_append_left _ hx)) hw.1
  have hp := (spF_some (fun x hx => hok x (List.mem_append_left _ hx)) ho).1
  rw [spF_snoc, ho]
  refine ⟨insSp s o, ?_⟩
  show put1 o s = _
  unfold put1
  rw [if_pos (adE_zero.2 (List.any_eq_false.2 fun x hx => by rw [hw.2.2 x (hp.subset hx) s (by simp)]; simp))]
theorem spF_apart {ls : List Span} (h1 : ∀ x ∈ ls, x.frm < x.upto) (h2 : ls.Pairwise (fun x y => meetB x y = false)) : ∃ out, spF ls = some out := spF_apart0 ls h1 h2
theorem pair_chain {R : Span → Span → Prop} (ht : ∀ x y z, R x y → R y z → R x z) : ∀ {s : List Span}, (∀ i x y, s[i]? = some x → s[i + 1]? = some y → R x y) → s.Pairwise R
  | [], _ => List.Pairwise.nil
  | [x], _ => by simp
  | x :: y :: s, h => by
    have ih := pair_chain ht (s := y :: s) (fun i a b ha hb => h (i + 1) a b (by simpa using ha) (by simpa using hb))
    have hxy := h 0 x y rfl rfl
    rw [List.pairwise_cons]
    refine ⟨fun z hz => ?_, ih⟩
    rcases List.mem_cons.1 hz with rfl | hz
    · exact hxy
    · exact ht x y z hxy ((List.pairwise_cons.1 ih).1 z hz)
theorem pair_meet {s : List Span} (h : s.Pairwise (fun x y => x.upto ≤ y.frm)) : s.Pairwise (fun x y => meetB x y = false) :=
  h.imp fun hxy => by unfold meetB; simp; omega
theorem taken_law {ls s : List Span} (hok : ∀ x ∈ ls, x.frm < x.upto) (hp : s.Perm ls) (hs : s.Pairwise (fun x y => x.frm ≤ y.frm)) :
    ((∀ i x y, s[i]? = some x → s[i + 1]? = some y → meetB x y = false) → spF ls = some s) ∧ ((∃ i x y, s[i]? = some x ∧ s[i + 1]? = some y ∧ meetB x y = true) → spF ls = none) := by
  have hoks : ∀ x ∈ s, x.frm < x.upto := fun x hx => hok x (hp.subset hx)
  have hsym : ∀ {x y : Span}, meetB x y = false → meetB y x = false := fun {x y} h => by rw [meet_comm]; exact h
  refine ⟨fun h => ?_, fun h => ?_⟩
  · have hw : s.Pairwise (fun x y => x.upto ≤ y.frm) := by
      refine List.Pairwise.imp (R := fun x y => x.upto ≤ y.frm ∧ y.frm < y.upto) (fun h => h.1) (pair_chain (fun x y z h1 h2 => ⟨by omega, h2.2⟩) fun i x y hx hy => ?_)
      have hx1 := hoks x (List.mem_of_getElem? hx)
      have hy1 := hoks y (List.mem_of_getElem? hy)
      have hle : x.frm ≤ y.frm := by
        obtain ⟨hi, rfl⟩ := List.getElem?_eq_some_iff.1 hx
        obtain ⟨hj, rfl⟩ := List.getElem?_eq_some_iff.1 hy
        exact List.pairwise_iff_getElem.1 hs i (i + 1) hi hj (by omega)
      rcases meet_apart (h i x y hx hy) hx1 hy1 with e | e
      · exact ⟨e, hy1⟩
      · omega
    obtain ⟨o, ho⟩ := spF_apart hok ((hp.pairwise_iff (fun {x y} => hsym)).1 (pair_meet hw))
    obtain ⟨hpo, hwo⟩ := spF_some hok ho
    rw [ho, sorted_unique (hp.trans hpo.symm) hs (pair_lt (fun x hx => hok x (hpo.subset hx)) hwo)]
  · obtain ⟨i, x, y, hx, hy, hm⟩ := h
    cases ho : spF ls with
    | none => rfl
    | some o =>
      obtain ⟨hpo, hwo⟩ := spF_some hok ho
      have h1 : s.Pairwise (fun x y => meetB x y = false) := ((hp.trans hpo.symm).pairwise_iff (fun {x y} => hsym)).2 (pair_meet hwo)
      obtain ⟨hi, rfl⟩ := List.getElem?_eq_some_iff.1 hx
      obtain ⟨hj, rfl⟩ := List.getElem?_eq_some_iff.1 hy
      have := List.pairwise_iff_getElem.1 h1 i (i + 1) hi hj (by omega)
      rw [this] at hm
      exact absurd hm (by simp)
end Go.Proofs.YtoilcdgpeilgaaaGreat
namespace Go.Proofs.YtoilcdgpeilgaaaGreat
open Go.RowKit Go.Shelf
structure Bkg where
  id : Int
  kind : Int
  state : Int
  gst : Int
  lev : Bool
  cab : Int
  cat : Int
  frm : Int
  upto : Int
  til : Int
  fol : List Entry
  deriving Inhabited
structure BkIn (x : Bkg) : Prop where
  id : InI x.id
  kind : InI x.kind
  state : InI x.state
  gst : InI x.gst
  cab : InI x.cab
  cat : InI x.cat
  frm : InI x.frm
  upto : InI x.upto
  til : InI x.til
abbrev bkgA (x : Bkg) (v : Value) : Array Value := #[.int .i64 x.id, .int .i64 x.kind, .int .i64 x.state, .int .i64 x.gst, .bool x.lev, .int .i64 x.cab, .int .i64 x.cat, .int .i64 x.frm, .int .i64 x.upto, .int .i64 x.til, v]
def bkgC : Cod Bkg := fun w S x cs => ∃ A n cap, cs = (bkgA x (.slice A n cap)).toList ∧ Sl entryC 3 w S A n cap x.fol ∧ BkIn x
theorem bkgC_good : Good bkgC := ⟨fun h hk => by
    obtain ⟨A, n, cap, rfl, h, hl⟩ := h
    exact ⟨A, n, cap, rfl, h.keep entryC_good (by omega) hk, hl⟩,
  fun h u hu => by
    obtain ⟨A, n, cap, rfl, h, hl⟩ := h
    simp [bkgA] at hu; rcases hu with rfl | rfl | rfl | rfl | rfl | rfl | rfl | rfl | rfl | rfl | rfl <;> rfl⟩
instance bkgK : CodK bkgC 11 := ⟨bkgC_good, by omega⟩
instance entryK : CodK entryC 3 := ⟨entryC_good, by omega⟩
def fitB (c : Cab) (b : Bkg) : Bool := decide (b.gst ≤ c.ber) && (c.lev || !b.lev)
def cabAt (x : Shp) (i : Int) : Cab := x.cabs.getD i.toNat default
def eligB (x : Shp) (b : Bkg) (i : Int) : Bool := fitB (cabAt x i) b && srvB (higC x.cats) (cabAt x i).cat.toNat b.cat.toNat
def namedE (x : Shp) (b : Bkg) : Int := if betB b.cab 0 ((x.cabs.length : Int) - 1) = false then 3 else if b.cat ≠ 0 then 1 else if fitB (cabAt x b.cab) b = false then 4 else 0
def promE (x : Shp) (b : Bkg) : Int := if betB b.cat 0 ((x.cats.length : Int) - 1) = false then 3 else if b.frm ≠ 0 ∨ b.upto ≠ x.legs then 4 else if betB b.cab (-1) ((x.cabs.length : Int) - 1) = false then 3
  else if 0 ≤ b.cab ∧ eligB x b b.cab = false then 4 else 0
def kindE (x : Shp) (b : Bkg) : Int := if b.kind = 2 then promE x b else namedE x b
def ofE (x : Shp) (b : Bkg) : Int := if (betB b.kind 1 2 && betB b.state 1 3) = false then 7 else if (betB b.id 1 999999 && betB b.gst 1 4) = false then 3 else if spanE ⟨b.frm, b.upto⟩ x.legs ≠ 0 then spanE ⟨b.frm, b.upto⟩ x.legs
  else if kindE x b ≠ 0 then kindE x b else if betB b.til 0 9999 = false then 3 else if b.til ≠ 0 ∧ b.state ≠ 1 then 1 else checkFolio b.fol
def liveB (b : Bkg) : Bool := !decide (b.state = 3)
def hasB (c : Int) (b : Bkg) : Bool := liveB b && decide (b.cab = c)
def spL (l : List Bkg) (c : Int) : List Span := (l.filter (hasB c)).map (fun b => ⟨b.frm, b.upto⟩)
def soulK (l : List Bkg) (k : Nat) : Int := (l.map (fun b => if liveB b = true ∧ b.frm ≤ k ∧ (k : Int) < b.upto then b.gst else 0)).sum
def soulL (l : List Bkg) (legs : Nat) : List Int := (List.range legs).map (soulK l)
end Go.Proofs.YtoilcdgpeilgaaaGreat
namespace Go.Proofs.YtoilcdgpeilgaaaGreat
open Go.RowKit Go.Shelf
abbrev cabA (c : Cab) : Array Value := #[strV c.name, .int .i64 c.cat, .int .i64 c.ber, .bool c.lev]
theorem bwithin_any (n a b : Int) (w : World) : Calls Tryz.prog 154 #[.int .i64 n, .int .i64 a, .int .i64 b] w fun e w' => e = .returned (.bool (betB n a b)) ∧ w = w' := by
  go_enter Tryz.func154, Tryz.ntmps154
  go_wp2
  all_goals go_ret
  all_goals exact ⟨retB (by unfold betB; simp; try omega), rfl⟩
theorem fit_true {c : Cab} {b : Bkg} (h : b.gst ≤ c.ber) : fitB c b = (c.lev || !b.lev) := by unfold fitB; rw [decide_eq_true h]; rfl
theorem fit_false {c : Cab} {b : Bkg} (h : ¬ b.gst ≤ c.ber) : fitB c b = false := by unfold fitB; rw [decide_eq_false h]; rfl
theorem cellB {B : Nat} {W X : World} {p : Addr} {v : Value} (hX : Below B W X) (hc : W.cell? p = some v) (hB : B = W.heap.size := by rfl) : X.cell? p = some v := (World.cell?_of_block (hX.block _ (by rw [hB]; exact World.block_lt_of_cell? W p hc))).trans hc
set_option maxRecDepth 100000 in
set_option maxHeartbeats 4000000 in
theorem bFits_any (c : Cab) (x : Bkg) (v : Value) (w : World) :
    Calls Tryz.prog 239 #[.agg (cabA c), .agg (bkgA x v)] w fun e w' => e = .returned (.bool (fitB c x)) ∧ Below w.heap.size w w' := by
  obtain ⟨nm, ct, ber, lv⟩ := c
  obtain ⟨id, kind, state, gst, lev, cab, cat, frm, upto, til, fol⟩ := x
  obtain ⟨r, hr⟩ : ∃ r, r = fitB ⟨nm, ct, ber, lv⟩ ⟨id, kind, state, gst, lev, cab, cat, frm, upto, til, fol⟩ := ⟨_, rfl⟩
  rw [← hr]
  have HT := Lib.hid (fun h : gst ≤ ber => hr.trans (fit_true (c := ⟨nm, ct, ber, lv⟩) (b := ⟨id, kind, state, gst, lev, cab, cat, frm, upto, til, fol⟩) h))
  have HF := Lib.hid (fun h : ¬ gst ≤ ber => hr.trans (fit_false (c := ⟨nm, ct, ber, lv⟩) (b := ⟨id, kind, state, gst, lev, cab, cat, frm, upto, til, fol⟩) h))
  clear hr
  go_enter Tryz.func239, Tryz.ntmps239
  go_upto_region 0 with (fail)
  go_cut [2, 3, 4] (fun p q _ wx => ∃ g k, p = .pointer (some ⟨g, 0, none⟩) ∧ q = .pointer (some ⟨k, 0, none⟩) ∧ Blk wx g (cabA ⟨nm, ct, ber, lv⟩) 76 ∧ Blk wx k (bkgA ⟨id, kind, state, gst, lev, cab, cat, frm, upto, til, fol⟩ v) 37 ∧ Below w.heap.size w wx)
  case first => as_aux_lemma =>
    go_wp2_with fail
    go_meet
    exact ⟨_, _, rfl, rfl, blk2_0 _ _ _, blk2_1 _ _ _, bel2 _ _ _⟩
  obtain ⟨g, k, rfl, rfl, hG, hK, hb⟩ := hcut
  have g2 : wc.cell? ⟨g, 2, none⟩ = some (.int .i64 ber) := hG.cell rfl
  have g3 : wc.cell? ⟨g, 3, none⟩ = some (.bool lv) := hG.cell rfl
  have k3 : wc.cell? ⟨k, 3, none⟩ = some (.int .i64 gst) := hK.cell rfl
  have k4 : wc.cell? ⟨k, 4, none⟩ = some (.bool lev) := hK.cell rfl
  by_cases h1 : gst ≤ ber
  · have hr := HT.out h1
    cases lv <;> cases lev <;> (simp at hr; subst hr; go_wp2_with fail; go_ret; exact ⟨rfl, hb⟩)
  · obtain rfl := HF.out h1
    have h2 : ber < gst := by omega
    go_wp2_with fail
    go_ret
    exact ⟨rfl, hb⟩
theorem cab_ok {x : Shp} (ho : OkShp x) {k : Nat} (hk : k < x.cabs.length) : 0 ≤ (x.cabs.getD k default).cat ∧ (x.cabs.getD k default).cat < x.cats.length ∧ betB (x.cabs.getD k default).ber 1 4 = true := by
  have h := firstE_zero ho.cabs k hk
  unfold nmE at h
  by_cases h1 : nameB ((cabNames x.cabs).getD k []) = false
  · rw [if_pos h1] at h; omega
  rw [if_neg h1] at h
  by_cases h2 : ((cabNames x.cabs).take k).contains ((cabNames x.cabs).getD k []) = true
  · rw [if_pos h2] at h; omega
  rw [if_neg h2] at h
  unfold cabE at h
  dsimp only at h
  by_cases h3 : betB (x.cabs.getD k default).cat 0 ((x.cats.length : Int) - 1) = false ∨ betB (x.cabs.getD k default).ber 1 4 = false
  · rw [if_pos h3] at h; omega
  · have h4 : betB (x.cabs.getD k default).cat 0 ((x.cats.length : Int) - 1) = true := by
      cases e : betB (x.cabs.getD k default).cat 0 ((x.cats.length : Int) - 1)
      · exact absurd (.inl e) h3
      · rfl
    have h5 := betB_iff.1 h4
    refine ⟨h5.1, by omega, ?_⟩
    cases e : betB (x.cabs.getD k default).ber 1 4
    · exact absurd (.inr e) h3
    · rfl
theorem Sl.cab {w : World} {B : Option Addr} {m cap2 : Nat} {l : List Cab} (h : Sl cabC 4 w All B m cap2 l) {k : Nat} (hk : k < m) : ∃ (b off : Nat) (nm : List UInt8) (ct ber : Int) (lv : Bool), B = some ⟨b, off, none⟩ ∧ l.getD k default = ⟨nm, ct, ber, lv⟩ ∧
    w.cell? ⟨b, off + k * 4, none⟩ = some (strV nm) ∧ w.cell? ⟨b, off + k * 4 + 1, none⟩ = some (.int .i64 ct) ∧ w.cell? ⟨b, off + k * 4 + 2, none⟩ = some (.int .i64 ber) ∧ w.cell? ⟨b, off + k * 4 + 3, none⟩ = some (.bool lv) := by
  obtain ⟨b, off, x, c0, c1, c2, c3, hA, hx, ⟨hc, _⟩, e0, e1, e2, e3⟩ := h.at4 hk
  simp only [List.cons.injEq, and_true] at hc
  obtain ⟨rfl, rfl, rfl, rfl⟩ := hc
  exact ⟨b, off, x.name, x.cat, x.ber, x.lev, hA, by rw [List.getD_eq_getElem?_getD, hx]; rfl, e0, e1, e2, e3⟩
set_option maxRecDepth 100000 in
set_option maxHeartbeats 4000000 in
theorem Eligible_any (x : Shp) (A : Option Addr) (n cap : Nat) (B : Option Addr) (m cap2 : Nat) (b : Bkg) (v : Value) (k : Nat) (w : World) (hc : Sl catC 2 w All A n cap x.cats) (hb : Sl cabC 4 w All B m cap2 x.cabs) (ho : OkShp x)
    (hk : k < m) (h0 : 0 ≤ b.cat) (h1 : b.cat < n) :
    Calls Tryz.prog 219 #[.agg #[.int .i64 x.legs, .int .i64 x.souls, .slice A n cap, .slice B m cap2], .agg (bkgA b v), .int .i64 (k : Int)] w fun e w' => e = .returned (.bool (eligB x b k)) ∧ Below w.heap.size w w' := by
  obtain ⟨id, kind, state, gst, lev, cab, cat, frm, upto, til, fol⟩ := b
  simp only at h0 h1
  obtain ⟨q, rfl⟩ : ∃ q : Nat, cat = q := ⟨cat.toNat, by omega⟩
  have hq : q < n := by omega
  obtain ⟨r, hr⟩ : ∃ r, r = eligB x ⟨id, kind, state, gst, lev, cab, (q : Int), frm, upto, til, fol⟩ k := ⟨_, rfl⟩
  rw [← hr]
  obtain ⟨b, off, nm, ct, ber, lv, hB, hx, e0, e1, e2, e3⟩ := hb.cab hk
  subst hB
  have hok := cab_ok ho (k := k) (by rw [hb.len]; exact hk)
  rw [hx, hc.len] at hok
  simp only at hok
  obtain ⟨ct, rfl⟩ : ∃ d : Nat, ct = d := ⟨ct.toNat, by omega⟩
  have hct : ct < n := by omega
  have hx2 : cabAt x k = ⟨nm, ct, ber, lv⟩ := hx
  have HR := Lib.hid (show r = (fitB ⟨nm, ct, ber, lv⟩ ⟨id, kind, state, gst, lev, cab, (q : Int), frm, upto, til, fol⟩ && srvB (higC x.cats) ct q) by rw [hr]; unfold eligB; rw [hx2]; rfl)
  have HM := Lib.hid (fun W h => May_any x.legs x.souls A n cap x.cats (.slice (some ⟨b, off, none⟩) m cap2) ct q W h ho.ok hct hq)
  have HF := Lib.hid (fun W => bFits_any ⟨nm, ct, ber, lv⟩ ⟨id, kind, state, gst, lev, cab, (q : Int), frm, upto, til, fol⟩ v W)
  have HC := Lib.hid hc
  have HB := Lib.hid hb
  clear hr hx hok hc hb h0 h1 hx2
  go_enter Tryz.func219, Tryz.ntmps219
  go_upto_region 0 with (fail)
  go_cut [3, 4, 6] (fun p p2 _ wx => ∃ g h, p = .pointer (some ⟨g, 0, none⟩) ∧ p2 = .pointer (some ⟨h, 0, none⟩) ∧ Blk wx g #[.int .i64 x.legs, .int .i64 x.souls, .slice A n cap, .slice (some ⟨b, off, none⟩) m cap2] 25 ∧ Blk wx h (bkgA ⟨id, kind, state, gst, lev, cab, (q : Int), frm, upto, til, fol⟩ v) 37 ∧ Below w.heap.size w wx)
  case first => as_aux_lemma =>
    go_wp2_with fail
    go_meet
    exact ⟨_, _, rfl, rfl, blk2_0 _ _ _, blk2_1 _ _ _, bel2 _ _ _⟩
  obtain ⟨g, h, rfl, rfl, hG, hH, hbw⟩ := hcut
  have g3 : wc.cell? ⟨g, 3, none⟩ = some (.slice (some ⟨b, off, none⟩) m cap2) := hG.cell rfl
  replace e0 := cellB hbw e0
  replace e1 := cellB hbw e1
  replace e2 := cellB hbw e2
  replace e3 := cellB hbw e3
  go_upto_region 1 with (fail)
  obtain ⟨w1, hw1⟩ : ∃ W, W = wc := ⟨_, rfl⟩
  subst hw1
  go_cut [7] (fun p wx => ∃ z, p = .pointer (some ⟨z, 0, none⟩) ∧ Blk wx z (cabA ⟨nm, ct, ber, lv⟩) 76 ∧ Below w1.heap.size w1 wx)
  case first => as_aux_lemma =>
    go_wp2_with fail
    go_meet
    exact ⟨_, rfl, blk1 _ _, bel1 _ _⟩
  obtain ⟨z, rfl, hZ, hb1⟩ := hcut
  replace hG := hG.bel hb1
  replace hH := hH.bel hb1
  replace hbw := hbw.trans (hb1.mono hbw.size)
  clear hb1 e0 e1 e2 e3 g3
  obtain ⟨f, hf⟩ : ∃ f, f = fitB ⟨nm, ct, ber, lv⟩ ⟨id, kind, state, gst, lev, cab, (q : Int), frm, upto, til, fol⟩ := ⟨_, rfl⟩
  rw [← hf] at HF HR
  clear hf
  have k0 : wc.cell? ⟨h, 0, none⟩ = some (.int .i64 id) := hH.cell rfl
  have k1 : wc.cell? ⟨h, 1, none⟩ = some (.int .i64 kind) := hH.cell rfl
  have k2 : wc.cell? ⟨h, 2, none⟩ = some (.int .i64 state) := hH.cell rfl
  have k3 : wc.cell? ⟨h, 3, none⟩ = some (.int .i64 gst) := hH.cell rfl
  have k4 : wc.cell? ⟨h, 4, none⟩ = some (.bool lev) := hH.cell rfl
  have k5 : wc.cell? ⟨h, 5, none⟩ = some (.int .i64 cab) := hH.cell rfl
  have k6 : wc.cell? ⟨h, 6, none⟩ = some (.int .i64 (q : Int)) := hH.cell rfl
  have k7 : wc.cell? ⟨h, 7, none⟩ = some (.int .i64 frm) := hH.cell rfl
  have k8 : wc.cell? ⟨h, 8, none⟩ = some (.int .i64 upto) := hH.cell rfl
  have k9 : wc.cell? ⟨h, 9, none⟩ = some (.int .i64 til) := hH.cell rfl
  have k10 : wc.cell? ⟨h, 10, none⟩ = some (v) := hH.cell rfl
  have z0 : wc.cell? ⟨z, 0, none⟩ = some (strV nm) := hZ.cell rfl
  have z1 : wc.cell? ⟨z, 1, none⟩ = some (.int .i64 (ct : Int)) := hZ.cell rfl
  have z2 : wc.cell? ⟨z, 2, none⟩ = some (.int .i64 ber) := hZ.cell rfl
  have z3 : wc.cell? ⟨z, 3, none⟩ = some (.bool lv) := hZ.cell rfl
  go_wp2_with fail
  refine (HF.out _).mono ?_
  rintro e w2 ⟨rfl, hb2⟩
  cases f
  · obtain rfl : r = false := HR.out
    go_wp2_with fail
    go_ret
    exact ⟨rfl, hbw.trans (hb2.mono hbw.size)⟩
  · obtain ⟨s, hs⟩ : ∃ s, s = srvB (higC x.cats) ct q := ⟨_, rfl⟩
    rw [← hs] at HM HR
    obtain rfl : r = s := by rw [HR.out]; rfl
    clear hs
    replace hG := hG.bel hb2
    replace hH := hH.bel hb2
    replace hZ := hZ.bel hb2
    replace hbw := hbw.trans (hb2.mono hbw.size)
    clear hb2 k0 k1 k2 k3 k4 k5 k6 k7 k8 k9 k10 z0 z1 z2 z3
    have g0 : w2.cell? ⟨g, 0, none⟩ = some (.int .i64 x.legs) := hG.cell rfl
    have g1 : w2.cell? ⟨g, 1, none⟩ = some (.int .i64 x.souls) := hG.cell rfl
    have g2 : w2.cell? ⟨g, 2, none⟩ = some (.slice A n cap) := hG.cell rfl
    have g3 : w2.cell? ⟨g, 3, none⟩ = some (.slice (some ⟨b, off, none⟩) m cap2) := hG.cell rfl
    have z1 : w2.cell? ⟨z, 1, none⟩ = some (.int .i64 (ct : Int)) := hZ.cell rfl
    have h6 : w2.cell? ⟨h, 6, none⟩ = some (.int .i64 (q : Int)) := hH.cell rfl
    have hcall := HM.out w2 (HC.out.bel hbw)
    have HCALL := Lib.hid hcall
    clear hcall
    go_wp2_with fail
    refine HCALL.out.mono ?_
    rintro e w3 ⟨rfl, hb3⟩
    go_wp2_with fail
    go_ret
    exact ⟨rfl, hbw.trans (hb3.mono hbw.size)⟩
end Go.Proofs.YtoilcdgpeilgaaaGreat
namespace Go.Proofs.YtoilcdgpeilgaaaGreat
open Go.RowKit Go.Shelf
theorem wrap_len {m : Nat} (h : m ≤ 9223372036854775807) : IntKind.i64.wrap ((m : Int) - 1) = (m : Int) - 1 := by rw [IntKind.wrap_i64]; omega
set_option maxRecDepth 100000 in
set_option maxHeartbeats 4000000 in
theorem named_any (x : Shp) (A : Option Addr) (n cap : Nat) (B : Option Addr) (m cap2 : Nat) (b : Bkg) (v : Value) (w : World) (hb : Sl cabC 4 w All B m cap2 x.cabs) :
    Calls Tryz.prog 184 #[.agg #[.int .i64 x.legs, .int .i64 x.souls, .slice A n cap, .slice B m cap2], .agg (bkgA b v)] w fun e w' => e = .returned (.int .i64 (namedE x b)) ∧ Below w.heap.size w w' := by
  obtain ⟨id, kind, state, gst, lev, cab, cat, frm, upto, til, fol⟩ := b
  obtain ⟨r, hr⟩ : ∃ r, r = namedE x ⟨id, kind, state, gst, lev, cab, cat, frm, upto, til, fol⟩ := ⟨_, rfl⟩
  rw [← hr]
  obtain ⟨q1, hq1⟩ : ∃ q, q = betB cab 0 ((m : Int) - 1) := ⟨_, rfl⟩
  have HR := Lib.hid (show r = if q1 = false then 3 else if cat ≠ 0 then 1 else if fitB (cabAt x cab) ⟨id, kind, state, gst, lev, cab, cat, frm, upto, til, fol⟩ = false then 4 else 0 by rw [hr, hq1, ← hb.len]; rfl)
  have hwr := wrap_len hb.bd
  have hw1 := fun W => bwithin_any cab 0 ((m : Int) - 1) W
  rw [← hq1] at hw1
  have HB := Lib.hid hb
  have HQ := Lib.hid hq1
  clear hq1
  clear hr hb
  go_enter Tryz.func184, Tryz.ntmps184
  go_upto_region 0 with (fail)
  go_cut [2, 3, 4] (fun p p2 _ wx => ∃ g h, p = .pointer (some ⟨g, 0, none⟩) ∧ p2 = .pointer (some ⟨h, 0, none⟩) ∧ Blk wx g #[.int .i64 x.legs, .int .i64 x.souls, .slice A n cap, .slice B m cap2] 25 ∧ Blk wx h (bkgA ⟨id, kind, state, gst, lev, cab, cat, frm, upto, til, fol⟩ v) 37 ∧ Below w.heap.size w wx)
  case first => as_aux_lemma =>
    go_wp2_with fail
    go_meet
    exact ⟨_, _, rfl, rfl, blk2_0 _ _ _, blk2_1 _ _ _, bel2 _ _ _⟩
  obtain ⟨g, h, rfl, rfl, hG, hH, hbw⟩ := hcut
  have g3 : wc.cell? ⟨g, 3, none⟩ = some (.slice B m cap2) := hG.cell rfl
  have k0 : wc.cell? ⟨h, 0, none⟩ = some (.int .i64 id) := hH.cell rfl
  have k1 : wc.cell? ⟨h, 1, none⟩ = some (.int .i64 kind) := hH.cell rfl
  have k2 : wc.cell? ⟨h, 2, none⟩ = some (.int .i64 state) := hH.cell rfl
  have k3 : wc.cell? ⟨h, 3, none⟩ = some (.int .i64 gst) := hH.cell rfl
  have k4 : wc.cell? ⟨h, 4, none⟩ = some (.bool lev) := hH.cell rfl
  have k5 : wc.cell? ⟨h, 5, none⟩ = some (.int .i64 cab) := hH.cell rfl
  have k6 : wc.cell? ⟨h, 6, none⟩ = some (.int .i64 cat) := hH.cell rfl
  have k7 : wc.cell? ⟨h, 7, none⟩ = some (.int .i64 frm) := hH.cell rfl
  have k8 : wc.cell? ⟨h, 8, none⟩ = some (.int .i64 upto) := hH.cell rfl
  have k9 : wc.cell? ⟨h, 9, none⟩ = some (.int .i64 til) := hH.cell rfl
  have k10 : wc.cell? ⟨h, 10, none⟩ = some (v) := hH.cell rfl
  cases q1
  · obtain rfl : r = 3 := by rw [HR.out, if_pos rfl]
    go_wp2_with fail
    refine (hw1 _).mono ?_
    rintro e w9 ⟨rfl, rfl⟩
    go_wp2_with fail
    go_ret
    exact ⟨rfl, hbw⟩
  have hcb := betB_iff.1 HQ.out.symm
  obtain ⟨k, rfl⟩ : ∃ k : Nat, cab = k := ⟨cab.toNat, by omega⟩
  have hk : k < m := by omega
  by_cases hcat : cat = 0
  · subst hcat
    obtain ⟨b, off, nm, ct, ber, lv, hB, hx, e0, e1, e2, e3⟩ := (HB.out.bel hbw).cab hk
    subst hB
    have hf : cabAt x k = ⟨nm, ct, ber, lv⟩ := hx
    have HF := Lib.hid (fun W => bFits_any ⟨nm, ct, ber, lv⟩ ⟨id, kind, state, gst, lev, k, 0, frm, upto, til, fol⟩ v W)
    obtain ⟨f, hff⟩ : ∃ f, f = fitB ⟨nm, ct, ber, lv⟩ ⟨id, kind, state, gst, lev, k, 0, frm, upto, til, fol⟩ := ⟨_, rfl⟩
    have HR2 := Lib.hid (show r = if f = false then 4 else 0 by rw [HR.out, if_neg (by simp), if_neg (by simp), hf, hff])
    rw [← hff] at HF
    clear HR hx hf hff HQ hcb
    have hk0 : (0 : Int) ≤ (k : Int) := Int.natCast_nonneg _
    have hk1 : (k : Int) < (m : Int) := by omega
    go_wp2_with fail
    refine (hw1 _).mono ?_
    rintro e w9 ⟨rfl, rfl⟩
    go_wp2_with fail
    go_upto_region 5 with (fail)
    go_cut [18] (fun t wx => t = .bool (!f) ∧ Below wc.heap.size wc wx)
    case first => as_aux_lemma =>
      go_region_with (go_at_call 239; refine (HF.out _).mono ?_; rintro e wn ⟨rfl, hbn⟩)
      all_goals
        go_wp2_with fail
        go_meet
        exact ⟨rfl, (Below.refl _ _).drew.trans hbn⟩
    obtain ⟨rfl, hb4⟩ := hcut
    cases f
    · obtain rfl : r = 4 := HR2.out
      go_wp2_with fail
      go_ret
      exact ⟨rfl, hbw.trans (hb4.mono hbw.size)⟩
    · obtain rfl : r = 0 := HR2.out
      go_wp2_with fail
      go_ret
      exact ⟨rfl, hbw.trans (hb4.mono hbw.size)⟩
  · obtain rfl : r = 1 := by rw [HR.out, if_neg (by simp), if_pos hcat]
    have h0' : (cat != 0) = true := by simpa using hcat
    clear hcat
    go_wp2_with fail
    refine (hw1 _).mono ?_
    rintro e w9 ⟨rfl, rfl⟩
    go_wp2_with fail
    go_ret
    exact ⟨rfl, hbw⟩
set_option maxRecDepth 100000 in
set_option maxHeartbeats 4000000 in
theorem promise_any (x : Shp) (A : Option Addr) (n cap : Nat) (B : Option Addr) (m cap2 : Nat) (b : Bkg) (v : Value) (w : World) (hc : Sl catC 2 w All A n cap x.cats) (hb : Sl cabC 4 w All B m cap2 x.cabs) (ho : OkShp x) :
    Calls Tryz.prog 185 #[.agg #[.int .i64 x.legs, .int .i64 x.souls, .slice A n cap, .slice B m cap2], .agg (bkgA b v)] w fun e w' => e = .returned (.int .i64 (promE x b)) ∧ Below w.heap.size w w' := by
  obtain ⟨id, kind, state, gst, lev, cab, cat, frm, upto, til, fol⟩ := b
  obtain ⟨r, hr⟩ : ∃ r, r = promE x ⟨id, kind, state, gst, lev, cab, cat, frm, upto, til, fol⟩ := ⟨_, rfl⟩
  rw [← hr]
  obtain ⟨q1, hq1⟩ : ∃ q, q = betB cat 0 ((n : Int) - 1) := ⟨_, rfl⟩
  obtain ⟨q2, hq2⟩ : ∃ q, q = decide ((⟨frm, upto⟩ : Span) ≠ ⟨0, x.legs⟩) := ⟨_, rfl⟩
  obtain ⟨q3, hq3⟩ : ∃ q, q = betB cab (-1) ((m : Int) - 1) := ⟨_, rfl⟩
  have HR := Lib.hid (show r = if q1 = false then 3 else if q2 = true then 4 else if q3 = false then 3 else if 0 ≤ cab ∧ eligB x ⟨id, kind, state, gst, lev, cab, cat, frm, upto, til, fol⟩ cab = false then 4 else 0 by
    rw [hr, hq1, hq2, hq3, ← hb.len, ← hc.len]
    unfold promE
    congr 1
    have hspan : (frm ≠ 0 ∨ upto ≠ x.legs) ↔ decide ((⟨frm, upto⟩ : Span) ≠ ⟨0, x.legs⟩) = true := by rw [decide_eq_true_iff]; simp only [ne_eq, Span.mk.injEq]; omega
    simp only [hspan])
  have hwr := wrap_len hb.bd
  have hwr2 := wrap_len hc.bd
  have hw1 := fun W => bwithin_any cat 0 ((n : Int) - 1) W
  have hw3 := fun W => bwithin_any cab (-1) ((m : Int) - 1) W
  have hne := fun W => span_ne ⟨frm, upto⟩ ⟨0, x.legs⟩ W
  simp only at hne
  rw [← hq1] at hw1
  rw [← hq2] at hne
  rw [← hq3] at hw3
  have HEL := Lib.hid (fun (k : Nat) W h1 h2 h3 h4 h5 => Eligible_any x A n cap B m cap2 ⟨id, kind, state, gst, lev, cab, cat, frm, upto, til, fol⟩ v k W h1 h2 ho h3 h4 h5)
  have HB := Lib.hid hb
  have HC := Lib.hid hc
  have HQ1 := Lib.hid hq1
  clear hq1
  have HQ3 := Lib.hid hq3
  clear hq3
  clear hr hb hc hq2
  go_enter Tryz.func185, Tryz.ntmps185
  go_upto_region 0 with (fail)
  go_cut [2, 3, 4] (fun p p2 _ wx => ∃ g h, p = .pointer (some ⟨g, 0, none⟩) ∧ p2 = .pointer (some ⟨h, 0, none⟩) ∧ Blk wx g #[.int .i64 x.legs, .int .i64 x.souls, .slice A n cap, .slice B m cap2] 25 ∧ Blk wx h (bkgA ⟨id, kind, state, gst, lev, cab, cat, frm, upto, til, fol⟩ v) 37 ∧ Below w.heap.size w wx)
  case first => as_aux_lemma =>
    go_wp2_with fail
    go_meet
    exact ⟨_, _, rfl, rfl, blk2_0 _ _ _, blk2_1 _ _ _, bel2 _ _ _⟩
  obtain ⟨g, h, rfl, rfl, hG, hH, hbw⟩ := hcut
  have g0 : wc.cell? ⟨g, 0, none⟩ = some (.int .i64 x.legs) := hG.cell rfl
  have g1 : wc.cell? ⟨g, 1, none⟩ = some (.int .i64 x.souls) := hG.cell rfl
  have g2 : wc.cell? ⟨g, 2, none⟩ = some (.slice A n cap) := hG.cell rfl
  have g3 : wc.cell? ⟨g, 3, none⟩ = some (.slice B m cap2) := hG.cell rfl
  have k0 : wc.cell? ⟨h, 0, none⟩ = some (.int .i64 id) := hH.cell rfl
  have k1 : wc.cell? ⟨h, 1, none⟩ = some (.int .i64 kind) := hH.cell rfl
  have k2 : wc.cell? ⟨h, 2, none⟩ = some (.int .i64 state) := hH.cell rfl
  have k3 : wc.cell? ⟨h, 3, none⟩ = some (.int .i64 gst) := hH.cell rfl
  have k4 : wc.cell? ⟨h, 4, none⟩ = some (.bool lev) := hH.cell rfl
  have k5 : wc.cell? ⟨h, 5, none⟩ = some (.int .i64 cab) := hH.cell rfl
  have k6 : wc.cell? ⟨h, 6, none⟩ = some (.int .i64 cat) := hH.cell rfl
  have k7 : wc.cell? ⟨h, 7, none⟩ = some (.int .i64 frm) := hH.cell rfl
  have k8 : wc.cell? ⟨h, 8, none⟩ = some (.int .i64 upto) := hH.cell rfl
  have k9 : wc.cell? ⟨h, 9, none⟩ = some (.int .i64 til) := hH.cell rfl
  have k10 : wc.cell? ⟨h, 10, none⟩ = some (v) := hH.cell rfl
  go_wp2_with fail
  refine (hw1 _).mono ?_
  rintro e w9 ⟨rfl, rfl⟩
  cases q1
  · obtain rfl : r = 3 := by rw [HR.out, if_pos rfl]
    go_wp2_with fail
    go_ret
    exact ⟨rfl, hbw⟩
  have hcb := betB_iff.1 HQ1.out.symm
  cases q2
  rotate_left
  · obtain rfl : r = 4 := by rw [HR.out, if_neg (by simp), if_pos rfl]
    clear hcb
    go_wp2_with fail
    go_ret
    exact ⟨rfl, hbw⟩
  go_wp2_with fail
  refine (hw3 _).mono ?_
  rintro e w9 ⟨rfl, rfl⟩
  cases q3
  · obtain rfl : r = 3 := by rw [HR.out, if_neg (by simp), if_neg (by simp), if_pos rfl]
    clear hcb
    go_wp2_with fail
    go_ret
    exact ⟨rfl, hbw⟩
  have hcm := betB_iff.1 HQ3.out.symm
  by_cases h0 : 0 ≤ cab
  · obtain ⟨k, rfl⟩ : ∃ k : Nat, cab = k := ⟨cab.toNat, by omega⟩
    have HCALL := Lib.hid (HEL.out k wc (HC.out.bel hbw) (HB.out.bel hbw) (by omega) hcb.1 (by have := hcb.2; omega))
    obtain ⟨f, hf⟩ : ∃ f, f = eligB x ⟨id, kind, state, gst, lev, k, cat, frm, upto, til, fol⟩ k := ⟨_, rfl⟩
    have HR2 := Lib.hid (show r = if f = false then 4 else 0 by
      rw [HR.out, if_neg (by simp), if_neg (by simp), if_neg (by simp), ← hf]
      cases f <;> simp <;> omega)
    rw [← hf] at HCALL
    clear HR hf hcb hcm HQ1 HQ3
    go_wp2_with fail
    refine HCALL.out.mono ?_
    rintro e wn ⟨rfl, hb4⟩
    cases f
    · obtain rfl : r = 4 := HR2.out
      go_wp2_with fail
      go_ret
      exact ⟨rfl, hbw.trans (hb4.mono hbw.size)⟩
    · obtain rfl : r = 0 := HR2.out
      go_wp2_with fail
      go_ret
      exact ⟨rfl, hbw.trans (hb4.mono hbw.size)⟩
  · obtain rfl : r = 0 := by rw [HR.out, if_neg (by simp), if_neg (by simp), if_neg (by simp), if_neg (fun h => h0 h.1)]
    have h1 : cab < 0 := by omega
    clear hcb hcm
    go_wp2_with fail
    go_ret
    exact ⟨rfl, hbw⟩
end Go.Proofs.YtoilcdgpeilgaaaGreat
namespace Go.Proofs.YtoilcdgpeilgaaaGreat
open Go.RowKit Go.Shelf
theorem of_line (x : Shp) (id kind state gst : Int) (lev : Bool) (cab cat frm upto til : Int) (fol : List Entry) : ofE x ⟨id, kind, state, gst, lev, cab, cat, frm, upto, til, fol⟩ = if (betB kind 1 2 && betB state 1 3) = false then 7 else if (betB id 1 999999 && betB gst 1 4) = false then 3 else if spanE ⟨frm, upto⟩ x.legs ≠ 0 then spanE ⟨frm, upto⟩ x.legs
  else if kindE x ⟨id, kind, state, gst, lev, cab, cat, frm, upto, til, fol⟩ ≠ 0 then kindE x ⟨id, kind, state, gst, lev, cab, cat, frm, upto, til, fol⟩ else if betB til 0 9999 = false then 3 else if til ≠ 0 ∧ state ≠ 1 then 1 else checkFolio fol := rfl
set_option maxRecDepth 100000 in
set_option maxHeartbeats 8000000 in
theorem bookOf_any (x : Shp) (A : Option Addr) (n cap : Nat) (B : Option Addr) (m cap2 : Nat) (b : Bkg) (A3 : Option Addr) (n3 c3 : Nat) (w : World) (hc : Sl catC 2 w All A n cap x.cats) (hb : Sl cabC 4 w All B m cap2 x.cabs) (ho : OkShp x) (hf : Sl entryC 3 w All A3 n3 c3 b.fol) :
    Calls Tryz.prog 104 #[.agg #[.int .i64 x.legs, .int .i64 x.souls, .slice A n cap, .slice B m cap2], .agg (bkgA b (.slice A3 n3 c3))] w fun e w' => e = .returned (.int .i64 (ofE x b)) ∧ Below w.heap.size w w' := by
  obtain ⟨id, kind, state, gst, lev, cab, cat, frm, upto, til, fol⟩ := b
  simp only at hf
  obtain ⟨r, hr⟩ : ∃ r, r = ofE x ⟨id, kind, state, gst, lev, cab, cat, frm, upto, til, fol⟩ := ⟨_, rfl⟩
  rw [← hr]
  rw [of_line] at hr
  have hk1 := fun W => bwithin_any kind 1 2 W
  have hk2 := fun W => bwithin_any state 1 3 W
  have hi1 := fun W => bwithin_any id 1 999999 W
  have hi2 := fun W => bwithin_any gst 1 4 W
  have ht1 := fun W => bwithin_any til 0 9999 W
  have hsp := fun W => spanCheck_any frm upto x.legs W
  have HNA := Lib.hid (fun W h => named_any x A n cap B m cap2 ⟨id, kind, state, gst, lev, cab, cat, frm, upto, til, fol⟩ (.slice A3 n3 c3) W h)
  have HPR := Lib.hid (fun W h1 h2 => promise_any x A n cap B m cap2 ⟨id, kind, state, gst, lev, cab, cat, frm, upto, til, fol⟩ (.slice A3 n3 c3) W h1 h2 ho)
  have HFO := Lib.hid (fun W h => Check_any A3 n3 c3 fol W h)
  obtain ⟨k1, e1⟩ : ∃ q, q = betB kind 1 2 := ⟨_, rfl⟩
  obtain ⟨k2, e2⟩ : ∃ q, q = betB state 1 3 := ⟨_, rfl⟩
  obtain ⟨i1, e3⟩ : ∃ q, q = betB id 1 999999 := ⟨_, rfl⟩
  obtain ⟨i2, e4⟩ : ∃ q, q = betB gst 1 4 := ⟨_, rfl⟩
  obtain ⟨t1, e5⟩ : ∃ q, q = betB til 0 9999 := ⟨_, rfl⟩
  obtain ⟨se, e6⟩ : ∃ q, q = spanE ⟨frm, upto⟩ x.legs := ⟨_, rfl⟩
  obtain ⟨fe, e7⟩ : ∃ q, q = checkFolio fol := ⟨_, rfl⟩
  rw [← e1] at hk1
  rw [← e2] at hk2
  rw [← e3] at hi1
  rw [← e4] at hi2
  rw [← e5] at ht1
  rw [← e6] at hsp
  rw [← e7] at HFO
  rw [← e1, ← e2, ← e3, ← e4, ← e5, ← e6, ← e7] at hr
  have HR := Lib.hid hr
  clear hr
  have HK2 := Lib.hid e2
  clear e2
  have HB := Lib.hid hb
  have HC := Lib.hid hc
  have HF := Lib.hid hf
  clear hb hc hf e1 e3 e4 e5 e6 e7
  go_enter Tryz.func104, Tryz.ntmps104
  go_upto_region 0 with (fail)
  go_cut [2, 3, 4] (fun p p2 _ wx => ∃ g h, p = .pointer (some ⟨g, 0, none⟩) ∧ p2 = .pointer (some ⟨h, 0, none⟩) ∧ Blk wx g #[.int .i64 x.legs, .int .i64 x.souls, .slice A n cap, .slice B m cap2] 25 ∧ Blk wx h (bkgA ⟨id, kind, state, gst, lev, cab, cat, frm, upto, til, fol⟩ (.slice A3 n3 c3)) 37 ∧ Below w.heap.size w wx)
  case first => as_aux_lemma =>
    go_wp2_with fail
    go_meet
    exact ⟨_, _, rfl, rfl, blk2_0 _ _ _, blk2_1 _ _ _, bel2 _ _ _⟩
  obtain ⟨g, h, rfl, rfl, hG, hH, hbw⟩ := hcut
  have g0 : wc.cell? ⟨g, 0, none⟩ = some (.int .i64 x.legs) := hG.cell rfl
  have g1 : wc.cell? ⟨g, 1, none⟩ = some (.int .i64 x.souls) := hG.cell rfl
  have g2 : wc.cell? ⟨g, 2, none⟩ = some (.slice A n cap) := hG.cell rfl
  have g3 : wc.cell? ⟨g, 3, none⟩ = some (.slice B m cap2) := hG.cell rfl
  have z0 : wc.cell? ⟨h, 0, none⟩ = some (.int .i64 id) := hH.cell rfl
  have z1 : wc.cell? ⟨h, 1, none⟩ = some (.int .i64 kind) := hH.cell rfl
  have z2 : wc.cell? ⟨h, 2, none⟩ = some (.int .i64 state) := hH.cell rfl
  have z3 : wc.cell? ⟨h, 3, none⟩ = some (.int .i64 gst) := hH.cell rfl
  have z4 : wc.cell? ⟨h, 4, none⟩ = some (.bool lev) := hH.cell rfl
  have z5 : wc.cell? ⟨h, 5, none⟩ = some (.int .i64 cab) := hH.cell rfl
  have z6 : wc.cell? ⟨h, 6, none⟩ = some (.int .i64 cat) := hH.cell rfl
  have z7 : wc.cell? ⟨h, 7, none⟩ = some (.int .i64 frm) := hH.cell rfl
  have z8 : wc.cell? ⟨h, 8, none⟩ = some (.int .i64 upto) := hH.cell rfl
  have z9 : wc.cell? ⟨h, 9, none⟩ = some (.int .i64 til) := hH.cell rfl
  have z10 : wc.cell? ⟨h, 10, none⟩ = some ((.slice A3 n3 c3)) := hH.cell rfl
  go_wp2_with fail
  refine (hk1 _).mono ?_
  rintro e w9 ⟨rfl, rfl⟩
  cases k1
  · obtain rfl : r = 7 := HR.out.trans (if_pos (by simp))
    go_wp2_with fail
    go_ret
    exact ⟨rfl, hbw⟩
  go_wp2_with fail
  refine (hk2 _).mono ?_
  rintro e w9 ⟨rfl, rfl⟩
  cases k2
  · obtain rfl : r = 7 := HR.out.trans (if_pos (by simp))
    go_wp2_with fail
    go_ret
    exact ⟨rfl, hbw⟩
  have HR1 := Lib.hid (HR.out.trans (if_neg (by simp)))
  clear HR
  go_wp2_with fail
  refine (hi1 _).mono ?_
  rintro e w9 ⟨rfl, rfl⟩
  cases i1
  · obtain rfl : r = 3 := HR1.out.trans (if_pos (by simp))
    go_wp2_with fail
    go_ret
    exact ⟨rfl, hbw⟩
  go_wp2_with fail
  refine (hi2 _).mono ?_
  rintro e w9 ⟨rfl, rfl⟩
  cases i2
  · obtain rfl : r = 3 := HR1.out.trans (if_pos (by simp))
    go_wp2_with fail
    go_ret
    exact ⟨rfl, hbw⟩
  have HR2 := Lib.hid (HR1.out.trans (if_neg (by simp)))
  clear HR1
  go_wp2_with fail
  refine (hsp _).mono ?_
  rintro e w2 ⟨rfl, hb2⟩
  replace hG := hG.bel hb2
  replace hH := hH.bel hb2
  replace hbw := hbw.trans (hb2.mono hbw.size)
  clear hb2 g0 g1 g2 g3 z0 z1 z2 z3 z4 z5 z6 z7 z8 z9 z10
  by_cases hse : se = 0
  rotate_left
  · obtain rfl : r = se := by rw [HR2.out, if_pos hse]
    have h0' : (r != 0) = true := by simpa using hse
    clear hse
    go_wp2_with fail
    go_ret
    exact ⟨rfl, hbw⟩
  subst hse
  have HR3 := Lib.hid (HR2.out.trans (if_neg (by simp)))
  clear HR2
  have g0 : w2.cell? ⟨g, 0, none⟩ = some (.int .i64 x.legs) := hG.cell rfl
  have g1 : w2.cell? ⟨g, 1, none⟩ = some (.int .i64 x.souls) := hG.cell rfl
  have g2 : w2.cell? ⟨g, 2, none⟩ = some (.slice A n cap) := hG.cell rfl
  have g3 : w2.cell? ⟨g, 3, none⟩ = some (.slice B m cap2) := hG.cell rfl
  have z0 : w2.cell? ⟨h, 0, none⟩ = some (.int .i64 id) := hH.cell rfl
  have z1 : w2.cell? ⟨h, 1, none⟩ = some (.int .i64 kind) := hH.cell rfl
  have z2 : w2.cell? ⟨h, 2, none⟩ = some (.int .i64 state) := hH.cell rfl
  have z3 : w2.cell? ⟨h, 3, none⟩ = some (.int .i64 gst) := hH.cell rfl
  have z4 : w2.cell? ⟨h, 4, none⟩ = some (.bool lev) := hH.cell rfl
  have z5 : w2.cell? ⟨h, 5, none⟩ = some (.int .i64 cab) := hH.cell rfl
  have z6 : w2.cell? ⟨h, 6, none⟩ = some (.int .i64 cat) := hH.cell rfl
  have z7 : w2.cell? ⟨h, 7, none⟩ = some (.int .i64 frm) := hH.cell rfl
  have z8 : w2.cell? ⟨h, 8, none⟩ = some (.int .i64 upto) := hH.cell rfl
  have z9 : w2.cell? ⟨h, 9, none⟩ = some (.int .i64 til) := hH.cell rfl
  have z10 : w2.cell? ⟨h, 10, none⟩ = some ((.slice A3 n3 c3)) := hH.cell rfl
  have HCALL := Lib.hid (HNA.out w2 (HB.out.bel hbw))
  go_wp2_with fail
  refine HCALL.out.mono ?_
  rintro e w3 ⟨rfl, hb2⟩
  replace hG := hG.bel hb2
  replace hH := hH.bel hb2
  replace hbw := hbw.trans (hb2.mono hbw.size)
  clear hb2 g0 g1 g2 g3 z0 z1 z2 z3 z4 z5 z6 z7 z8 z9 z10 HCALL HNA
  have g0 : w3.cell? ⟨g, 0, none⟩ = some (.int .i64 x.legs) := hG.cell rfl
  have g1 : w3.cell? ⟨g, 1, none⟩ = some (.int .i64 x.souls) := hG.cell rfl
  have g2 : w3.cell? ⟨g, 2, none⟩ = some (.slice A n cap) := hG.cell rfl
  have g3 : w3.cell? ⟨g, 3, none⟩ = some (.slice B m cap2) := hG.cell rfl
  have z0 : w3.cell? ⟨h, 0, none⟩ = some (.int .i64 id) := hH.cell rfl
  have z1 : w3.cell? ⟨h, 1, none⟩ = some (.int .i64 kind) := hH.cell rfl
  have z2 : w3.cell? ⟨h, 2, none⟩ = some (.int .i64 state) := hH.cell rfl
  have z3 : w3.cell? ⟨h, 3, none⟩ = some (.int .i64 gst) := hH.cell rfl
  have z4 : w3.cell? ⟨h, 4, none⟩ = some (.bool lev) := hH.cell rfl
  have z5 : w3.cell? ⟨h, 5, none⟩ = some (.int .i64 cab) := hH.cell rfl
  have z6 : w3.cell? ⟨h, 6, none⟩ = some (.int .i64 cat) := hH.cell rfl
  have z7 : w3.cell? ⟨h, 7, none⟩ = some (.int .i64 frm) := hH.cell rfl
  have z8 : w3.cell? ⟨h, 8, none⟩ = some (.int .i64 upto) := hH.cell rfl
  have z9 : w3.cell? ⟨h, 9, none⟩ = some (.int .i64 til) := hH.cell rfl
  have z10 : w3.cell? ⟨h, 10, none⟩ = some ((.slice A3 n3 c3)) := hH.cell rfl
  obtain ⟨ke, hke⟩ : ∃ q, q = kindE x ⟨id, kind, state, gst, lev, cab, cat, frm, upto, til, fol⟩ := ⟨_, rfl⟩
  have HR4 := Lib.hid (HR3.out)
  rw [← hke] at HR4
  obtain ⟨kn, hkn⟩ : ∃ q, q = namedE x ⟨id, kind, state, gst, lev, cab, cat, frm, upto, til, fol⟩ := ⟨_, rfl⟩
  rw [← hkn]
  have HKE := Lib.hid hke
  clear hke
  have HKN := Lib.hid hkn
  clear hkn
  clear HR3
  go_upto_if 42 with (fail)
  obtain ⟨w4, hw4⟩ : ∃ W, W = w3 := ⟨_, rfl⟩
  subst hw4
  go_cut [6] (fun p wx => p = .int .i64 ke ∧ Below w4.heap.size w4 wx)
  case first => as_aux_lemma =>
    by_cases hkd : kind = 2
    · subst hkd
      have hke : ke = promE x ⟨id, 2, state, gst, lev, cab, cat, frm, upto, til, fol⟩ := HKE.out
      have HCALL := Lib.hid (HPR.out _ (HC.out.bel hbw) (HB.out.bel hbw))
      rw [← hke] at HCALL
      clear hke
      go_wp2_with fail
      refine HCALL.out.mono ?_
      rintro e w5 ⟨rfl, hb5⟩
      go_wp2_with fail
      go_meet
      exact ⟨rfl, hb5⟩
    · obtain rfl : ke = kn := by rw [HKE.out, HKN.out]; unfold kindE; rw [if_neg hkd]
      have h0' : (kind == 2) = false := by simpa using hkd
      clear hkd
      go_wp2_with fail
      go_meet
      exact ⟨rfl, Below.refl _ _⟩
  obtain ⟨rfl, hb5⟩ := hcut
  replace hG := hG.bel hb5
  replace hH := hH.bel hb5
  replace hbw := hbw.trans (hb5.mono hbw.size)
  clear hb5 g0 g1 g2 g3 z0 z1 z2 z3 z4 z5 z6 z7 z8 z9 z10 HKE HKN HPR
  by_cases hk0 : ke = 0
  rotate_left
  · obtain rfl : r = ke := by rw [HR4.out, if_pos hk0]
    have h0' : (r != 0) = true := by simpa using hk0
    clear hk0
    go_wp2_with fail
    go_ret
    exact ⟨rfl, hbw⟩
  subst hk0
  have HR5 := Lib.hid (HR4.out.trans (if_neg (by simp)))
  clear HR4
  have z2 : wc.cell? ⟨h, 2, none⟩ = some (.int .i64 state) := hH.cell rfl
  have z9 : wc.cell? ⟨h, 9, none⟩ = some (.int .i64 til) := hH.cell rfl
  have z10 : wc.cell? ⟨h, 10, none⟩ = some (.slice A3 n3 c3) := hH.cell rfl
  go_wp2_with fail
  refine (ht1 _).mono ?_
  rintro e w9 ⟨rfl, rfl⟩
  cases t1
  · obtain rfl : r = 3 := HR5.out.trans (if_pos (by simp))
    go_wp2_with fail
    go_ret
    exact ⟨rfl, hbw⟩
  have HR6 := Lib.hid (HR5.out.trans (if_neg (by simp)))
  clear HR5
  have HCALL := Lib.hid (HFO.out _ (HF.out.bel hbw))
  by_cases h1 : til = 0
  · obtain rfl : r = fe := by rw [HR6.out, if_neg (fun h => h.1 h1)]
    subst h1
    go_wp2_with fail
    refine HCALL.out.mono ?_
    rintro e w6 ⟨rfl, hb6⟩
    go_wp2_with fail
    go_ret
    exact ⟨rfl, hbw.trans (hb6.mono hbw.size)⟩
  have h1' : (til != 0) = true := by simpa using h1
  by_cases h2 : state = 1
  · obtain rfl : r = fe := by rw [HR6.out, if_neg (fun h => h.2 h2)]
    subst h2
    clear h1
    go_wp2_with fail
    refine HCALL.out.mono ?_
    rintro e w6 ⟨rfl, hb6⟩
    go_wp2_with fail
    go_ret
    exact ⟨rfl, hbw.trans (hb6.mono hbw.size)⟩
  · obtain rfl : r = 1 := by rw [HR6.out, if_pos ⟨h1, h2⟩]
    have h2' : (state != 1) = true := by simpa using h2
    clear h1 h2
    go_wp2_with fail
    go_ret
    exact ⟨rfl, hbw⟩
end Go.Proofs.YtoilcdgpeilgaaaGreat
namespace Go.Proofs.YtoilcdgpeilgaaaGreat
open Go.RowKit Go.Shelf
theorem Sl.bkg {w : World} {S : Nat → Prop} {A : Option Addr} {n cap : Nat} {l : List Bkg} (h : Sl bkgC 11 w S A n cap l) {k : Nat} (hk : k < n) : ∃ (b off : Nat) (x : Bkg) (A3 : Option Addr) (n3 c3 : Nat), A = some ⟨b, off, none⟩ ∧ l[k]? = some x ∧ Sl entryC 3 w S A3 n3 c3 x.fol ∧ BkIn x ∧
    ∀ j u, (bkgA x (.slice A3 n3 c3)).toList[j]? = some u → w.cell? ⟨b, off + k * 11 + j, none⟩ = some u := by
  have hl := h.len
  obtain ⟨b, off, cs, hA, _, hc, hlen, hcell⟩ := h.rd k (l[k]'(by omega)) (List.getElem?_eq_getElem (by omega))
  obtain ⟨A3, n3, c3, rfl, hF, hI⟩ := hc
  exact ⟨b, off, _, A3, n3, c3, hA, List.getElem?_eq_getElem (by omega), hF, hI, hcell⟩
end Go.Proofs.YtoilcdgpeilgaaaGreat
namespace Go.Proofs.YtoilcdgpeilgaaaGreat
open Go.RowKit Go.Shelf Go.Lib
open Go.Sort hiding Below Holds
theorem TakenCmp_any (x y : SmSpan) (W : World) : Calls Tryz.prog 223 #[.agg #[.int .i64 x.1.frm, .int .i64 x.1.upto], .agg #[.int .i64 y.1.frm, .int .i64 y.1.upto]] W fun e w' => e = .returned (.int .i64 (cmpSm x y)) ∧ ∃ q os', w' = Go.Sort.grow (W.drewN q) os' := by
  obtain ⟨⟨a, b⟩, h1, h2⟩ := x
  obtain ⟨⟨c, d⟩, h3, h4⟩ := y
  simp only at h1 h2 h3 h4
  have hs : wrap64 (a - c) = a - c := by unfold wrap64; omega
  go_enter Tryz.func223, Tryz.ntmps223
  go_wp2_with fail
  go_ret
  exact ⟨rfl, 0, _, by rw [Go.Sort.alloc_eq_grow, Go.Sort.alloc_eq_grow, Go.Sort.grow_grow]; rfl⟩
theorem Sort_taken {base g n cap : Nat} {l : List Span} {xs : List Value} {w : World} (h : Own spanC 2 34 w base (.slice (some ⟨g, 0, none⟩) n cap) l xs) (h12 : l.length ≤ 140737488355328) (hs : ∀ x ∈ l, -1000 ≤ x.frm ∧ x.frm ≤ 1000) :
    Calls Tryz.prog 222 #[.slice (some ⟨g, 0, none⟩) n cap, .func (.func 223) #[] #[]] w fun e w' => e = .returned (.tuple #[]) ∧
      ∃ l' xs', l'.Perm l ∧ l'.Pairwise (fun x y => x.frm ≤ y.frm) ∧ Own spanC 2 34 w' base (.slice (some ⟨g, 0, none⟩) n cap) l' xs' ∧ Kept (fun j => j = g) w w' := by
  obtain ⟨la, hla⟩ : ∃ la : List SmSpan, la.map Subtype.val = l := ⟨l.pmap (fun x hx => ⟨x, hx⟩) hs, by rw [List.map_pmap]; simp⟩
  have hlen : la.length = l.length := by rw [← hla]; simp
  have hrow := h.row
  have hn : n = l.length := by
    rcases hrow.2 with ⟨hv, _⟩ | ⟨g', cap', cur, hv, _⟩
    · cases hv
    · injection hv
  subst hn
  obtain ⟨cur, hb, hgg, hnc, hcm, hcs, htake⟩ : ∃ cur, base ≤ g ∧ w.heap[g]? = some (.cells cur 34 (0, 0)) ∧ l.length ≤ cap ∧ cap ≤ maxLen ∧ cur.size = cap * 2 ∧ cur.toList.take (l.length * 2) = xs := by
    rcases hrow.2 with ⟨hv, _⟩ | ⟨g', cap', cur, hv, r⟩
    · cases hv
    · simp only [Value.slice.injEq, Option.some.injEq, Addr.mk.injEq, and_true, true_and] at hv
      obtain ⟨rfl, rfl⟩ := hv
      exact ⟨cur, r⟩
  have hH : HoldsK encSm 2 w g 0 la.toArray := fun j hj => by
    rw [size_flatK] at hj
    have hj2 : j < la.length * 2 := by simpa using hj
    have hi : j / 2 < l.length := by omega
    obtain ⟨cs, hcc, hl, hcell, hfr⟩ := h.cells (List.getElem?_eq_getElem hi)
    obtain ⟨rfl, _⟩ := hcc
    refine ⟨?_, hfr _⟩
    have hji : j / 2 * 2 + j % 2 = j := by omega
    have hx : (la.toArray[j / 2]!).1 = l[j / 2] := by
      have h1 : j / 2 < la.length := by omega
      rw [getElem!_pos _ _ (by simpa using h1)]
      simp only [List.getElem_toArray]
      have : (la.map Subtype.val)[j / 2]'(by simpa using h1) = l[j / 2] := by simp only [hla]
      rw [List.getElem_map] at this
      exact this
    have hf := flat_at la.toArray (j / 2) (j % 2) (by simp; omega) (by omega)
    rw [hji] at hf
    show w.cell? ⟨g, 0 + j, none⟩ = some ((flatK encSm 2 la.toArray)[j]!)
    rw [Nat.zero_add, hf]
    unfold encSm encSp
    rw [hx]
    have hc := hcell (j % 2) (([Value.int .i64 (l[j / 2]).frm, .int .i64 (l[j / 2]).upto])[j % 2]!) (by
      have : j % 2 = 0 ∨ j % 2 = 1 := by omega
      rcases this with e | e <;> rw [e] <;> rfl)
    rw [hji] at hc
    exact hc
  have hcm := AnyQ.slices_SortFunc Tryz.sortSpan 2 Tryz.isAgg34 Tryz.sizeOf34 encSm (fun _ => rfl) (fun x v hv => by simp [encSm, encSp] at hv; rcases hv with rfl | rfl <;> rfl) cmpSm swoSm 223 #[] g 0 cap la.toArray w (enters_of Tryz.func223 (by kernel_rfl) rfl)
    (fun _ _ _ _ x y => TakenCmp_any x y _) hH (lt_of_block hgg) (by simp; omega)
  have e1 : la.toArray.size = l.length := by simpa using hlen
  rw [e1] at hcm
  refine Calls.mono hcm ?_
  rintro e w' ⟨rfl, d', q, os, ⟨hsz, _, hperm⟩, hsort, rfl⟩
  have hds : d'.size = l.length := by rw [hsz]; exact e1
  have hp : (d'.toList.map Subtype.val).Perm l := by
    rw [← hla]
    refine List.Perm.map _ ?_
    have h1 : (d'.extract 0 l.length).toList = d'.toList := by rw [← hds]; simp
    have h2 : (la.toArray.extract 0 l.length).toList = la := by rw [← hlen]; simp
    rw [h1, h2] at hperm
    exact hperm
  have hpl := hp.length_eq
  have hin : ∀ x ∈ l, InI x.frm ∧ InI x.upto := fun x hx => by
    obtain ⟨i, hi⟩ := List.getElem?_of_mem hx
    obtain ⟨_, hcc, _⟩ := h.cells hi
    exact hcc.2
  have hfl : (flatK encSm 2 d').size = l.length * 2 := by rw [size_flatK, hds]
  have hget : ∀ i (hi : i < d'.size) j, j < 2 → (flatK encSm 2 d').toList[i * 2 + j]? = some ((encSm d'[i])[j]!) := fun i hi j hj => by
    have hlt : i * 2 + j < (flatK encSm 2 d').size := by rw [hfl]; omega
    have := flat_at d' i j hi hj
    rw [getElem!_pos (flatK encSm 2 d') _ hlt, getElem!_pos d' i hi] at this
    rw [← this]
    simp
  refine ⟨rfl, d'.toList.map Subtype.val, (flatK encSm 2 d').toList, hp, ?_, ⟨⟨?_, .inr ⟨g, cap, _, ?_, hb, sortWorld_at hgg, ?_, ‹_›, ?_, ?_⟩⟩, ?_⟩, sortWorld_kept⟩
  · rw [List.pairwise_map, List.pairwise_iff_getElem]
    intro i j hi hj hij
    have h1 : i < d'.size := by simpa using hi
    have h2 : j < d'.size := by simpa using hj
    have := hsort i j (Nat.zero_le _) hij (by omega)
    rw [getElem!_pos d' i h1, getElem!_pos d' j h2] at this
    have : ¬ cmpSm d'[j] d'[i] < 0 := of_decide_eq_false this
    unfold cmpSm at this
    simp only [Array.getElem_toList]
    omega
  · rw [Array.length_toList, hfl, hpl]
  · rw [hpl]
  · rw [hpl]; exact hnc
  · simp [Go.Sort.putCells, hcs]
  · rw [hpl]
    refine List.ext_getElem? fun i => ?_
    rw [List.getElem?_take]
    by_cases hi : i < l.length * 2
    · rw [if_pos hi]
      have hlt : i < (flatK encSm 2 d').size := by rw [hfl]; exact hi
      have hlt2 : i < cur.size := by rw [hcs]; omega
      simp only [Go.Sort.putCells, Array.getElem?_toList, Array.getElem?_mapIdx]
      rw [Array.getElem?_eq_getElem hlt2, Array.getElem?_eq_getElem hlt]
      simp only [Option.map_some, Nat.zero_le, true_and, Nat.zero_add, Nat.sub_zero, if_pos hlt, id]
      rw [getElem!_pos (flatK encSm 2 d') _ hlt]
    · rw [if_neg hi, List.getElem?_eq_none (by rw [Array.length_toList, hfl]; omega)]
  · intro i x hx
    have hi : i < d'.size := by have := (List.getElem?_eq_some_iff.1 hx).1; simpa using this
    rw [List.getElem?_map, Array.getElem?_toList, Array.getElem?_eq_getElem hi] at hx
    simp only [Option.map_some, Option.some.injEq] at hx
    have hm : x ∈ l := hp.subset (List.mem_map.2 ⟨d'[i], by simp, hx⟩)
    refine ⟨[.int .i64 x.frm, .int .i64 x.upto], ⟨rfl, hin x hm⟩, rfl, fun j u hu => ?_⟩
    have hj : j < 2 := (List.getElem?_eq_some_iff.1 hu).1
    rw [hget i hi j hj, ← hu]
    unfold encSm encSp
    rw [hx]
    have : j = 0 ∨ j = 1 := by omega
    rcases this with rfl | rfl <;> rfl
theorem Sort_taken_none (p : Option Addr) (cap : Nat) (fv : Value) (w : World) : Calls Tryz.prog 222 #[.slice p 0 cap, fv] w fun e w' => e = .returned (.tuple #[]) ∧ w' = w :=
  AnyF.slices_SortFunc_none Tryz.sortSpan p cap fv w
end Go.Proofs.YtoilcdgpeilgaaaGreat
namespace Go.Proofs.YtoilcdgpeilgaaaGreat
open Go.RowKit Go.Shelf
set_option maxRecDepth 100000 in
theorem Live_any (b : Bkg) (v : Value) (w : World) : Calls Tryz.prog 124 #[.agg (bkgA b v)] w fun e w' => e = .returned (.bool (liveB b)) ∧ Below w.heap.size w w' := by
  obtain ⟨id, kind, state, gst, lev, cab, cat, frm, upto, til, fol⟩ := b
  by_cases h : state = 3
  · have HR := Lib.hid (show liveB ⟨id, kind, state, gst, lev, cab, cat, frm, upto, til, fol⟩ = false by unfold liveB; rw [decide_eq_true h]; rfl)
    subst h
    go_enter Tryz.func124, Tryz.ntmps124
    go_wp2_with fail
    go_ret
    exact ⟨retB (by rw [HR.out]), bel1 _ _⟩
  · have HR := Lib.hid (show liveB ⟨id, kind, state, gst, lev, cab, cat, frm, upto, til, fol⟩ = true by unfold liveB; rw [decide_eq_false h]; rfl)
    have h0' : (state != 3) = true := by simpa using h
    clear h
    go_enter Tryz.func124, Tryz.ntmps124
    go_wp2_with fail
    go_ret
    exact ⟨retB (by rw [HR.out]), bel1 _ _⟩
set_option maxRecDepth 100000 in
set_option maxHeartbeats 1000000 in
theorem Has_any (b : Bkg) (v : Value) (c : Int) (w : World) : Calls Tryz.prog 221 #[.agg (bkgA b v), .int .i64 c] w fun e w' => e = .returned (.bool (hasB c b)) ∧ Below w.heap.size w w' := by
  obtain ⟨id, kind, state, gst, lev, cab, cat, frm, upto, til, fol⟩ := b
  obtain ⟨r, hr⟩ : ∃ r, r = hasB c ⟨id, kind, state, gst, lev, cab, cat, frm, upto, til, fol⟩ := ⟨_, rfl⟩
  rw [← hr]
  have hL := fun W => Live_any ⟨id, kind, state, gst, lev, cab, cat, frm, upto, til, fol⟩ v W
  obtain ⟨q, hq⟩ : ∃ q, q = liveB ⟨id, kind, state, gst, lev, cab, cat, frm, upto, til, fol⟩ := ⟨_, rfl⟩
  rw [← hq] at hL
  have HR := Lib.hid (show r = (q && decide (cab = c)) by rw [hr, hq]; rfl)
  have HL := Lib.hid hL
  clear hL
  clear hr hq
  go_enter Tryz.func221, Tryz.ntmps221
  go_upto_region 0 with (fail)
  go_cut [2, 4] (fun p _ wx => ∃ h, p = .pointer (some ⟨h, 0, none⟩) ∧ Blk wx h (bkgA ⟨id, kind, state, gst, lev, cab, cat, frm, upto, til, fol⟩ v) 37 ∧ Below w.heap.size w wx)
  case first => as_aux_lemma =>
    go_wp2_with fail
    go_meet
    exact ⟨_, rfl, blk1 _ _, bel1 _ _⟩
  obtain ⟨h, rfl, hH, hbw⟩ := hcut
  have z0 : wc.cell? ⟨h, 0, none⟩ = some (.int .i64 id) := hH.cell rfl
  have z1 : wc.cell? ⟨h, 1, none⟩ = some (.int .i64 kind) := hH.cell rfl
  have z2 : wc.cell? ⟨h, 2, none⟩ = some (.int .i64 state) := hH.cell rfl
  have z3 : wc.cell? ⟨h, 3, none⟩ = some (.int .i64 gst) := hH.cell rfl
  have z4 : wc.cell? ⟨h, 4, none⟩ = some (.bool lev) := hH.cell rfl
  have z5 : wc.cell? ⟨h, 5, none⟩ = some (.int .i64 cab) := hH.cell rfl
  have z6 : wc.cell? ⟨h, 6, none⟩ = some (.int .i64 cat) := hH.cell rfl
  have z7 : wc.cell? ⟨h, 7, none⟩ = some (.int .i64 frm) := hH.cell rfl
  have z8 : wc.cell? ⟨h, 8, none⟩ = some (.int .i64 upto) := hH.cell rfl
  have z9 : wc.cell? ⟨h, 9, none⟩ = some (.int .i64 til) := hH.cell rfl
  have z10 : wc.cell? ⟨h, 10, none⟩ = some (v) := hH.cell rfl
  go_wp2_with fail
  refine (HL.out _).mono ?_
  rintro e w2 ⟨rfl, hb2⟩
  replace hH := hH.bel hb2
  replace hbw := hbw.trans (hb2.mono hbw.size)
  clear hb2 z0 z1 z2 z3 z4 z5 z6 z7 z8 z9 z10
  have z5 : w2.cell? ⟨h, 5, none⟩ = some (.int .i64 cab) := hH.cell rfl
  cases q
  · obtain rfl : r = false := HR.out
    go_wp2_with fail
    go_ret
    exact ⟨rfl, hbw⟩
  by_cases hcb : cab = c
  · obtain rfl : r = true := by rw [HR.out, decide_eq_true hcb]; rfl
    subst hcb
    go_wp2_with fail
    go_ret
    exact ⟨rfl, hbw⟩
  · obtain rfl : r = false := by rw [HR.out, decide_eq_false hcb]; rfl
    have h0' : (cab == c) = false := by simpa using hcb
    clear hcb
    go_wp2_with fail
    go_ret
    exact ⟨rfl, hbw⟩
def SpOk (l : List Bkg) : Prop := ∀ b ∈ l, OkSp ⟨b.frm, b.upto⟩
theorem spL_succ {l : List Bkg} {c : Int} {k : Nat} {b : Bkg} (h : l[k]? = some b) : spL (l.take (k + 1)) c = spL (l.take k) c ++ (if hasB c b = true then [⟨b.frm, b.upto⟩] else []) := by
  unfold spL
  rw [take_snoc h, List.filter_append, List.map_append]
  cases e : hasB c b <;> simp [e]
theorem spL_mem {l : List Bkg} {c : Int} {s : Span} (h : s ∈ spL l c) : ∃ b ∈ l, s = ⟨b.frm, b.upto⟩ := by
  unfold spL at h
  obtain ⟨b, hb, rfl⟩ := List.mem_map.1 h
  exact ⟨b, (List.mem_filter.1 hb).1, rfl⟩
theorem spL_ok {l : List Bkg} (h : SpOk l) {c : Int} : ∀ s ∈ spL l c, OkSp s := fun s hs => by
  obtain ⟨b, hb, rfl⟩ := spL_mem hs
  exact h b hb
theorem spL_len (l : List Bkg) (c : Int) : (spL l c).length ≤ l.length := by
  unfold spL
  rw [List.length_map]
  exact List.length_filter_le _ _
def takL (l : List Bkg) (c : Int) : List Span := (spF (spL l c)).getD []
def takB (l : List Bkg) (c : Int) : Bool := (spF (spL l c)).isSome
theorem tak_of {l : List Bkg} {c : Int} {out : List Span} (h : spF (spL l c) = some out) : takB l c = true ∧ takL l c = out := by
  unfold takB takL
  rw [h]
  exact ⟨rfl, rfl⟩
end Go.Proofs.YtoilcdgpeilgaaaGreat
