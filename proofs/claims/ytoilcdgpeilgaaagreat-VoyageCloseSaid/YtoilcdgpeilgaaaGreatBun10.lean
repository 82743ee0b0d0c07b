/-
  Words, laws and contracts: BookP, BookA, BookB, BookC.
-/
import Derived.Test.YtoilcdgpeilgaaaGreatBun5
import Derived.Test.YtoilcdgpeilgaaaGreatBun8
import Derived.Test.YtoilcdgpeilgaaaGreatBun9
set_option linter.unusedSimpArgs false
set_option linter.unusedVariables false
namespace Go.Proofs.YtoilcdgpeilgaaaGreat
open Go.RowKit Go.Shelf
theorem meet_comm (x y : Span) : meetB x y = meetB y x := by
  unfold meetB
  rw [Bool.and_comm]
def put1 (out : List Span) (s : Span) : Option (List Span) := if adE out s = 0 then some (insSp s out) else none
def spF (ls : List Span) : Option (List Span) := ls.foldl (fun o s => o.bind (fun out => put1 out s)) (some [])
theorem spF_snoc (ls : List Span) (s : Span) : spF (ls ++ [s]) = (spF ls).bind (fun out => put1 out s) := by
  unfold spF
  rw [List.foldl_append]; rfl
theorem adE_zero {l : List Span} {s : Span} : adE l s = 0 ↔ l.any (fun x => meetB x s) = false := by
  unfold adE
  cases h : l.any (fun x => meetB x s)
  · simp
  · simp
theorem snoc_ind {α : Type} {p : List α → Prop} (h0 : p []) (h1 : ∀ l x, p l → p (l ++ [x])) : ∀ l, p l := fun l => by
  have : ∀ l : List α, p l.reverse := fun l => by
    induction l with
    | nil => exact h0
    | cons x l ih => rw [List.reverse_cons]; exact h1 _ _ ih
  have h := this l.reverse
  rwa [List.reverse_reverse] at h
theorem spF_some0 : ∀ ls : List Span, ∀ out : List Span, (∀ x ∈ ls, x.frm < x.upto) → spF ls = some out → out.Perm ls ∧ out.Pairwise (fun x y => x.upto ≤ y.frm) := by
  refine snoc_ind (p := fun ls => ∀ out : List Span, (∀ x ∈ ls, x.frm < x.upto) → spF ls = some out → out.Perm ls ∧ out.Pairwise (fun x y => x.upto ≤ y.frm)) ?_ ?_
  · intro out _ h
    injection h with h
    subst h
    exact ⟨List.Perm.refl _, List.Pairwise.nil⟩
  · intro ls s ih out hok h
    rw [spF_snoc] at h
    cases ho : spF ls with
    | none => rw [ho] at h; cases h
    | some o =>
      rw [ho] at h
      have h : put1 o s = some out := h
      unfold put1 at h
      by_cases h1 : adE o s = 0
      · rw [if_pos h1] at h
        injection h with h
        subst h
        obtain ⟨hp, hw⟩ := ih _ (fun x hx => hok x (List.mem_append_left _ hx)) ho
        exact ⟨(ins_perm s o).trans (hp.append_right [s]), ins_pair (hok s (by simp)) (fun x hx => hok x (List.mem_append_left _ (hp.subset hx))) hw (adE_zero.1 h1)⟩
      · rw [if_neg h1] at h; cases h
theorem spF_some {ls out : List Span} (h1 : ∀ x ∈ ls, x.frm < x.upto) (h2 : spF ls = some out) : out.Perm ls ∧ out.Pairwise (fun x y => x.upto ≤ y.frm) := spF_some0 ls out h1 h2
theorem spF_apart0 : ∀ ls : List Span, (∀ x ∈ ls, x.frm < x.upto) → ls.Pairwise (fun x y => meetB x y = false) → ∃ out, spF ls = some out := by
  refine snoc_ind (p := fun ls => (∀ x ∈ ls, x.frm < x.upto) → ls.Pairwise (fun x y => meetB x y = false) → ∃ out, spF ls = some out) (fun _ _ => ⟨[], rfl⟩) ?_
  intro ls s ih hok hw
  rw [List.pairwise_append] at hw
  obtain ⟨o, ho⟩ := ih (fun x hx => hok x (List.mem_append_left _ hx)) hw.1
  have hp := (spF_some (fun x hx => hok x (List.mem_append_left _ hx)) ho).1
  rw [spF_snoc, ho]
  refine ⟨insSp s o, ?_⟩
  show put1 o s = _
  unfold put1
  rw [if_pos (adE_zero.2 (List.any_eq_false.2 fun x hx => by rw [hw.2.2 x (hp.subset hx) s (by simp)]; simp))]
theorem spF_apart {ls : List Span} (h1 : ∀ x ∈ ls, x.frm < x.upto) (h2 : ls.Pairwise (fun x y => meetB x y = false)) : ∃ out, spF ls = some out := spF_apart0 ls h1 h2
theorem pair_chain {R : Span → Span → Prop} (ht : ∀ x y z, R x y → R y z → R x z) : ∀ {s : List Span}, (∀ i x y, s[i]? = some x → s[i + 1]? = some y → R x y) → s.Pairwise R
  | [], _ => List.Pairwise.nil
  | [x], _ => by simp
  | x :: y :: s, h => by
    have ih := pair_chain ht (s := y :: s) (fun i a b ha hb => h (i + 1) a b (by simpa using ha) (by simpa using hb))
    have hxy := h 0 x y rfl rfl
    rw [List.pairwise_cons]
    refine ⟨fun z hz => ?_, ih⟩
    rcases List.mem_cons.1 hz with rfl | hz
    · exact hxy
    · exact ht x y z hxy ((List.pairwise_cons.1 ih).1 z hz)
theorem pair_meet {s : List Span} (h : s.Pairwise (fun x y => x.upto ≤ y.frm)) : s.Pairwise (fun x y => meetB x y = false) :=
  h.imp fun hxy => by unfold meetB; simp; omega
theorem taken_law {ls s : List Span} (hok : ∀ x ∈ ls, x.frm < x.upto) (hp : s.Perm ls) (hs : s.Pairwise (fun x y => x.frm ≤ y.frm)) :
    ((∀ i x y, s[i]? = some x → s[i + 1]? = some y → meetB x y = false) → spF ls = some s) ∧ ((∃ i x y, s[i]? = some x ∧ s[i + 1]? = some y ∧ meetB x y = true) → spF ls = none) := by
  have hoks : ∀ x ∈ s, x.frm < x.upto := fun x hx => hok x (hp.subset hx)
  have hsym : ∀ {x y : Span}, meetB x y = false → meetB y x = false := fun {x y} h => by rw [meet_comm]; exact h
  refine ⟨fun h => ?_, fun h => ?_⟩
  · have hw : s.Pairwise (fun x y => x.upto ≤ y.frm) := by
      refine List.Pairwise.imp (R := fun x y => x.upto ≤ y.frm ∧ y.frm < y.upto) (fun h => h.1) (pair_chain (fun x y z h1 h2 => ⟨by omega, h2.2⟩) fun i x y hx hy => ?_)
      have hx1 := hoks x (List.mem_of_getElem? hx)
      have hy1 := hoks y (List.mem_of_getElem? hy)
      have hle : x.frm ≤ y.frm := by
        obtain ⟨hi, rfl⟩ := List.getElem?_eq_some_iff.1 hx
        obtain ⟨hj, rfl⟩ := List.getElem?_eq_some_iff.1 hy
        exact List.pairwise_iff_getElem.1 hs i (i + 1) hi hj (by omega)
      rcases meet_apart (h i x y hx hy) hx1 hy1 with e | e
      · exact ⟨e, hy1⟩
      · omega
    obtain ⟨o, ho⟩ := spF_apart hok ((hp.pairwise_iff (fun {x y} => hsym)).1 (pair_meet hw))
    obtain ⟨hpo, hwo⟩ := spF_some hok ho
    rw [ho, sorted_unique (hp.trans hpo.symm) hs (pair_lt (fun x hx => hok x (hpo.subset hx)) hwo)]
  · obtain ⟨i, x, y, hx, hy, hm⟩ := h
    cases ho : spF ls with
    | none => rfl
    | some o =>
      obtain ⟨hpo, hwo⟩ := spF_some hok ho
      have h1 : s.Pairwise (fun x y => meetB x y = false) := ((hp.trans hpo.symm).pairwise_iff (fun {x y} => hsym)).2 (pair_meet hwo)
      obtain ⟨hi, rfl⟩ := List.getElem?_eq_some_iff.1 hx
      obtain ⟨hj, rfl⟩ := List.getElem?_eq_some_iff.1 hy
      have := List.pairwise_iff_getElem.1 h1 i (i + 1) hi hj (by omega)
      rw [this] at hm
      exact absurd hm (by simp)
end Go.Proofs.YtoilcdgpeilgaaaGreat
namespace Go.Proofs.YtoilcdgpeilgaaaGreat
open Go.RowKit Go.Shelf
structure Bkg where
  id : Int
  kind : Int
  state : Int
  gst : Int
  lev : Bool
  cab : Int
  cat : Int
  frm : Int
  upto : Int
  til : Int
  fol : List Entry
  deriving Inhabited
structure BkIn (x : Bkg) : Prop where
  id : InI x.id
  kind : InI x.kind
  state : InI x.state
  gst : InI x.gst
  cab : InI x.cab
  cat : InI x.cat
  frm : InI x.frm
  upto : InI x.upto
  til : InI x.til
abbrev bkgA (x : Bkg) (v : Value) : Array Value := #[.int .i64 x.id, .int .i64 x.kind, .int .i64 x.state, .int .i64 x.gst, .bool x.lev, .int .i64 x.cab, .int .i64 x.cat, .int .i64 x.frm, .int .i64 x.upto, .int .i64 x.til, v]
def bkgC : Cod Bkg := fun w S x cs => ∃ A n cap, cs = (bkgA x (.slice A n cap)).toList ∧ Sl entryC 3 w S A n cap x.fol ∧ BkIn x
theorem bkgC_good : Good bkgC := ⟨fun h hk => by
    obtain ⟨A, n, cap, rfl, h, hl⟩ := h
    exact ⟨A, n, cap, rfl, h.keep entryC_good (by omega) hk, hl⟩,
  fun h u hu => by
    obtain ⟨A, n, cap, rfl, h, hl⟩ := h
    simp [bkgA] at hu; rcases hu with rfl | rfl | rfl | rfl | rfl | rfl | rfl | rfl | rfl | rfl | rfl <;> rfl⟩
instance bkgK : CodK bkgC 11 := ⟨bkgC_good, by omega⟩
instance entryK : CodK entryC 3 := ⟨entryC_good, by omega⟩
def fitB (c : Cab) (b : Bkg) : Bool := decide (b.gst ≤ c.ber) && (c.lev || !b.lev)
def cabAt (x : Shp) (i : Int) : Cab := x.cabs.getD i.toNat default
def eligB (x : Shp) (b : Bkg) (i : Int) : Bool := fitB (cabAt x i) b && srvB (higC x.cats) (cabAt x i).cat.toNat b.cat.toNat
def namedE (x : Shp) (b : Bkg) : Int := if betB b.cab 0 ((x.cabs.length : Int) - 1) = false then 3 else if b.cat ≠ 0 then 1 else if fitB (cabAt x b.cab) b = false then 4 else 0
def promE (x : Shp) (b : Bkg) : Int := if betB b.cat 0 ((x.cats.length : Int) - 1) = false then 3 else if b.frm ≠ 0 ∨ b.upto ≠ x.legs then 4 else if betB b.cab (-1) ((x.cabs.length : Int) - 1) = false then 3
  else if 0 ≤ b.cab ∧ eligB x b b.cab = false then 4 else 0
def kindE (x : Shp) (b : Bkg) : Int := if b.kind = 2 then promE x b else namedE x b
def ofE (x : Shp) (b : Bkg) : Int := if (betB b.kind 1 2 && betB b.state 1 3) = false then 7 else if (betB b.id 1 999999 && betB b.gst 1 4) = false then 3 else if spanE ⟨b.frm, b.upto⟩ x.legs ≠ 0 then spanE ⟨b.frm, b.upto⟩ x.legs
  else if kindE x b ≠ 0 then kindE x b else if betB b.til 0 9999 = false then 3 else if b.til ≠ 0 ∧ b.state ≠ 1 then 1 else checkFolio b.fol
def liveB (b : Bkg) : Bool := !decide (b.state = 3)
def hasB (c : Int) (b : Bkg) : Bool := liveB b && decide (b.cab = c)
def spL (l : List Bkg) (c : Int) : List Span := (l.filter (hasB c)).map (fun b => ⟨b.frm, b.upto⟩)
def soulK (l : List Bkg) (k : Nat) : Int := (l.map (fun b => if liveB b = true ∧ b.frm ≤ k ∧ (k : Int) < b.upto then b.gst else 0)).sum
def soulL (l : List Bkg) (legs : Nat) : List Int := (List.range legs).map (soulK l)
end Go.Proofs.YtoilcdgpeilgaaaGreat
namespace Go.Proofs.YtoilcdgpeilgaaaGreat
open Go.RowKit Go.Shelf
abbrev cabA (c : Cab) : Array Value := #[strV c.name, .int .i64 c.cat, .int .i64 c.ber, .bool c.lev]
theorem bwithin_any (n a b : Int) (w : World) : Calls Tryz.prog 154 #[.int .i64 n, .int .i64 a, .int .i64 b] w fun e w' => e = .returned (.bool (betB n a b)) ∧ w = w' := by
  go_enter Tryz.func154, Tryz.ntmps154
  go_wp2
  all_goals go_ret
  all_goals exact ⟨retB (by unfold betB; simp; try omega), rfl⟩
theorem fit_true {c : Cab} {b : Bkg} (h : b.gst ≤ c.ber) : fitB c b = (c.lev || !b.lev) := by unfold fitB; rw [decide_eq_true h]; rfl
theorem fit_false {c : Cab} {b : Bkg} (h : ¬ b.gst ≤ c.ber) : fitB c b = false := by unfold fitB; rw [decide_eq_false h]; rfl
theorem cellB {B : Nat} {W X : World} {p : Addr} {v : Value} (hX : Below B W X) (hc : W.cell? p = some v) (hB : B = W.heap.size := by rfl) : X.cell? p = some v := (World.cell?_of_block (hX.block _ (by rw [hB]; exact World.block_lt_of_cell? W p hc))).trans hc
set_option maxRecDepth 100000 in
set_option maxHeartbeats 4000000 in
theorem bFits_any (c : Cab) (x : Bkg) (v : Value) (w : World) :
    Calls Tryz.prog 239 #[.agg (cabA c), .agg (bkgA x v)] w fun e w' => e = .returned (.bool (fitB c x)) ∧ Below w.heap.size w w' := by
  obtain ⟨nm, ct, ber, lv⟩ := c
  obtain ⟨id, kind, state, gst, lev, cab, cat, frm, upto, til, fol⟩ := x
  obtain ⟨r, hr⟩ : ∃ r, r = fitB ⟨nm, ct, ber, lv⟩ ⟨id, kind, state, gst, lev, cab, cat, frm, upto, til, fol⟩ := ⟨_, rfl⟩
  rw [← hr]
  have HT := Lib.hid (fun h : gst ≤ ber => hr.trans (fit_true (c := ⟨nm, ct, ber, lv⟩) (b := ⟨id, kind, state, gst, lev, cab, cat, frm, upto, til, fol⟩) h))
  have HF := Lib.hid (fun h : ¬ gst ≤ ber => hr.trans (fit_false (c := ⟨nm, ct, ber, lv⟩) (b := ⟨id, kind, state, gst, lev, cab, cat, frm, upto, til, fol⟩) h))
  clear hr
  go_enter Tryz.func239, Tryz.ntmps239
  go_upto_region 0 with (fail)
  go_cut [2, 3, 4] (fun p q _ wx => ∃ g k, p = .pointer (some ⟨g, 0, none⟩) ∧ q = .pointer (some ⟨k, 0, none⟩) ∧ Blk wx g (cabA ⟨nm, ct, ber, lv⟩) 76 ∧ Blk wx k (bkgA ⟨id, kind, state, gst, lev, cab, cat, frm, upto, til, fol⟩ v) 37 ∧ Below w.heap.size w wx)
  case first => as_aux_lemma =>
    go_wp2_with fail
    go_meet
    exact ⟨_, _, rfl, rfl, blk2_0 _ _ _, blk2_1 _ _ _, bel2 _ _ _⟩
  obtain ⟨g, k, rfl, rfl, hG, hK, hb⟩ := hcut
  have g2 : wc.cell? ⟨g, 2, none⟩ = some (.int .i64 ber) := hG.cell rfl
  have g3 : wc.cell? ⟨g, 3, none⟩ = some (.bool lv) := hG.cell rfl
  have k3 : wc.cell? ⟨k, 3, none⟩ = some (.int .i64 gst) := hK.cell rfl
  have k4 : wc.cell? ⟨k, 4, none⟩ = some (.bool lev) := hK.cell rfl
  by_cases h1 : gst ≤ ber
  · have hr := HT.out h1
    cases lv <;> cases lev <;> (simp at hr; subst hr; go_wp2_with fail; go_ret; exact ⟨rfl, hb⟩)
  · obtain rfl := HF.out h1
    have h2 : ber < gst := by omega
    go_wp2_with fail
    go_ret
    exact ⟨rfl, hb⟩
set_option maxRecDepth 100000 in
set_option maxHeartbeats 4000000 in
theorem DoesFit_any (c : Cab) (x : Bkg) (v : Value) (w : World) :
    Calls Tryz.prog 189 #[.agg (cabA c), .agg (bkgA x v)] w fun e w' => e = .returned (.bool (fitB c x)) ∧ Below w.heap.size w w' := by
  obtain ⟨nm, ct, ber, lv⟩ := c
  obtain ⟨id, kind, state, gst, lev, cab, cat, frm, upto, til, fol⟩ := x
  obtain ⟨r, hr⟩ : ∃ r, r = fitB ⟨nm, ct, ber, lv⟩ ⟨id, kind, state, gst, lev, cab, cat, frm, upto, til, fol⟩ := ⟨_, rfl⟩
  rw [← hr]
  have HT := Lib.hid (fun h : gst ≤ ber => hr.trans (fit_true (c := ⟨nm, ct, ber, lv⟩) (b := ⟨id, kind, state, gst, lev, cab, cat, frm, upto, til, fol⟩) h))
  have HF := Lib.hid (fun h : ¬ gst ≤ ber => hr.trans (fit_false (c := ⟨nm, ct, ber, lv⟩) (b := ⟨id, kind, state, gst, lev, cab, cat, frm, upto, til, fol⟩) h))
  clear hr
  go_enter Tryz.func189, Tryz.ntmps189
  go_upto_region 0 with (fail)
  go_cut [2, 3, 4] (fun p q _ wx => ∃ g k, p = .pointer (some ⟨g, 0, none⟩) ∧ q = .pointer (some ⟨k, 0, none⟩) ∧ Blk wx g (cabA ⟨nm, ct, ber, lv⟩) 76 ∧ Blk wx k (bkgA ⟨id, kind, state, gst, lev, cab, cat, frm, upto, til, fol⟩ v) 37 ∧ Below w.heap.size w wx)
  case first => as_aux_lemma =>
    go_wp2_with fail
    go_meet
    exact ⟨_, _, rfl, rfl, blk2_0 _ _ _, blk2_1 _ _ _, bel2 _ _ _⟩
  obtain ⟨g, k, rfl, rfl, hG, hK, hb⟩ := hcut
  have g2 : wc.cell? ⟨g, 2, none⟩ = some (.int .i64 ber) := hG.cell rfl
  have g3 : wc.cell? ⟨g, 3, none⟩ = some (.bool lv) := hG.cell rfl
  have k3 : wc.cell? ⟨k, 3, none⟩ = some (.int .i64 gst) := hK.cell rfl
  have k4 : wc.cell? ⟨k, 4, none⟩ = some (.bool lev) := hK.cell rfl
  by_cases h1 : gst ≤ ber
  · have hr := HT.out h1
    cases lv <;> cases lev <;> (simp at hr; subst hr; go_wp2_with fail; go_ret; exact ⟨rfl, hb⟩)
  · obtain rfl := HF.out h1
    have h2 : ber < gst := by omega
    go_wp2_with fail
    go_ret
    exact ⟨rfl, hb⟩
theorem cab_ok {x : Shp} (ho : OkShp x) {k : Nat} (hk : k < x.cabs.length) : 0 ≤ (x.cabs.getD k default).cat ∧ (x.cabs.getD k default).cat < x.cats.length ∧ betB (x.cabs.getD k default).ber 1 4 = true := by
  have h := firstE_zero ho.cabs k hk
  unfold nmE at h
  by_cases h1 : nameB ((cabNames x.cabs).getD k []) = false
  · rw [if_pos h1] at h; omega
  rw [if_neg h1] at h
  by_cases h2 : ((cabNames x.cabs).take k).contains ((cabNames x.cabs).getD k []) = true
  · rw [if_pos h2] at h; omega
  rw [if_neg h2] at h
  unfold cabE at h
  dsimp only at h
  by_cases h3 : betB (x.cabs.getD k default).cat 0 ((x.cats.length : Int) - 1) = false ∨ betB (x.cabs.getD k default).ber 1 4 = false
  · rw [if_pos h3] at h; omega
  · have h4 : betB (x.cabs.getD k default).cat 0 ((x.cats.length : Int) - 1) = true := by
      cases e : betB (x.cabs.getD k default).cat 0 ((x.cats.length : Int) - 1)
      · exact absurd (.inl e) h3
      · rfl
    have h5 := betB_iff.1 h4
    refine ⟨h5.1, by omega, ?_⟩
    cases e : betB (x.cabs.getD k default).ber 1 4
    · exact absurd (.inr e) h3
    · rfl
theorem Sl.cab {w : World} {B : Option Addr} {m cap2 : Nat} {l : List Cab} (h : Sl cabC 4 w All B m cap2 l) {k : Nat} (hk : k < m) : ∃ (b off : Nat) (nm : List UInt8) (ct ber : Int) (lv : Bool), B = some ⟨b, off, none⟩ ∧ l.getD k default = ⟨nm, ct, ber, lv⟩ ∧
    w.cell? ⟨b, off + k * 4, none⟩ = some (strV nm) ∧ w.cell? ⟨b, off + k * 4 + 1, none⟩ = some (.int .i64 ct) ∧ w.cell? ⟨b, off + k * 4 + 2, none⟩ = some (.int .i64 ber) ∧ w.cell? ⟨b, off + k * 4 + 3, none⟩ = some (.bool lv) := by
  obtain ⟨b, off, x, c0, c1, c2, c3, hA, hx, ⟨hc, _⟩, e0, e1, e2, e3⟩ := h.at4 hk
  simp only [List.cons.injEq, and_true] at hc
  obtain ⟨rfl, rfl, rfl, rfl⟩ := hc
  exact ⟨b, off, x.name, x.cat, x.ber, x.lev, hA, by rw [List.getD_eq_getElem?_getD, hx]; rfl, e0, e1, e2, e3⟩
set_option maxRecDepth 100000 in
set_option maxHeartbeats 4000000 in
theorem Eligible_any (x : Shp) (A : Option Addr) (n cap : Nat) (B : Option Addr) (m cap2 : Nat) (b : Bkg) (v : Value) (k : Nat) (w : World) (hc : Sl catC 2 w All A n cap x.cats) (hb : Sl cabC 4 w All B m cap2 x.cabs) (ho : OkShp x)
    (hk : k < m) (h0 : 0 ≤ b.cat) (h1 : b.cat < n) :
    Calls Tryz.prog 219 #[.agg #[.int .i64 x.legs, .int .i64 x.souls, .slice A n cap, .slice B m cap2], .agg (bkgA b v), .int .i64 (k : Int)] w fun e w' => e = .returned (.bool (eligB x b k)) ∧ Below w.heap.size w w' := by
  obtain ⟨id, kind, state, gst, lev, cab, cat, frm, upto, til, fol⟩ := b
  simp only at h0 h1
  obtain ⟨q, rfl⟩ : ∃ q : Nat, cat = q := ⟨cat.toNat, by omega⟩
  have hq : q < n := by omega
  obtain ⟨r, hr⟩ : ∃ r, r = eligB x ⟨id, kind, state, gst, lev, cab, (q : Int), frm, upto, til, fol⟩ k := ⟨_, rfl⟩
  rw [← hr]
  obtain ⟨b, off, nm, ct, ber, lv, hB, hx, e0, e1, e2, e3⟩ := hb.cab hk
  subst hB
  have hok := cab_ok ho (k := k) (by rw [hb.len]; exact hk)
  rw [hx, hc.len] at hok
  simp only at hok
  obtain ⟨ct, rfl⟩ : ∃ d : Nat, ct = d := ⟨ct.toNat, by omega⟩
  have hct : ct < n := by omega
  have hx2 : cabAt x k = ⟨nm, ct, ber, lv⟩ := hx
  have HR := Lib.hid (show r = (fitB ⟨nm, ct, ber, lv⟩ ⟨id, kind, state, gst, lev, cab, (q : Int), frm, upto, til, fol⟩ && srvB (higC x.cats) ct q) by rw [hr]; unfold eligB; rw [hx2]; rfl)
  have HM := Lib.hid (fun W h => May_any x.legs x.souls A n cap x.cats (.slice (some ⟨b, off, none⟩) m cap2) ct q W h ho.ok hct hq)
  have HF := Lib.hid (fun W => bFits_any ⟨nm, ct, ber, lv⟩ ⟨id, kind, state, gst, lev, cab, (q : Int), frm, upto, til, fol⟩ v W)
  have HC := Lib.hid hc
  have HB := Lib.hid hb
  clear hr hx hok hc hb h0 h1 hx2
  go_enter Tryz.func219, Tryz.ntmps219
  go_upto_region 0 with (fail)
  go_cut [3, 4, 6] (fun p p2 _ wx => ∃ g h, p = .pointer (some ⟨g, 0, none⟩) ∧ p2 = .pointer (some ⟨h, 0, none⟩) ∧ Blk wx g #[.int .i64 x.legs, .int .i64 x.souls, .slice A n cap, .slice (some ⟨b, off, none⟩) m cap2] 25 ∧ Blk wx h (bkgA ⟨id, kind, state, gst, lev, cab, (q : Int), frm, upto, til, fol⟩ v) 37 ∧ Below w.heap.size w wx)
  case first => as_aux_lemma =>
    go_wp2_with fail
    go_meet
    exact ⟨_, _, rfl, rfl, blk2_0 _ _ _, blk2_1 _ _ _, bel2 _ _ _⟩
  obtain ⟨g, h, rfl, rfl, hG, hH, hbw⟩ := hcut
  have g3 : wc.cell? ⟨g, 3, none⟩ = some (.slice (some ⟨b, off, none⟩) m cap2) := hG.cell rfl
  replace e0 := cellB hbw e0
  replace e1 := cellB hbw e1
  replace e2 := cellB hbw e2
  replace e3 := cellB hbw e3
  go_upto_region 1 with (fail)
  obtain ⟨w1, hw1⟩ : ∃ W, W = wc := ⟨_, rfl⟩
  subst hw1
  go_cut [7] (fun p wx => ∃ z, p = .pointer (some ⟨z, 0, none⟩) ∧ Blk wx z (cabA ⟨nm, ct, ber, lv⟩) 76 ∧ Below w1.heap.size w1 wx)
  case first => as_aux_lemma =>
    go_wp2_with fail
    go_meet
    exact ⟨_, rfl, blk1 _ _, bel1 _ _⟩
  obtain ⟨z, rfl, hZ, hb1⟩ := hcut
  replace hG := hG.bel hb1
  replace hH := hH.bel hb1
  replace hbw := hbw.trans (hb1.mono hbw.size)
  clear hb1 e0 e1 e2 e3 g3
  obtain ⟨f, hf⟩ : ∃ f, f = fitB ⟨nm, ct, ber, lv⟩ ⟨id, kind, state, gst, lev, cab, (q : Int), frm, upto, til, fol⟩ := ⟨_, rfl⟩
  rw [← hf] at HF HR
  clear hf
  have k0 : wc.cell? ⟨h, 0, none⟩ = some (.int .i64 id) := hH.cell rfl
  have k1 : wc.cell? ⟨h, 1, none⟩ = some (.int .i64 kind) := hH.cell rfl
  have k2 : wc.cell? ⟨h, 2, none⟩ = some (.int .i64 state) := hH.cell rfl
  have k3 : wc.cell? ⟨h, 3, none⟩ = some (.int .i64 gst) := hH.cell rfl
  have k4 : wc.cell? ⟨h, 4, none⟩ = some (.bool lev) := hH.cell rfl
  have k5 : wc.cell? ⟨h, 5, none⟩ = some (.int .i64 cab) := hH.cell rfl
  have k6 : wc.cell? ⟨h, 6, none⟩ = some (.int .i64 (q : Int)) := hH.cell rfl
  have k7 : wc.cell? ⟨h, 7, none⟩ = some (.int .i64 frm) := hH.cell rfl
  have k8 : wc.cell? ⟨h, 8, none⟩ = some (.int .i64 upto) := hH.cell rfl
  have k9 : wc.cell? ⟨h, 9, none⟩ = some (.int .i64 til) := hH.cell rfl
  have k10 : wc.cell? ⟨h, 10, none⟩ = some (v) := hH.cell rfl
  have z0 : wc.cell? ⟨z, 0, none⟩ = some (strV nm) := hZ.cell rfl
  have z1 : wc.cell? ⟨z, 1, none⟩ = some (.int .i64 (ct : Int)) := hZ.cell rfl
  have z2 : wc.cell? ⟨z, 2, none⟩ = some (.int .i64 ber) := hZ.cell rfl
  have z3 : wc.cell? ⟨z, 3, none⟩ = some (.bool lv) := hZ.cell rfl
  go_wp2_with fail
  refine (HF.out _).mono ?_
  rintro e w2 ⟨rfl, hb2⟩
  cases f
  · obtain rfl : r = false := HR.out
    go_wp2_with fail
    go_ret
    exact ⟨rfl, hbw.trans (hb2.mono hbw.size)⟩
  · obtain ⟨s, hs⟩ : ∃ s, s = srvB (higC x.cats) ct q := ⟨_, rfl⟩
    rw [← hs] at HM HR
    obtain rfl : r = s := by rw [HR.out]; rfl
    clear hs
    replace hG := hG.bel hb2
    replace hH := hH.bel hb2
    replace hZ := hZ.bel hb2
    replace hbw := hbw.trans (hb2.mono hbw.size)
    clear hb2 k0 k1 k2 k3 k4 k5 k6 k7 k8 k9 k10 z0 z1 z2 z3
    have g0 : w2.cell? ⟨g, 0, none⟩ = some (.int .i64 x.legs) := hG.cell rfl
    have g1 : w2.cell? ⟨g, 1, none⟩ = some (.int .i64 x.souls) := hG.cell rfl
    have g2 : w2.cell? ⟨g, 2, none⟩ = some (.slice A n cap) := hG.cell rfl
    have g3 : w2.cell? ⟨g, 3, none⟩ = some (.slice (some ⟨b, off, none⟩) m cap2) := hG.cell rfl
    have z1 : w2.cell? ⟨z, 1, none⟩ = some (.int .i64 (ct : Int)) := hZ.cell rfl
    have h6 : w2.cell? ⟨h, 6, none⟩ = some (.int .i64 (q : Int)) := hH.cell rfl
    have hcall := HM.out w2 (HC.out.bel hbw)
    have HCALL := Lib.hid hcall
    clear hcall
    go_wp2_with fail
    refine HCALL.out.mono ?_
    rintro e w3 ⟨rfl, hb3⟩
    go_wp2_with fail
    go_ret
    exact ⟨rfl, hbw.trans (hb3.mono hbw.size)⟩
set_option maxRecDepth 100000 in
set_option maxHeartbeats 4000000 in
theorem IsEligible_any (x : Shp) (A : Option Addr) (n cap : Nat) (B : Option Addr) (m cap2 : Nat) (b : Bkg) (v : Value) (k : Nat) (w : World) (hc : Sl catC 2 w All A n cap x.cats) (hb : Sl cabC 4 w All B m cap2 x.cabs) (ho : OkShp x)
    (hk : k < m) (h0 : 0 ≤ b.cat) (h1 : b.cat < n) :
    Calls Tryz.prog 127 #[.agg #[.int .i64 x.legs, .int .i64 x.souls, .slice A n cap, .slice B m cap2], .agg (bkgA b v), .int .i64 (k : Int)] w fun e w' => e = .returned (.bool (eligB x b k)) ∧ Below w.heap.size w w' := by
  obtain ⟨id, kind, state, gst, lev, cab, cat, frm, upto, til, fol⟩ := b
  simp only at h0 h1
  obtain ⟨q, rfl⟩ : ∃ q : Nat, cat = q := ⟨cat.toNat, by omega⟩
  have hq : q < n := by omega
  obtain ⟨r, hr⟩ : ∃ r, r = eligB x ⟨id, kind, state, gst, lev, cab, (q : Int), frm, upto, til, fol⟩ k := ⟨_, rfl⟩
  rw [← hr]
  obtain ⟨b, off, nm, ct, ber, lv, hB, hx, e0, e1, e2, e3⟩ := hb.cab hk
  subst hB
  have hok := cab_ok ho (k := k) (by rw [hb.len]; exact hk)
  rw [hx, hc.len] at hok
  simp only at hok
  obtain ⟨ct, rfl⟩ : ∃ d : Nat, ct = d := ⟨ct.toNat, by omega⟩
  have hct : ct < n := by omega
  have hx2 : cabAt x k = ⟨nm, ct, ber, lv⟩ := hx
  have HR := Lib.hid (show r = (fitB ⟨nm, ct, ber, lv⟩ ⟨id, kind, state, gst, lev, cab, (q : Int), frm, upto, til, fol⟩ && srvB (higC x.cats) ct q) by rw [hr]; unfold eligB; rw [hx2]; rfl)
  have HM := Lib.hid (fun W h => DoesServe_any x.legs x.souls A n cap x.cats (.slice (some ⟨b, off, none⟩) m cap2) ct q W h ho.ok hct hq)
  have HF := Lib.hid (fun W => DoesFit_any ⟨nm, ct, ber, lv⟩ ⟨id, kind, state, gst, lev, cab, (q : Int), frm, upto, til, fol⟩ v W)
  have HC := Lib.hid hc
  have HB := Lib.hid hb
  clear hr hx hok hc hb h0 h1 hx2
  go_enter Tryz.func127, Tryz.ntmps127
  go_upto_region 0 with (fail)
  go_cut [3, 4, 6] (fun p p2 _ wx => ∃ g h, p = .pointer (some ⟨g, 0, none⟩) ∧ p2 = .pointer (some ⟨h, 0, none⟩) ∧ Blk wx g #[.int .i64 x.legs, .int .i64 x.souls, .slice A n cap, .slice (some ⟨b, off, none⟩) m cap2] 25 ∧ Blk wx h (bkgA ⟨id, kind, state, gst, lev, cab, (q : Int), frm, upto, til, fol⟩ v) 37 ∧ Below w.heap.size w wx)
  case first => as_aux_lemma =>
    go_wp2_with fail
    go_meet
    exact ⟨_, _, rfl, rfl, blk2_0 _ _ _, blk2_1 _ _ _, bel2 _ _ _⟩
  obtain ⟨g, h, rfl, rfl, hG, hH, hbw⟩ := hcut
  replace e0 := cellB hbw e0
  replace e1 := cellB hbw e1
  replace e2 := cellB hbw e2
  replace e3 := cellB hbw e3
  have g0 : wc.cell? ⟨g, 0, none⟩ = some (.int .i64 x.legs) := hG.cell rfl
  have g1 : wc.cell? ⟨g, 1, none⟩ = some (.int .i64 x.souls) := hG.cell rfl
  have g2 : wc.cell? ⟨g, 2, none⟩ = some (.slice A n cap) := hG.cell rfl
  have g3 : wc.cell? ⟨g, 3, none⟩ = some (.slice (some ⟨b, off, none⟩) m cap2) := hG.cell rfl
  have k0 : wc.cell? ⟨h, 0, none⟩ = some (.int .i64 id) := hH.cell rfl
  have k1 : wc.cell? ⟨h, 1, none⟩ = some (.int .i64 kind) := hH.cell rfl
  have k2 : wc.cell? ⟨h, 2, none⟩ = some (.int .i64 state) := hH.cell rfl
  have k3 : wc.cell? ⟨h, 3, none⟩ = some (.int .i64 gst) := hH.cell rfl
  have k4 : wc.cell? ⟨h, 4, none⟩ = some (.bool lev) := hH.cell rfl
  have k5 : wc.cell? ⟨h, 5, none⟩ = some (.int .i64 cab) := hH.cell rfl
  have k6 : wc.cell? ⟨h, 6, none⟩ = some (.int .i64 (q : Int)) := hH.cell rfl
  have k7 : wc.cell? ⟨h, 7, none⟩ = some (.int .i64 frm) := hH.cell rfl
  have k8 : wc.cell? ⟨h, 8, none⟩ = some (.int .i64 upto) := hH.cell rfl
  have k9 : wc.cell? ⟨h, 9, none⟩ = some (.int .i64 til) := hH.cell rfl
  have k10 : wc.cell? ⟨h, 10, none⟩ = some (v) := hH.cell rfl
  obtain ⟨f, hf⟩ : ∃ f, f = fitB ⟨nm, ct, ber, lv⟩ ⟨id, kind, state, gst, lev, cab, (q : Int), frm, upto, til, fol⟩ := ⟨_, rfl⟩
  rw [← hf] at HF HR
  clear hf
  have HCEL := Lib.hid (fun (X : World) (hX : Below wc.heap.size wc X) => And.intro (And.intro (cellB hX g0) (And.intro (cellB hX g1) (And.intro (cellB hX g2) (cellB hX g3)))) (And.intro (And.intro (cellB hX e0) (And.intro (cellB hX e1) (And.intro (cellB hX e2) (cellB hX e3))))
    (And.intro (cellB hX k0) (And.intro (cellB hX k1) (And.intro (cellB hX k2) (And.intro (cellB hX k3) (And.intro (cellB hX k4) (And.intro (cellB hX k5) (And.intro (cellB hX k6) (And.intro (cellB hX k7) (And.intro (cellB hX k8) (And.intro (cellB hX k9) (cellB hX k10)))))))))))))
  have hbd : Below wc.heap.size wc wc.drew := (Below.refl _ wc).drew
  have HBW := Lib.hid hbw
  replace e0 := cellB hbd e0
  replace e1 := cellB hbd e1
  replace e2 := cellB hbd e2
  replace e3 := cellB hbd e3
  replace g3 := cellB hbd g3
  replace k0 := cellB hbd k0
  replace k1 := cellB hbd k1
  replace k2 := cellB hbd k2
  replace k3 := cellB hbd k3
  replace k4 := cellB hbd k4
  replace k5 := cellB hbd k5
  replace k6 := cellB hbd k6
  replace k7 := cellB hbd k7
  replace k8 := cellB hbd k8
  replace k9 := cellB hbd k9
  replace k10 := cellB hbd k10
  have hk0 : (0 : Int) ≤ (k : Int) := Int.natCast_nonneg _
  have hk1 : (k : Int) < (m : Int) := by omega
  clear g0 g1 g2 hG hH
  have HC2 := Lib.hid (show ∀ X, Below wc.heap.size wc X → (fun w' => (w'.cell? ⟨g, 0, none⟩ = some (.int .i64 x.legs) ∧ w'.cell? ⟨g, 1, none⟩ = some (.int .i64 x.souls) ∧ w'.cell? ⟨g, 2, none⟩ = some (.slice A n cap) ∧ w'.cell? ⟨g, 3, none⟩ = some (.slice (some ⟨b, off, none⟩) m cap2)) ∧ (w'.cell? ⟨b, off + k * 4, none⟩ = some (strV nm) ∧ w'.cell? ⟨b, off + k * 4 + 1, none⟩ = some (.int .i64 (ct : Int)) ∧ w'.cell? ⟨b, off + k * 4 + 2, none⟩ = some (.int .i64 ber) ∧ w'.cell? ⟨b, off + k * 4 + 3, none⟩ = some (.bool lv)) ∧ (w'.cell? ⟨h, 0, none⟩ = some (.int .i64 id) ∧ w'.cell? ⟨h, 1, none⟩ = some (.int .i64 kind) ∧ w'.cell? ⟨h, 2, none⟩ = some (.int .i64 state) ∧ w'.cell? ⟨h, 3, none⟩ = some (.int .i64 gst) ∧ w'.cell? ⟨h, 4, none⟩ = some (.bool lev) ∧ w'.cell? ⟨h, 5, none⟩ = some (.int .i64 cab) ∧ w'.cell? ⟨h, 6, none⟩ = some (.int .i64 (q : Int)) ∧ w'.cell? ⟨h, 7, none⟩ = some (.int .i64 frm) ∧ w'.cell? ⟨h, 8, none⟩ = some (.int .i64 upto) ∧ w'.cell? ⟨h, 9, none⟩ = some (.int .i64 til) ∧ w'.cell? ⟨h, 10, none⟩ = some v)) X from HCEL.out)
  have hb := hbd
  clear k0 k1 k2 k3 k4 k5 k6 k7 k8 k9 k10 e0 e1 e2 e3 g3 HCEL hbd
  cases f
  · obtain rfl : r = false := HR.out
    go_upto_region 1 with (fail)
    refine wp_region_held_drew (S := (fun w' => (w'.cell? ⟨g, 0, none⟩ = some (.int .i64 x.legs) ∧ w'.cell? ⟨g, 1, none⟩ = some (.int .i64 x.souls) ∧ w'.cell? ⟨g, 2, none⟩ = some (.slice A n cap) ∧ w'.cell? ⟨g, 3, none⟩ = some (.slice (some ⟨b, off, none⟩) m cap2)) ∧ (w'.cell? ⟨b, off + k * 4, none⟩ = some (strV nm) ∧ w'.cell? ⟨b, off + k * 4 + 1, none⟩ = some (.int .i64 (ct : Int)) ∧ w'.cell? ⟨b, off + k * 4 + 2, none⟩ = some (.int .i64 ber) ∧ w'.cell? ⟨b, off + k * 4 + 3, none⟩ = some (.bool lv)) ∧ (w'.cell? ⟨h, 0, none⟩ = some (.int .i64 id) ∧ w'.cell? ⟨h, 1, none⟩ = some (.int .i64 kind) ∧ w'.cell? ⟨h, 2, none⟩ = some (.int .i64 state) ∧ w'.cell? ⟨h, 3, none⟩ = some (.int .i64 gst) ∧ w'.cell? ⟨h, 4, none⟩ = some (.bool lev) ∧ w'.cell? ⟨h, 5, none⟩ = some (.int .i64 cab) ∧ w'.cell? ⟨h, 6, none⟩ = some (.int .i64 (q : Int)) ∧ w'.cell? ⟨h, 7, none⟩ = some (.int .i64 frm) ∧ w'.cell? ⟨h, 8, none⟩ = some (.int .i64 upto) ∧ w'.cell? ⟨h, 9, none⟩ = some (.int .i64 til) ∧ w'.cell? ⟨h, 10, none⟩ = some v))) (by kernel_rfl) (HC2.out _ hb) (fun hHeld => ?_)
    refine wpAnyH_take (i := 0) (v := ?v1) (gA rfl) (by kernel_rfl) (by kernel_rfl) (by kernel_rfl) (fun _ _ _ h => h) (Or.inl ⟨rfl, ?y1⟩) (by assumption) ?_
    case y1 => (intro w hSw; (try dsimp only at hSw); go_simp <;> with_reducible rfl)
    simp only [Act.put, List.setIfInBounds_toArray, List.set_cons_zero, List.set_cons_succ]
    refine wpAnyH_take (i := 1) (v := ?v2) (gA rfl) (by kernel_rfl) (by kernel_rfl) (by kernel_rfl) (fun _ _ _ h => h) (Or.inl ⟨rfl, ?y2⟩) (by assumption) ?_
    case y2 => (intro w hSw; (try dsimp only at hSw); go_simp <;> with_reducible rfl)
    simp only [Act.put, List.setIfInBounds_toArray, List.set_cons_zero, List.set_cons_succ]
    refine wpAnyH_take (i := 2) (v := ?v3) (gA rfl) (by kernel_rfl) (by kernel_rfl) (by kernel_rfl) (fun _ _ _ h => h) (Or.inl ⟨rfl, ?y3⟩) (by assumption) ?_
    case y3 => (intro w hSw; (try dsimp only at hSw); go_simp <;> with_reducible rfl)
    simp only [Act.put, List.setIfInBounds_toArray, List.set_cons_zero, List.set_cons_succ]
    refine wpAnyH_take (i := 3) (v := ?v4) (gA rfl) (by kernel_rfl) (by kernel_rfl) (by kernel_rfl) (fun _ _ _ h => h) (Or.inl ⟨rfl, ?y4⟩) (by assumption) ?_
    case y4 => (intro w hSw; (try dsimp only at hSw); go_simp <;> with_reducible rfl)
    simp only [Act.put, List.setIfInBounds_toArray, List.set_cons_zero, List.set_cons_succ]
    refine wpAnyH_take (i := 4) (v := ?v5) (gA rfl) (by kernel_rfl) (by kernel_rfl) (by kernel_rfl) (fun _ _ _ h => h) (Or.inl ⟨rfl, ?y5⟩) (by assumption) ?_
    case y5 => (intro w hSw; (try dsimp only at hSw); go_simp <;> with_reducible rfl)
    simp only [Act.put, List.setIfInBounds_toArray, List.set_cons_zero, List.set_cons_succ]
    refine wpAnyH_take (i := 5) (v := ?v6) (gA rfl) (by kernel_rfl) (by kernel_rfl) (by kernel_rfl) (fun _ _ _ h => h) (Or.inl ⟨rfl, ?y6⟩) (by assumption) ?_
    case y6 => (intro w hSw; (try dsimp only at hSw); go_simp <;> with_reducible rfl)
    simp only [Act.put, List.setIfInBounds_toArray, List.set_cons_zero, List.set_cons_succ]
    refine wpAnyH_ready (rs := [6]) (by kernel_rfl) (by simp) (AllReadyH.cons (gA rfl) (fun K hK => ?_) AllReadyH.nil)
    go_simp
    (go_at_call 189; refine (HF.out _).mono ?_; rintro e w2 ⟨rfl, hb2⟩; replace hb := hb.trans (hb2.mono hb.size); clear hb2)
    go_wp2_with fail
    refine hK.out _ _ ?_ (fun hHeld => ?_)
    · exact HC2.out _ hb
    clear hK K
    try simp only [Act.put, List.setIfInBounds_toArray, List.set_cons_zero, List.set_cons_succ]
    refine wpAnyH_take (i := 7) (v := ?v8) (gA rfl) (by kernel_rfl) (by kernel_rfl) (by kernel_rfl) (fun _ _ _ h => h) (Or.inl ⟨rfl, ?y8⟩) (by assumption) ?_
    case y8 => (intro w hSw; (try dsimp only at hSw); go_simp <;> with_reducible rfl)
    simp only [Act.put, List.setIfInBounds_toArray, List.set_cons_zero, List.set_cons_succ]
    refine wpAnyH_take (i := 8) (v := undef) (gA rfl) (by kernel_rfl) (by kernel_rfl) (by kernel_rfl) (fun _ _ _ h => h) (Or.inr ⟨rfl, rfl⟩) (by assumption) ?_
    simp only [Act.put, List.setIfInBounds_toArray, List.set_cons_zero, List.set_cons_succ]
    refine wpAnyH_take (i := 9) (v := undef) (gA rfl) (by kernel_rfl) (by kernel_rfl) (by kernel_rfl) (fun _ _ _ h => h) (Or.inr ⟨rfl, rfl⟩) (by assumption) ?_
    simp only [Act.put, List.setIfInBounds_toArray, List.set_cons_zero, List.set_cons_succ]
    refine wpAnyH_take (i := 10) (v := undef) (gA rfl) (by kernel_rfl) (by kernel_rfl) (by kernel_rfl) (fun _ _ _ h => h) (Or.inr ⟨rfl, rfl⟩) (by assumption) ?_
    simp only [Act.put, List.setIfInBounds_toArray, List.set_cons_zero, List.set_cons_succ]
    refine wpAnyH_take (i := 11) (v := undef) (gA rfl) (by kernel_rfl) (by kernel_rfl) (by kernel_rfl) (fun _ _ _ h => h) (Or.inr ⟨rfl, rfl⟩) (by assumption) ?_
    simp only [Act.put, List.setIfInBounds_toArray, List.set_cons_zero, List.set_cons_succ]
    refine wpAnyH_take (i := 12) (v := undef) (gA rfl) (by kernel_rfl) (by kernel_rfl) (by kernel_rfl) (fun _ _ _ h => h) (Or.inr ⟨rfl, rfl⟩) (by assumption) ?_
    simp only [Act.put, List.setIfInBounds_toArray, List.set_cons_zero, List.set_cons_succ]
    refine wpAnyH_take (i := 13) (v := undef) (gA rfl) (by kernel_rfl) (by kernel_rfl) (by kernel_rfl) (fun _ _ _ h => h) (Or.inr ⟨rfl, rfl⟩) (by assumption) ?_
    simp only [Act.put, List.setIfInBounds_toArray, List.set_cons_zero, List.set_cons_succ]
    refine wpAnyH_take (i := 14) (v := undef) (gA rfl) (by kernel_rfl) (by kernel_rfl) (by kernel_rfl) (fun _ _ _ h => h) (Or.inr ⟨rfl, rfl⟩) (by assumption) ?_
    simp only [Act.put, List.setIfInBounds_toArray, List.set_cons_zero, List.set_cons_succ]
    refine wpAnyH_take (i := 15) (v := undef) (gA rfl) (by kernel_rfl) (by kernel_rfl) (by kernel_rfl) (fun _ _ _ h => h) (Or.inr ⟨rfl, rfl⟩) (by assumption) ?_
    simp only [Act.put, List.setIfInBounds_toArray, List.set_cons_zero, List.set_cons_succ]
    refine wpAnyH_take (i := 16) (v := undef) (gA rfl) (by kernel_rfl) (by kernel_rfl) (by kernel_rfl) (fun _ _ _ h => h) (Or.inr ⟨rfl, rfl⟩) (by assumption) ?_
    simp only [Act.put, List.setIfInBounds_toArray, List.set_cons_zero, List.set_cons_succ]
    refine wpAnyH_take (i := 17) (v := undef) (gA rfl) (by kernel_rfl) (by kernel_rfl) (by kernel_rfl) (fun _ _ _ h => h) (Or.inr ⟨rfl, rfl⟩) (by assumption) ?_
    simp only [Act.put, List.setIfInBounds_toArray, List.set_cons_zero, List.set_cons_succ]
    refine wpAnyH_take (i := 18) (v := ?v19) (gA rfl) (by kernel_rfl) (by kernel_rfl) (by kernel_rfl) (fun _ _ _ h => h) (Or.inl ⟨rfl, ?y19⟩) (by assumption) ?_
    case y19 => (intro w hSw; (try dsimp only at hSw); go_simp <;> with_reducible rfl)
    simp only [Act.put, List.setIfInBounds_toArray, List.set_cons_zero, List.set_cons_succ]
    refine wpAnyH_take (i := 19) (v := ?v20) (gA rfl) (by kernel_rfl) (by kernel_rfl) (by kernel_rfl) (fun _ _ _ h => h) (Or.inl ⟨rfl, ?y20⟩) (by assumption) ?_
    case y20 => (intro w hSw; (try dsimp only at hSw); go_simp <;> with_reducible rfl)
    simp only [Act.put, List.setIfInBounds_toArray, List.set_cons_zero, List.set_cons_succ]
    refine wpAnyH_done (by kernel_rfl) ?_ _
    go_wp2_with fail
    go_ret
    exact ⟨rfl, HBW.out.trans (hb.mono HBW.out.size)⟩
  · obtain ⟨s, hs⟩ : ∃ s, s = srvB (higC x.cats) ct q := ⟨_, rfl⟩
    rw [← hs] at HM HR
    obtain rfl : r = s := by rw [HR.out]; rfl
    clear hs
    go_upto_region 1 with (fail)
    refine wp_region_held_drew (S := (fun w' => (w'.cell? ⟨g, 0, none⟩ = some (.int .i64 x.legs) ∧ w'.cell? ⟨g, 1, none⟩ = some (.int .i64 x.souls) ∧ w'.cell? ⟨g, 2, none⟩ = some (.slice A n cap) ∧ w'.cell? ⟨g, 3, none⟩ = some (.slice (some ⟨b, off, none⟩) m cap2)) ∧ (w'.cell? ⟨b, off + k * 4, none⟩ = some (strV nm) ∧ w'.cell? ⟨b, off + k * 4 + 1, none⟩ = some (.int .i64 (ct : Int)) ∧ w'.cell? ⟨b, off + k * 4 + 2, none⟩ = some (.int .i64 ber) ∧ w'.cell? ⟨b, off + k * 4 + 3, none⟩ = some (.bool lv)) ∧ (w'.cell? ⟨h, 0, none⟩ = some (.int .i64 id) ∧ w'.cell? ⟨h, 1, none⟩ = some (.int .i64 kind) ∧ w'.cell? ⟨h, 2, none⟩ = some (.int .i64 state) ∧ w'.cell? ⟨h, 3, none⟩ = some (.int .i64 gst) ∧ w'.cell? ⟨h, 4, none⟩ = some (.bool lev) ∧ w'.cell? ⟨h, 5, none⟩ = some (.int .i64 cab) ∧ w'.cell? ⟨h, 6, none⟩ = some (.int .i64 (q : Int)) ∧ w'.cell? ⟨h, 7, none⟩ = some (.int .i64 frm) ∧ w'.cell? ⟨h, 8, none⟩ = some (.int .i64 upto) ∧ w'.cell? ⟨h, 9, none⟩ = some (.int .i64 til) ∧ w'.cell? ⟨h, 10, none⟩ = some v))) (by kernel_rfl) (HC2.out _ hb) (fun hHeld => ?_)
    refine wpAnyH_take (i := 0) (v := ?v21) (gA rfl) (by kernel_rfl) (by kernel_rfl) (by kernel_rfl) (fun _ _ _ h => h) (Or.inl ⟨rfl, ?y21⟩) (by assumption) ?_
    case y21 => (intro w hSw; (try dsimp only at hSw); go_simp <;> with_reducible rfl)
    simp only [Act.put, List.setIfInBounds_toArray, List.set_cons_zero, List.set_cons_succ]
    refine wpAnyH_take (i := 1) (v := ?v22) (gA rfl) (by kernel_rfl) (by kernel_rfl) (by kernel_rfl) (fun _ _ _ h => h) (Or.inl ⟨rfl, ?y22⟩) (by assumption) ?_
    case y22 => (intro w hSw; (try dsimp only at hSw); go_simp <;> with_reducible rfl)
    simp only [Act.put, List.setIfInBounds_toArray, List.set_cons_zero, List.set_cons_succ]
    refine wpAnyH_take (i := 2) (v := ?v23) (gA rfl) (by kernel_rfl) (by kernel_rfl) (by kernel_rfl) (fun _ _ _ h => h) (Or.inl ⟨rfl, ?y23⟩) (by assumption) ?_
    case y23 => (intro w hSw; (try dsimp only at hSw); go_simp <;> with_reducible rfl)
    simp only [Act.put, List.setIfInBounds_toArray, List.set_cons_zero, List.set_cons_succ]
    refine wpAnyH_take (i := 3) (v := ?v24) (gA rfl) (by kernel_rfl) (by kernel_rfl) (by kernel_rfl) (fun _ _ _ h => h) (Or.inl ⟨rfl, ?y24⟩) (by assumption) ?_
    case y24 => (intro w hSw; (try dsimp only at hSw); go_simp <;> with_reducible rfl)
    simp only [Act.put, List.setIfInBounds_toArray, List.set_cons_zero, List.set_cons_succ]
    refine wpAnyH_take (i := 4) (v := ?v25) (gA rfl) (by kernel_rfl) (by kernel_rfl) (by kernel_rfl) (fun _ _ _ h => h) (Or.inl ⟨rfl, ?y25⟩) (by assumption) ?_
    case y25 => (intro w hSw; (try dsimp only at hSw); go_simp <;> with_reducible rfl)
    simp only [Act.put, List.setIfInBounds_toArray, List.set_cons_zero, List.set_cons_succ]
    refine wpAnyH_take (i := 5) (v := ?v26) (gA rfl) (by kernel_rfl) (by kernel_rfl) (by kernel_rfl) (fun _ _ _ h => h) (Or.inl ⟨rfl, ?y26⟩) (by assumption) ?_
    case y26 => (intro w hSw; (try dsimp only at hSw); go_simp <;> with_reducible rfl)
    simp only [Act.put, List.setIfInBounds_toArray, List.set_cons_zero, List.set_cons_succ]
    refine wpAnyH_ready (rs := [6]) (by kernel_rfl) (by simp) (AllReadyH.cons (gA rfl) (fun K hK => ?_) AllReadyH.nil)
    go_simp
    (go_at_call 189; refine (HF.out _).mono ?_; rintro e w2 ⟨rfl, hb2⟩; replace hb := hb.trans (hb2.mono hb.size); clear hb2; have HCALL := Lib.hid (HM.out w2 ((HC.out.bel HBW.out).bel hb)))
    go_wp2_with fail
    refine hK.out _ _ ?_ (fun hHeld => ?_)
    · exact HC2.out _ hb
    clear hK K
    try simp only [Act.put, List.setIfInBounds_toArray, List.set_cons_zero, List.set_cons_succ]
    refine wpAnyH_take (i := 7) (v := ?v28) (gA rfl) (by kernel_rfl) (by kernel_rfl) (by kernel_rfl) (fun _ _ _ h => h) (Or.inl ⟨rfl, ?y28⟩) (by assumption) ?_
    case y28 => (intro w hSw; (try dsimp only at hSw); go_simp <;> with_reducible rfl)
    simp only [Act.put, List.setIfInBounds_toArray, List.set_cons_zero, List.set_cons_succ]
    refine wpAnyH_take (i := 8) (v := ?v29) (gA rfl) (by kernel_rfl) (by kernel_rfl) (by kernel_rfl) (fun _ _ _ h => h) (Or.inl ⟨rfl, ?y29⟩) (by assumption) ?_
    case y29 => (intro w hSw; (try dsimp only at hSw); go_simp <;> with_reducible rfl)
    simp only [Act.put, List.setIfInBounds_toArray, List.set_cons_zero, List.set_cons_succ]
    refine wpAnyH_take (i := 9) (v := ?v30) (gA rfl) (by kernel_rfl) (by kernel_rfl) (by kernel_rfl) (fun _ _ _ h => h) (Or.inl ⟨rfl, ?y30⟩) (by assumption) ?_
    case y30 => (intro w hSw; (try dsimp only at hSw); go_simp <;> with_reducible rfl)
    simp only [Act.put, List.setIfInBounds_toArray, List.set_cons_zero, List.set_cons_succ]
    refine wpAnyH_take (i := 10) (v := ?v31) (gA rfl) (by kernel_rfl) (by kernel_rfl) (by kernel_rfl) (fun _ _ _ h => h) (Or.inl ⟨rfl, ?y31⟩) (by assumption) ?_
    case y31 => (intro w hSw; (try dsimp only at hSw); go_simp <;> with_reducible rfl)
    simp only [Act.put, List.setIfInBounds_toArray, List.set_cons_zero, List.set_cons_succ]
    refine wpAnyH_take (i := 11) (v := ?v32) (gA rfl) (by kernel_rfl) (by kernel_rfl) (by kernel_rfl) (fun _ _ _ h => h) (Or.inl ⟨rfl, ?y32⟩) (by assumption) ?_
    case y32 => (intro w hSw; (try dsimp only at hSw); go_simp <;> with_reducible rfl)
    simp only [Act.put, List.setIfInBounds_toArray, List.set_cons_zero, List.set_cons_succ]
    refine wpAnyH_take (i := 12) (v := ?v33) (gA rfl) (by kernel_rfl) (by kernel_rfl) (by kernel_rfl) (fun _ _ _ h => h) (Or.inl ⟨rfl, ?y33⟩) (by assumption) ?_
    case y33 => (intro w hSw; (try dsimp only at hSw); go_simp <;> with_reducible rfl)
    simp only [Act.put, List.setIfInBounds_toArray, List.set_cons_zero, List.set_cons_succ]
    refine wpAnyH_take (i := 13) (v := ?v34) (gA rfl) (by kernel_rfl) (by kernel_rfl) (by kernel_rfl) (fun _ _ _ h => h) (Or.inl ⟨rfl, ?y34⟩) (by assumption) ?_
    case y34 => (intro w hSw; (try dsimp only at hSw); go_simp <;> with_reducible rfl)
    simp only [Act.put, List.setIfInBounds_toArray, List.set_cons_zero, List.set_cons_succ]
    refine wpAnyH_take (i := 14) (v := ?v35) (gA rfl) (by kernel_rfl) (by kernel_rfl) (by kernel_rfl) (fun _ _ _ h => h) (Or.inl ⟨rfl, ?y35⟩) (by assumption) ?_
    case y35 => (intro w hSw; (try dsimp only at hSw); go_simp <;> with_reducible rfl)
    simp only [Act.put, List.setIfInBounds_toArray, List.set_cons_zero, List.set_cons_succ]
    refine wpAnyH_take (i := 15) (v := ?v36) (gA rfl) (by kernel_rfl) (by kernel_rfl) (by kernel_rfl) (fun _ _ _ h => h) (Or.inl ⟨rfl, ?y36⟩) (by assumption) ?_
    case y36 => (intro w hSw; (try dsimp only at hSw); go_simp <;> with_reducible rfl)
    simp only [Act.put, List.setIfInBounds_toArray, List.set_cons_zero, List.set_cons_succ]
    refine wpAnyH_take (i := 16) (v := ?v37) (gA rfl) (by kernel_rfl) (by kernel_rfl) (by kernel_rfl) (fun _ _ _ h => h) (Or.inl ⟨rfl, ?y37⟩) (by assumption) ?_
    case y37 => (intro w hSw; (try dsimp only at hSw); go_simp <;> with_reducible rfl)
    simp only [Act.put, List.setIfInBounds_toArray, List.set_cons_zero, List.set_cons_succ]
    refine wpAnyH_ready (rs := [17]) (by kernel_rfl) (by simp) (AllReadyH.cons (gA rfl) (fun K hK => ?_) AllReadyH.nil)
    go_simp
    (go_at_call 207; refine HCALL.out.mono ?_; rintro e w3 ⟨rfl, hb2⟩; replace hb := hb.trans (hb2.mono hb.size); clear hb2)
    go_wp2_with fail
    refine hK.out _ _ ?_ (fun hHeld => ?_)
    · exact HC2.out _ hb
    clear hK K
    try simp only [Act.put, List.setIfInBounds_toArray, List.set_cons_zero, List.set_cons_succ]
    refine wpAnyH_take (i := 18) (v := ?v39) (gA rfl) (by kernel_rfl) (by kernel_rfl) (by kernel_rfl) (fun _ _ _ h => h) (Or.inl ⟨rfl, ?y39⟩) (by assumption) ?_
    case y39 => (intro w hSw; (try dsimp only at hSw); go_simp <;> with_reducible rfl)
    simp only [Act.put, List.setIfInBounds_toArray, List.set_cons_zero, List.set_cons_succ]
    refine wpAnyH_take (i := 19) (v := ?v40) (gA rfl) (by kernel_rfl) (by kernel_rfl) (by kernel_rfl) (fun _ _ _ h => h) (Or.inl ⟨rfl, ?y40⟩) (by assumption) ?_
    case y40 => (intro w hSw; (try dsimp only at hSw); go_simp <;> with_reducible rfl)
    simp only [Act.put, List.setIfInBounds_toArray, List.set_cons_zero, List.set_cons_succ]
    refine wpAnyH_done (by kernel_rfl) ?_ _
    go_wp2_with fail
    go_ret
    exact ⟨rfl, HBW.out.trans (hb.mono HBW.out.size)⟩
end Go.Proofs.YtoilcdgpeilgaaaGreat
namespace Go.Proofs.YtoilcdgpeilgaaaGreat
open Go.RowKit Go.Shelf
theorem wrap_len {m : Nat} (h : m ≤ 9223372036854775807) : IntKind.i64.wrap ((m : Int) - 1) = (m : Int) - 1 := by rw [IntKind.wrap_i64]; omega
set_option maxRecDepth 100000 in
set_option maxHeartbeats 4000000 in
theorem named_any (x : Shp) (A : Option Addr) (n cap : Nat) (B : Option Addr) (m cap2 : Nat) (b : Bkg) (v : Value) (w : World) (hb : Sl cabC 4 w All B m cap2 x.cabs) :
    Calls Tryz.prog 184 #[.agg #[.int .i64 x.legs, .int .i64 x.souls, .slice A n cap, .slice B m cap2], .agg (bkgA b v)] w fun e w' => e = .returned (.int .i64 (namedE x b)) ∧ Below w.heap.size w w' := by
  obtain ⟨id, kind, state, gst, lev, cab, cat, frm, upto, til, fol⟩ := b
  obtain ⟨r, hr⟩ : ∃ r, r = namedE x ⟨id, kind, state, gst, lev, cab, cat, frm, upto, til, fol⟩ := ⟨_, rfl⟩
  rw [← hr]
  obtain ⟨q1, hq1⟩ : ∃ q, q = betB cab 0 ((m : Int) - 1) := ⟨_, rfl⟩
  have HR := Lib.hid (show r = if q1 = false then 3 else if cat ≠ 0 then 1 else if fitB (cabAt x cab) ⟨id, kind, state, gst, lev, cab, cat, frm, upto, til, fol⟩ = false then 4 else 0 by rw [hr, hq1, ← hb.len]; rfl)
  have hwr := wrap_len hb.bd
  have hw1 := fun W => bwithin_any cab 0 ((m : Int) - 1) W
  rw [← hq1] at hw1
  have HB := Lib.hid hb
  have HQ := Lib.hid hq1
  clear hq1
  clear hr hb
  go_enter Tryz.func184, Tryz.ntmps184
  go_upto_region 0 with (fail)
  go_cut [2, 3, 4] (fun p p2 _ wx => ∃ g h, p = .pointer (some ⟨g, 0, none⟩) ∧ p2 = .pointer (some ⟨h, 0, none⟩) ∧ Blk wx g #[.int .i64 x.legs, .int .i64 x.souls, .slice A n cap, .slice B m cap2] 25 ∧ Blk wx h (bkgA ⟨id, kind, state, gst, lev, cab, cat, frm, upto, til, fol⟩ v) 37 ∧ Below w.heap.size w wx)
  case first => as_aux_lemma =>
    go_wp2_with fail
    go_meet
    exact ⟨_, _, rfl, rfl, blk2_0 _ _ _, blk2_1 _ _ _, bel2 _ _ _⟩
  obtain ⟨g, h, rfl, rfl, hG, hH, hbw⟩ := hcut
  have g3 : wc.cell? ⟨g, 3, none⟩ = some (.slice B m cap2) := hG.cell rfl
  have k0 : wc.cell? ⟨h, 0, none⟩ = some (.int .i64 id) := hH.cell rfl
  have k1 : wc.cell? ⟨h, 1, none⟩ = some (.int .i64 kind) := hH.cell rfl
  have k2 : wc.cell? ⟨h, 2, none⟩ = some (.int .i64 state) := hH.cell rfl
  have k3 : wc.cell? ⟨h, 3, none⟩ = some (.int .i64 gst) := hH.cell rfl
  have k4 : wc.cell? ⟨h, 4, none⟩ = some (.bool lev) := hH.cell rfl
  have k5 : wc.cell? ⟨h, 5, none⟩ = some (.int .i64 cab) := hH.cell rfl
  have k6 : wc.cell? ⟨h, 6, none⟩ = some (.int .i64 cat) := hH.cell rfl
  have k7 : wc.cell? ⟨h, 7, none⟩ = some (.int .i64 frm) := hH.cell rfl
  have k8 : wc.cell? ⟨h, 8, none⟩ = some (.int .i64 upto) := hH.cell rfl
  have k9 : wc.cell? ⟨h, 9, none⟩ = some (.int .i64 til) := hH.cell rfl
  have k10 : wc.cell? ⟨h, 10, none⟩ = some (v) := hH.cell rfl
  cases q1
  · obtain rfl : r = 3 := by rw [HR.out, if_pos rfl]
    go_wp2_with fail
    refine (hw1 _).mono ?_
    rintro e w9 ⟨rfl, rfl⟩
    go_wp2_with fail
    go_ret
    exact ⟨rfl, hbw⟩
  have hcb := betB_iff.1 HQ.out.symm
  obtain ⟨k, rfl⟩ : ∃ k : Nat, cab = k := ⟨cab.toNat, by omega⟩
  have hk : k < m := by omega
  by_cases hcat : cat = 0
  · subst hcat
    obtain ⟨b, off, nm, ct, ber, lv, hB, hx, e0, e1, e2, e3⟩ := (HB.out.bel hbw).cab hk
    subst hB
    have hf : cabAt x k = ⟨nm, ct, ber, lv⟩ := hx
    have HF := Lib.hid (fun W => bFits_any ⟨nm, ct, ber, lv⟩ ⟨id, kind, state, gst, lev, k, 0, frm, upto, til, fol⟩ v W)
    obtain ⟨f, hff⟩ : ∃ f, f = fitB ⟨nm, ct, ber, lv⟩ ⟨id, kind, state, gst, lev, k, 0, frm, upto, til, fol⟩ := ⟨_, rfl⟩
    have HR2 := Lib.hid (show r = if f = false then 4 else 0 by rw [HR.out, if_neg (by simp), if_neg (by simp), hf, hff])
    rw [← hff] at HF
    clear HR hx hf hff HQ hcb
    have hk0 : (0 : Int) ≤ (k : Int) := Int.natCast_nonneg _
    have hk1 : (k : Int) < (m : Int) := by omega
    go_wp2_with fail
    refine (hw1 _).mono ?_
    rintro e w9 ⟨rfl, rfl⟩
    go_wp2_with fail
    go_upto_region 5 with (fail)
    go_cut [18] (fun t wx => t = .bool (!f) ∧ Below wc.heap.size wc wx)
    case first => as_aux_lemma =>
      go_region_with (go_at_call 239; refine (HF.out _).mono ?_; rintro e wn ⟨rfl, hbn⟩)
      all_goals
        go_wp2_with fail
        go_meet
        exact ⟨rfl, (Below.refl _ _).drew.trans hbn⟩
    obtain ⟨rfl, hb4⟩ := hcut
    cases f
    · obtain rfl : r = 4 := HR2.out
      go_wp2_with fail
      go_ret
      exact ⟨rfl, hbw.trans (hb4.mono hbw.size)⟩
    · obtain rfl : r = 0 := HR2.out
      go_wp2_with fail
      go_ret
      exact ⟨rfl, hbw.trans (hb4.mono hbw.size)⟩
  · obtain rfl : r = 1 := by rw [HR.out, if_neg (by simp), if_pos hcat]
    have h0' : (cat != 0) = true := by simpa using hcat
    clear hcat
    go_wp2_with fail
    refine (hw1 _).mono ?_
    rintro e w9 ⟨rfl, rfl⟩
    go_wp2_with fail
    go_ret
    exact ⟨rfl, hbw⟩
set_option maxRecDepth 100000 in
set_option maxHeartbeats 4000000 in
theorem promise_any (x : Shp) (A : Option Addr) (n cap : Nat) (B : Option Addr) (m cap2 : Nat) (b : Bkg) (v : Value) (w : World) (hc : Sl catC 2 w All A n cap x.cats) (hb : Sl cabC 4 w All B m cap2 x.cabs) (ho : OkShp x) :
    Calls Tryz.prog 185 #[.agg #[.int .i64 x.legs, .int .i64 x.souls, .slice A n cap, .slice B m cap2], .agg (bkgA b v)] w fun e w' => e = .returned (.int .i64 (promE x b)) ∧ Below w.heap.size w w' := by
  obtain ⟨id, kind, state, gst, lev, cab, cat, frm, upto, til, fol⟩ := b
  obtain ⟨r, hr⟩ : ∃ r, r = promE x ⟨id, kind, state, gst, lev, cab, cat, frm, upto, til, fol⟩ := ⟨_, rfl⟩
  rw [← hr]
  obtain ⟨q1, hq1⟩ : ∃ q, q = betB cat 0 ((n : Int) - 1) := ⟨_, rfl⟩
  obtain ⟨q2, hq2⟩ : ∃ q, q = decide ((⟨frm, upto⟩ : Span) ≠ ⟨0, x.legs⟩) := ⟨_, rfl⟩
  obtain ⟨q3, hq3⟩ : ∃ q, q = betB cab (-1) ((m : Int) - 1) := ⟨_, rfl⟩
  have HR := Lib.hid (show r = if q1 = false then 3 else if q2 = true then 4 else if q3 = false then 3 else if 0 ≤ cab ∧ eligB x ⟨id, kind, state, gst, lev, cab, cat, frm, upto, til, fol⟩ cab = false then 4 else 0 by
    rw [hr, hq1, hq2, hq3, ← hb.len, ← hc.len]
    unfold promE
    congr 1
    have hspan : (frm ≠ 0 ∨ upto ≠ x.legs) ↔ decide ((⟨frm, upto⟩ : Span) ≠ ⟨0, x.legs⟩) = true := by rw [decide_eq_true_iff]; simp only [ne_eq, Span.mk.injEq]; omega
    simp only [hspan])
  have hwr := wrap_len hb.bd
  have hwr2 := wrap_len hc.bd
  have hw1 := fun W => bwithin_any cat 0 ((n : Int) - 1) W
  have hw3 := fun W => bwithin_any cab (-1) ((m : Int) - 1) W
  have hne := fun W => span_ne ⟨frm, upto⟩ ⟨0, x.legs⟩ W
  simp only at hne
  rw [← hq1] at hw1
  rw [← hq2] at hne
  rw [← hq3] at hw3
  have HEL := Lib.hid (fun (k : Nat) W h1 h2 h3 h4 h5 => Eligible_any x A n cap B m cap2 ⟨id, kind, state, gst, lev, cab, cat, frm, upto, til, fol⟩ v k W h1 h2 ho h3 h4 h5)
  have HB := Lib.hid hb
  have HC := Lib.hid hc
  have HQ1 := Lib.hid hq1
  clear hq1
  have HQ3 := Lib.hid hq3
  clear hq3
  clear hr hb hc hq2
  go_enter Tryz.func185, Tryz.ntmps185
  go_upto_region 0 with (fail)
  go_cut [2, 3, 4] (fun p p2 _ wx => ∃ g h, p = .pointer (some ⟨g, 0, none⟩) ∧ p2 = .pointer (some ⟨h, 0, none⟩) ∧ Blk wx g #[.int .i64 x.legs, .int .i64 x.souls, .slice A n cap, .slice B m cap2] 25 ∧ Blk wx h (bkgA ⟨id, kind, state, gst, lev, cab, cat, frm, upto, til, fol⟩ v) 37 ∧ Below w.heap.size w wx)
  case first => as_aux_lemma =>
    go_wp2_with fail
    go_meet
    exact ⟨_, _, rfl, rfl, blk2_0 _ _ _, blk2_1 _ _ _, bel2 _ _ _⟩
  obtain ⟨g, h, rfl, rfl, hG, hH, hbw⟩ := hcut
  have g0 : wc.cell? ⟨g, 0, none⟩ = some (.int .i64 x.legs) := hG.cell rfl
  have g1 : wc.cell? ⟨g, 1, none⟩ = some (.int .i64 x.souls) := hG.cell rfl
  have g2 : wc.cell? ⟨g, 2, none⟩ = some (.slice A n cap) := hG.cell rfl
  have g3 : wc.cell? ⟨g, 3, none⟩ = some (.slice B m cap2) := hG.cell rfl
  have k0 : wc.cell? ⟨h, 0, none⟩ = some (.int .i64 id) := hH.cell rfl
  have k1 : wc.cell? ⟨h, 1, none⟩ = some (.int .i64 kind) := hH.cell rfl
  have k2 : wc.cell? ⟨h, 2, none⟩ = some (.int .i64 state) := hH.cell rfl
  have k3 : wc.cell? ⟨h, 3, none⟩ = some (.int .i64 gst) := hH.cell rfl
  have k4 : wc.cell? ⟨h, 4, none⟩ = some (.bool lev) := hH.cell rfl
  have k5 : wc.cell? ⟨h, 5, none⟩ = some (.int .i64 cab) := hH.cell rfl
  have k6 : wc.cell? ⟨h, 6, none⟩ = some (.int .i64 cat) := hH.cell rfl
  have k7 : wc.cell? ⟨h, 7, none⟩ = some (.int .i64 frm) := hH.cell rfl
  have k8 : wc.cell? ⟨h, 8, none⟩ = some (.int .i64 upto) := hH.cell rfl
  have k9 : wc.cell? ⟨h, 9, none⟩ = some (.int .i64 til) := hH.cell rfl
  have k10 : wc.cell? ⟨h, 10, none⟩ = some (v) := hH.cell rfl
  go_wp2_with fail
  refine (hw1 _).mono ?_
  rintro e w9 ⟨rfl, rfl⟩
  cases q1
  · obtain rfl : r = 3 := by rw [HR.out, if_pos rfl]
    go_wp2_with fail
    go_ret
    exact ⟨rfl, hbw⟩
  have hcb := betB_iff.1 HQ1.out.symm
  cases q2
  rotate_left
  · obtain rfl : r = 4 := by rw [HR.out, if_neg (by simp), if_pos rfl]
    clear hcb
    go_wp2_with fail
    go_ret
    exact ⟨rfl, hbw⟩
  go_wp2_with fail
  refine (hw3 _).mono ?_
  rintro e w9 ⟨rfl, rfl⟩
  cases q3
  · obtain rfl : r = 3 := by rw [HR.out, if_neg (by simp), if_neg (by simp), if_pos rfl]
    clear hcb
    go_wp2_with fail
    go_ret
    exact ⟨rfl, hbw⟩
  have hcm := betB_iff.1 HQ3.out.symm
  by_cases h0 : 0 ≤ cab
  · obtain ⟨k, rfl⟩ : ∃ k : Nat, cab = k := ⟨cab.toNat, by omega⟩
    have HCALL := Lib.hid (HEL.out k wc (HC.out.bel hbw) (HB.out.bel hbw) (by omega) hcb.1 (by have := hcb.2; omega))
    obtain ⟨f, hf⟩ : ∃ f, f = eligB x ⟨id, kind, state, gst, lev, k, cat, frm, upto, til, fol⟩ k := ⟨_, rfl⟩
    have HR2 := Lib.hid (show r = if f = false then 4 else 0 by
      rw [HR.out, if_neg (by simp), if_neg (by simp), if_neg (by simp), ← hf]
      cases f <;> simp <;> omega)
    rw [← hf] at HCALL
    clear HR hf hcb hcm HQ1 HQ3
    go_wp2_with fail
    refine HCALL.out.mono ?_
    rintro e wn ⟨rfl, hb4⟩
    cases f
    · obtain rfl : r = 4 := HR2.out
      go_wp2_with fail
      go_ret
      exact ⟨rfl, hbw.trans (hb4.mono hbw.size)⟩
    · obtain rfl : r = 0 := HR2.out
      go_wp2_with fail
      go_ret
      exact ⟨rfl, hbw.trans (hb4.mono hbw.size)⟩
  · obtain rfl : r = 0 := by rw [HR.out, if_neg (by simp), if_neg (by simp), if_neg (by simp), if_neg (fun h => h0 h.1)]
    have h1 : cab < 0 := by omega
    clear hcb hcm
    go_wp2_with fail
    go_ret
    exact ⟨rfl, hbw⟩
end Go.Proofs.YtoilcdgpeilgaaaGreat
