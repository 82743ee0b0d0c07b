/-
  Words, laws and contracts: SameT, SellN, SellP.
-/
import Derived.Test.YtoilcdgpeilgaaaGreatBun22
import Derived.BigQuiet
set_option linter.unusedSimpArgs false
set_option linter.unusedVariables false
namespace Go.Proofs.YtoilcdgpeilgaaaGreat
open Go.RowKit Go.Shelf
theorem bkCells {w : World} {h : Nat} {b : Bkg} {v : Value} {t : TypeId} (k : Blk w h (bkgA b v) t) : w.cell? ⟨h, 0, none⟩ = some (.int .i64 b.id) ∧ w.cell? ⟨h, 1, none⟩ = some (.int .i64 b.kind) ∧ w.cell? ⟨h, 2, none⟩ = some (.int .i64 b.state) ∧ w.cell? ⟨h, 3, none⟩ = some (.int .i64 b.gst) ∧ w.cell? ⟨h, 4, none⟩ = some (.bool b.lev) ∧ w.cell? ⟨h, 5, none⟩ = some (.int .i64 b.cab) ∧ w.cell? ⟨h, 6, none⟩ = some (.int .i64 b.cat) ∧ w.cell? ⟨h, 7, none⟩ = some (.int .i64 b.frm) ∧ w.cell? ⟨h, 8, none⟩ = some (.int .i64 b.upto) ∧ w.cell? ⟨h, 9, none⟩ = some (.int .i64 b.til) ∧ w.cell? ⟨h, 10, none⟩ = some v :=
  ⟨k.cell rfl, k.cell rfl, k.cell rfl, k.cell rfl, k.cell rfl, k.cell rfl, k.cell rfl, k.cell rfl, k.cell rfl, k.cell rfl, k.cell rfl⟩
end Go.Proofs.YtoilcdgpeilgaaaGreat
namespace Go.Proofs.YtoilcdgpeilgaaaGreat
open Go.RowKit Go.Shelf
theorem ins_perm2 (l : List Bkg) (c : Bkg) : (insS l c).Perm (c :: l) := by
  unfold insS
  have h := List.perm_middle (a := c) (l₁ := l.take (posI l c.id)) (l₂ := l.drop (posI l c.id))
  rwa [List.take_append_drop] at h
theorem sum_perm {f : Bkg → Int} {l m : List Bkg} (h : l.Perm m) : (l.map f).sum = (m.map f).sum := by
  induction h with
  | nil => rfl
  | cons a _ ih => simp only [List.map_cons, List.sum_cons, ih]
  | swap a b l => simp only [List.map_cons, List.sum_cons]; omega
  | trans _ _ h1 h2 => exact h1.trans h2
theorem soul_perm {l m : List Bkg} (h : l.Perm m) (N : Nat) : soulL l N = soulL m N := by
  unfold soulL
  refine List.map_congr_left fun k _ => ?_
  unfold soulK
  exact sum_perm h
theorem spl_perm {l m : List Bkg} (h : l.Perm m) (c : Int) : (spL l c).Perm (spL m c) := by
  unfold spL
  exact (h.filter _).map _
theorem spF_perm1 {a b : List Span} (h : a.Perm b) (h1 : ∀ x ∈ a, x.frm < x.upto) (hs : (spF a).isSome = true) : (spF b).isSome = true := by
  obtain ⟨out, ho⟩ := Option.isSome_iff_exists.1 hs
  obtain ⟨p, q⟩ := spF_some h1 ho
  have hp : b.Pairwise (fun x y => meetB x y = false) := (List.Perm.pairwise_iff (fun {x y} (e : meetB x y = false) => by rw [meet_comm]; exact e) (p.trans h)).1 (pair_meet q)
  obtain ⟨o2, h2⟩ := spF_apart (fun x hx => h1 x (h.mem_iff.2 hx)) hp
  rw [h2]; rfl
theorem tak_perm {l m : List Bkg} (h : l.Perm m) (h1 : ∀ b ∈ l, b.frm < b.upto) (c : Int) : takB l c = takB m c := by
  have hs : ∀ x ∈ spL l c, x.frm < x.upto := fun x hx => by
    obtain ⟨b, hb, rfl⟩ := List.mem_map.1 hx
    exact h1 b (List.mem_filter.1 hb).1
  have hp := spl_perm h c
  unfold takB
  by_cases q : (spF (spL l c)).isSome = true
  · rw [q, spF_perm1 hp hs q]
  · by_cases q2 : (spF (spL m c)).isSome = true
    · exact absurd (spF_perm1 hp.symm (fun x hx => hs x (hp.mem_iff.2 hx)) q2) q
    · rw [Bool.not_eq_true] at q q2; rw [q, q2]
theorem empty_perm {l m : List Bkg} (h : l.Perm m) (c : Nat) : emptyB l c = emptyB m c := by
  unfold emptyB
  congr 1
  rw [Bool.eq_iff_iff, List.any_eq_true, List.any_eq_true]
  exact ⟨fun ⟨b, hb, q⟩ => ⟨b, h.mem_iff.1 hb, q⟩, fun ⟨b, hb, q⟩ => ⟨b, h.mem_iff.2 hb, q⟩⟩
structure Twin (c d : Bkg) : Prop where
  kind : c.kind = d.kind
  state : c.state = d.state
  gst : c.gst = d.gst
  lev : c.lev = d.lev
  cab : c.cab = d.cab
  cat : c.cat = d.cat
  frm : c.frm = d.frm
  upto : c.upto = d.upto
  til : c.til = d.til
theorem edgF_same {x y : Sai} (hm : ∀ b, mayL x b = mayL y b) : ∀ (l : List Bkg) (i : Nat), edgF x l i = edgF y l i
  | [], _ => rfl
  | b :: l, i => by
    show (mayL x b).map _ ++ edgF x l (i + 1) = (mayL y b).map _ ++ edgF y l (i + 1)
    rw [hm, edgF_same hm l (i + 1)]
theorem room_twin {x : Sai} {c d : Bkg} (h : Twin c d) (hk : c.kind = 1) (hl : ∀ b ∈ x.bks, b.frm < b.upto) (hc : c.frm < c.upto) : roomE (withS x c) = roomE (withS x d) := by
  have hpc := ins_perm2 x.bks c
  have hpd := ins_perm2 x.bks d
  have hlive : liveB c = liveB d := by unfold liveB; rw [h.state]
  have hhas : ∀ k, hasB k c = hasB k d := fun k => by unfold hasB; rw [hlive, h.cab]
  have hoc : openB c = false := by unfold openB; rw [hk]; rfl
  have hod : openB d = false := by unfold openB; rw [← h.kind, hk]; rfl
  have hopen : ∀ e : Bkg, openB e = false → openL (withS x e) = openL x := fun e he => by
    show (insS x.bks e).filter openB = x.bks.filter openB
    unfold insS
    rw [List.filter_append, List.filter_cons, if_neg (by rw [he]; simp), ← List.filter_append, List.take_append_drop]
  have hfr : ∀ e : Bkg, e.frm < e.upto → ∀ b ∈ insS x.bks e, b.frm < b.upto := fun e he b hb => by
    rcases mem_ins hb with rfl | hb
    · exact he
    · exact hl b hb
  have htak : ∀ k : Int, takB (insS x.bks c) k = takB (insS x.bks d) k := fun k => by
    rw [tak_perm hpc (hfr c hc), tak_perm hpd (hfr d (by rw [← h.frm, ← h.upto]; exact hc))]
    have : spL (c :: x.bks) k = spL (d :: x.bks) k := by
      unfold spL
      rw [List.filter_cons, List.filter_cons, hhas]
      split
      · rw [List.map_cons, List.map_cons, h.frm, h.upto]
      · rfl
    unfold takB; rw [this]
  have hsoul : ∀ N, soulL (insS x.bks c) N = soulL (insS x.bks d) N := fun N => by
    rw [soul_perm hpc, soul_perm hpd]
    unfold soulL
    refine List.map_congr_left fun k _ => ?_
    unfold soulK
    rw [List.map_cons, List.map_cons, hlive, h.frm, h.upto, h.gst]
  have hemp : ∀ k, emptyB (insS x.bks c) k = emptyB (insS x.bks d) k := fun k => by
    rw [empty_perm hpc, empty_perm hpd]
    unfold emptyB
    rw [List.any_cons, List.any_cons, hhas]
  have hmay : ∀ b, mayL (withS x c) b = mayL (withS x d) b := fun b => by
    show ((List.range x.ship.cabs.length).filter (fun k : Nat => eligB x.ship b (k : Int) && emptyB (insS x.bks c) k)).map Int.ofNat = ((List.range x.ship.cabs.length).filter (fun k : Nat => eligB x.ship b (k : Int) && emptyB (insS x.bks d) k)).map Int.ofNat
    rw [show (fun k : Nat => eligB x.ship b (k : Int) && emptyB (insS x.bks c) k) = (fun k : Nat => eligB x.ship b (k : Int) && emptyB (insS x.bks d) k) from funext fun k => by rw [hemp]]
  have htw : twiceB (withS x c) = twiceB (withS x d) := by
    show (List.range x.ship.cabs.length).any (fun k : Nat => !takB (insS x.bks c) (k : Int)) = (List.range x.ship.cabs.length).any (fun k : Nat => !takB (insS x.bks d) (k : Int))
    rw [show (fun k : Nat => !takB (insS x.bks c) (k : Int)) = (fun k : Nat => !takB (insS x.bks d) (k : Int)) from funext fun k => by rw [htak]]
  have hed : edgL (withS x c) = edgL (withS x d) := by
    unfold edgL
    rw [hopen c hoc, hopen d hod]
    exact edgF_same hmay _ _
  have hid : idsL (withS x c) = idsL (withS x d) := by
    unfold idsL
    rw [hopen c hoc, hopen d hod]
  have hso : soulL (withS x c).bks (withS x c).ship.legs.toNat = soulL (withS x d).bks (withS x d).ship.legs.toNat := hsoul _
  unfold roomE
  rw [htw, hso, hed, hid]
  rfl
theorem of_twin {X : Shp} {c d : Bkg} (h : Twin c d) (fc : c.fol = []) (fd : d.fol = []) (ic : 1 ≤ c.id ∧ c.id ≤ 999999) (id' : 1 ≤ d.id ∧ d.id ≤ 999999) : ofE X c = ofE X d := by
  obtain ⟨i1, k1, s1, g1, l1, a1, t1, f1, u1, p1, o1⟩ := c
  obtain ⟨i2, k2, s2, g2, l2, a2, t2, f2, u2, p2, o2⟩ := d
  obtain ⟨e1, e2, e3, e4, e5, e6, e7, e8, e9⟩ := h
  simp only at e1 e2 e3 e4 e5 e6 e7 e8 e9 fc fd ic id'
  subst e1 e2 e3 e4 e5 e6 e7 e8 e9 fc fd
  unfold ofE
  simp only [betB_true ic.1 ic.2, betB_true id'.1 id'.2]
  rfl
theorem sell_twin {x : Sai} {c d : Bkg} (h : Twin c d) (hk : c.kind = 1) (fc : c.fol = []) (fd : d.fol = []) (ic : 1 ≤ c.id ∧ c.id ≤ 999999) (id' : 1 ≤ d.id ∧ d.id ≤ 999999) (nc : hasId x.bks c.id = false) (nd : hasId x.bks d.id = false) : sellE x c 1 = sellE x d 1 := by
  have ho := of_twin (X := x.ship) h fc fd ic id'
  by_cases h0 : saiE x = 0
  · rw [sellE_ok h0, sellE_ok h0]
    unfold sellE1
    rw [h.kind, h.state, fc, fd, h.cab, ho]
    by_cases h3 : ofE x.ship d = 0
    · have hok := sai_ok h0
      have hput : putE x c = putE x d := by
        unfold putE
        have hp : put0 x c = put0 x d := by unfold put0 lateB; rw [h.state, h.til, h.kind]
        have hcd : catS x c = catS x d := by unfold catS; rw [h.kind, h.cab, h.cat]
        rw [hp, nc, nd, room_twin (c := soldB x c) (d := soldB x d) ⟨h.kind, h.state, h.gst, h.lev, h.cab, h.cat, h.frm, h.upto, h.til⟩ hk (fun b hb => (span_ok (hok.bs.bk b hb).span).2.2.2.1) (span_ok (bk_ok (ho.trans h3)).span).2.2.2.1]
      rw [hput]
    · by_cases q1 : d.kind ≠ 1 ∨ d.state = 3
      · rw [if_pos q1, if_pos q1]
      · rw [if_neg q1, if_neg q1, if_pos h3, if_pos h3]
  · unfold sellE
    rw [if_pos h0, if_pos h0]
end Go.Proofs.YtoilcdgpeilgaaaGreat
namespace Go.Proofs.YtoilcdgpeilgaaaGreat
open Go.RowKit Go.Shelf
def filN (f : Nat → Bool) (j : Nat) : List Int := ((List.range j).filter f).map Int.ofNat
theorem fil_split (f : Nat → Bool) {m j : Nat} (h : j ≤ m) : filN f m = filN f j ++ ((List.range' j (m - j)).filter f).map Int.ofNat := by
  unfold filN
  rw [← List.map_append, ← List.filter_append]
  congr 2
  rw [List.range_eq_range', List.range_eq_range']
  have := List.range'_append (s := 0) (m := j) (n := m - j) (step := 1)
  simp only [Nat.zero_add, Nat.one_mul] at this
  rw [this, Nat.add_sub_cancel' h]
theorem fil_next (f : Nat → Bool) {m j : Nat} (h : j < m) (hf : f j = true) : (filN f m)[(filN f j).length]? = some (j : Int) ∧ (filN f (j + 1)).length = (filN f j).length + 1 := by
  constructor
  · rw [fil_split f (Nat.le_of_lt h), List.getElem?_append_right (Nat.le_refl _), Nat.sub_self]
    obtain ⟨d, hd⟩ : ∃ d, m - j = d + 1 := ⟨m - j - 1, by omega⟩
    rw [hd, List.range'_succ, List.filter_cons, if_pos hf]
    rfl
  · unfold filN; rw [List.range_succ, List.filter_append, List.filter_cons, if_pos hf]; simp
theorem fil_skip (f : Nat → Bool) {m j : Nat} (h : j < m) (hf : f j = false) : (∀ v, (filN f m)[(filN f j).length]? = some v → v ≠ (j : Int)) ∧ (filN f (j + 1)).length = (filN f j).length := by
  constructor
  · intro v hv
    rw [fil_split f (Nat.le_of_lt h), List.getElem?_append_right (Nat.le_refl _), Nat.sub_self] at hv
    obtain ⟨d, hd⟩ : ∃ d, m - j = d + 1 := ⟨m - j - 1, by omega⟩
    rw [hd, List.range'_succ, List.filter_cons, if_neg (by rw [hf]; simp)] at hv
    obtain ⟨q, hq, rfl⟩ := List.mem_map.1 (List.mem_of_getElem? hv)
    have := (List.mem_range'_1.1 (List.mem_filter.1 hq).1).1
    intro e
    have e2 : (q : Int) = (j : Int) := e
    omega
  · unfold filN; rw [List.range_succ, List.filter_append, List.filter_cons, if_neg (by rw [hf]; simp)]; simp
end Go.Proofs.YtoilcdgpeilgaaaGreat
