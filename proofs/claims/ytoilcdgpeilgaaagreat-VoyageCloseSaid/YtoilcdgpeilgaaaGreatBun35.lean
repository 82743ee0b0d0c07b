/-
  Words, laws and contracts: SameS, SameT, ChgJ.
-/
import Derived.Test.YtoilcdgpeilgaaaGreatBun32
import Derived.BigQuiet
set_option linter.unusedSimpArgs false
set_option linter.unusedVariables false
namespace Go.Proofs.YtoilcdgpeilgaaaGreat
open Go.RowKit Go.Shelf
theorem same_span (f u : Int) (W : World) : (binOp .eql 34 (.agg #[.int .i64 f, .int .i64 u]) (.agg #[.int .i64 f, .int .i64 u])).run Tryz.prog W = .ok (.bool true) W := by
  go_simp
set_option maxRecDepth 100000 in
set_option maxHeartbeats 8000000 in
theorem SameBooking_any (b : Bkg) (A3 : Option Addr) (n3 c3 : Nat) (B3 : Option Addr) (m3 d3 : Nat) (w : World) (h1 : Sl entryC 3 w All A3 n3 c3 b.fol) (h2 : Sl entryC 3 w All B3 m3 d3 b.fol) :
    Calls Tryz.prog 26 #[.agg (bkgA b (.slice A3 n3 c3)), .agg (bkgA b (.slice B3 m3 d3))] w fun e w' => e = .returned (.bool true) ∧ Below w.heap.size w w' := by
  obtain ⟨id, kind, state, gst, lev, cab, cat, frm, upto, til, fol⟩ := b
  simp only at h1 h2
  have HC := Lib.hid (fun X hX => SameFolio_any A3 B3 n3 c3 m3 d3 fol fol X (h1.bel hX) (h2.bel hX))
  rw [decide_eq_true (rfl : fol = fol)] at HC
  clear h1 h2
  have hsp := fun W => same_span frm upto W
  go_enter Tryz.func26, Tryz.ntmps26
  go_wp2_with fail
  refine (HC.out _ (bel2 w _ _)).mono ?_
  rintro e w2 ⟨rfl, q, rfl⟩
  go_wp2_with fail
  go_ret
  exact ⟨rfl, below_drewN (bel2 _ _ _) _⟩
end Go.Proofs.YtoilcdgpeilgaaaGreat
namespace Go.Proofs.YtoilcdgpeilgaaaGreat
open Go.RowKit Go.Shelf
theorem saiCells {w : World} {g : Nat} {x : Sai} {p : SaiV} {t : TypeId} (h : Blk w g (saiA x p) t) : w.cell? ⟨g, 0, none⟩ = some (.int .i64 x.ship.legs) ∧ w.cell? ⟨g, 1, none⟩ = some (.int .i64 x.ship.souls) ∧ w.cell? ⟨g, 2, none⟩ = some (.slice p.A p.n p.cap) ∧ w.cell? ⟨g, 3, none⟩ = some (.slice p.B p.m p.cap2) ∧ w.cell? ⟨g, 4, none⟩ = some (.slice p.D p.nd p.cd) ∧ w.cell? ⟨g, 5, none⟩ = some (.int .i64 x.fares.alone) ∧ w.cell? ⟨g, 6, none⟩ = some (.int .i64 x.fares.third) ∧ w.cell? ⟨g, 7, none⟩ = some (.slice p.E p.ne p.ce) ∧ w.cell? ⟨g, 8, none⟩ = some (.int .i64 x.fares.down) ∧ w.cell? ⟨g, 9, none⟩ = some (.int .i64 x.day) ∧ w.cell? ⟨g, 10, none⟩ = some (.int .i64 x.leaves) ∧ w.cell? ⟨g, 11, none⟩ = some (.slice p.C p.nb p.cb) ∧ w.cell? ⟨g, 12, none⟩ = some (.bool x.closed) :=
  ⟨h.cell rfl, h.cell rfl, h.cell rfl, h.cell rfl, h.cell rfl, h.cell rfl, h.cell rfl, h.cell rfl, h.cell rfl, h.cell rfl, h.cell rfl, h.cell rfl, h.cell rfl⟩
end Go.Proofs.YtoilcdgpeilgaaaGreat
namespace Go.Proofs.YtoilcdgpeilgaaaGreat
open Go.RowKit Go.Shelf
theorem saiE_mk {y : Sai} (h1 : shipE y.ship = 0) (h2 : fareE y.fares y.ship.cats.length y.ship.legs = 0) (h3 : betB y.day 0 9999 = true) (h4 : betB y.leaves 0 9999 = true) (h5 : y.bks.length ≤ 16) (h6 : ∀ b ∈ y.bks, ofE y.ship b = 0) (h7 : Rise y.bks)
    (h8 : y.bks.any (badB y.closed) = false) (h9 : roomE y = 0) : saiE y = 0 := by
  have hb : bksE y = 0 := by
    unfold bksE
    rw [if_neg (by omega), show firstE (bkE1 y) y.bks.length = 0 from firstE_none fun i hi => by
      have hx : y.bks[i]? = some y.bks[i] := List.getElem?_eq_getElem hi
      rw [bkE1_at hx, h6 _ (List.getElem_mem hi), if_neg (by simp), if_neg]
      rintro ⟨h0, hle⟩
      have hp : y.bks.getD (i - 1) default = y.bks[i - 1]'(by omega) := by rw [List.getD_eq_getElem?_getD, List.getElem?_eq_getElem (by omega)]; rfl
      rw [hp] at hle
      have := h7 (i - 1) i _ _ (by omega) (List.getElem?_eq_getElem (by omega)) hx
      omega, if_neg (by simp), if_neg (by rw [h8]; simp)]
  unfold saiE
  rw [h1, if_neg (by simp), h2, if_neg (by simp), if_neg (by rw [h3, h4]; simp), hb, if_neg (by simp), h9]
  rfl
theorem has_live (c : Int) (b : Bkg) : (hasB c b && liveB b) = hasB c b := by unfold hasB; cases liveB b <;> simp
theorem spL_live (l : List Bkg) (c : Int) : spL (l.filter liveB) c = spL l c := by
  unfold spL
  rw [List.filter_filter]
  congr 2
  funext b
  exact has_live c b
theorem soulK_live (l : List Bkg) (k : Nat) : soulK (l.filter liveB) k = soulK l k := by
  unfold soulK
  induction l with
  | nil => rfl
  | cons b l ih =>
    rw [List.filter_cons]
    split
    · rw [List.map_cons, List.map_cons, List.sum_cons, List.sum_cons, ih]
    · next h => rw [List.map_cons, List.sum_cons, ih, if_neg (fun hh => h hh.1)]; omega
theorem emptyB_live (l : List Bkg) (c : Nat) : emptyB (l.filter liveB) c = emptyB l c := by
  unfold emptyB
  rw [List.any_filter]
  congr 2
  funext b
  unfold hasB
  cases liveB b <;> simp
theorem openL_live (x : Sai) (l : List Bkg) : openL (bksS x (l.filter liveB)) = openL (bksS x l) := by
  unfold openL
  show (l.filter liveB).filter openB = l.filter openB
  rw [List.filter_filter]
  congr 1
  funext b
  unfold openB
  cases liveB b <;> simp
theorem mayL_live (x : Sai) (l : List Bkg) (b : Bkg) : mayL (bksS x (l.filter liveB)) b = mayL (bksS x l) b := by
  unfold mayL
  show ((List.range x.ship.cabs.length).filter (fun c : Nat => eligB x.ship b (c : Int) && emptyB (l.filter liveB) c)).map Int.ofNat = ((List.range x.ship.cabs.length).filter (fun c : Nat => eligB x.ship b (c : Int) && emptyB l c)).map Int.ofNat
  congr 2
  funext c
  rw [emptyB_live]
theorem edgF_may {x y : Sai} (hm : ∀ b, mayL x b = mayL y b) : ∀ (l : List Bkg) (i : Nat), edgF x l i = edgF y l i
  | [], _ => rfl
  | b :: l, i => by rw [edgF, edgF, hm, edgF_may hm l (i + 1)]
theorem room_live (x : Sai) (l : List Bkg) : roomE (bksS x (l.filter liveB)) = roomE (bksS x l) := by
  have h1 : twiceB (bksS x (l.filter liveB)) = twiceB (bksS x l) := by
    unfold twiceB
    show ((List.range x.ship.cabs.length).any fun c => !takB (l.filter liveB) (c : Int)) = ((List.range x.ship.cabs.length).any fun c => !takB l (c : Int))
    congr 1
    funext c
    unfold takB
    rw [spL_live]
  have h2 : soulL (l.filter liveB) x.ship.legs.toNat = soulL l x.ship.legs.toNat := by
    unfold soulL
    exact List.map_congr_left fun k _ => soulK_live l k
  have h3 : idsL (bksS x (l.filter liveB)) = idsL (bksS x l) := by
    unfold idsL
    rw [openL_live]
  have h4 : edgL (bksS x (l.filter liveB)) = edgL (bksS x l) := by
    unfold edgL
    rw [openL_live, edgF_may (mayL_live x l)]
  unfold roomE
  rw [h1, h3, h4]
  show (if _ then _ else if x.ship.souls < mx (soulL (l.filter liveB) x.ship.legs.toNat) then _ else _) = (if _ then _ else if x.ship.souls < mx (soulL l x.ship.legs.toNat) then _ else _)
  rw [h2]
theorem room_sub {x : Sai} {l : List Bkg} (h : saiE x = 0) (hs : l.Sublist x.bks) : roomE (bksS x l) = 0 := (sai_ok (saiE_sub h hs (all_sub hs (room_ok (sai_ok h).room).2.2))).room
theorem ok_of {X : Shp} {b : Bkg} (h : OkBk X b) : ofE X b = 0 := by
  unfold ofE
  rw [if_neg (by rw [h.kind, h.state]; simp), if_neg (by rw [h.id, betB_iff.2 h.gst]; simp), if_neg (by rw [h.span]; simp), if_neg (by rw [h.kindE]; simp), if_neg (by rw [h.til]; simp), if_neg (fun hh => hh.2 (h.opt hh.1))]
  exact h.fol
theorem mem_set_of {l : List Bkg} {k : Nat} {b c : Bkg} (h : c ∈ l.set k b) : c ∈ l ∨ c = b := List.mem_or_eq_of_mem_set h
section
variable {x : Sai} {t : Int}
theorem gone_ok {X : Shp} {b : Bkg} {day : Int} (hb : OkBk X b) (h : goneE x b day = 0) : OkBk X (goneB x b day) := by
  have hf : checkFolio (goneB x b day).fol = 0 := by
    unfold goneE at h
    by_cases q : b.state = 2 ∧ 100000000 < faresOf b.fol
    · rw [if_pos q] at h; omega
    · rw [if_neg q] at h; exact h
  exact ⟨hb.kind, show betB (3 : Int) 1 3 = true by decide, hb.id, hb.gst, hb.span, hb.kindE, show betB (0 : Int) 0 9999 = true by decide, fun hh => absurd rfl hh, hf⟩
end
end Go.Proofs.YtoilcdgpeilgaaaGreat
