/-
  Words, laws and contracts: StockA, StockB, StockC, StockD.
-/
import Derived.Test.YtoilcdgpeilgaaaGreatBun11
import Derived.Test.YtoilcdgpeilgaaaGreatBun14
import Derived.Test.YtoilcdgpeilgaaaGreatBun15
set_option linter.unusedSimpArgs false
set_option linter.unusedVariables false
namespace Go.Proofs.YtoilcdgpeilgaaaGreat
open Go.RowKit Go.Shelf
structure Sai where
  ship : Shp
  fares : Fares
  day : Int
  leaves : Int
  bks : List Bkg
  closed : Bool
structure SaiV where
  A : Option Addr
  n : Nat
  cap : Nat
  B : Option Addr
  m : Nat
  cap2 : Nat
  D : Option Addr
  nd : Nat
  cd : Nat
  E : Option Addr
  ne : Nat
  ce : Nat
  C : Option Addr
  nb : Nat
  cb : Nat
abbrev saiA (x : Sai) (p : SaiV) : Array Value := #[.int .i64 x.ship.legs, .int .i64 x.ship.souls, .slice p.A p.n p.cap, .slice p.B p.m p.cap2, .slice p.D p.nd p.cd, .int .i64 x.fares.alone, .int .i64 x.fares.third, .slice p.E p.ne p.ce, .int .i64 x.fares.down,
  .int .i64 x.day, .int .i64 x.leaves, .slice p.C p.nb p.cb, .bool x.closed]
structure SaiR (w : World) (x : Sai) (p : SaiV) : Prop where
  cats : Sl catC 2 w All p.A p.n p.cap x.ship.cats
  cabs : Sl cabC 4 w All p.B p.m p.cap2 x.ship.cabs
  fares : FareR w p.D p.nd p.cd x.fares p.E p.ne p.ce
  bks : Sl bkgC 11 w All p.C p.nb p.cb x.bks
theorem SaiR.bel {w w' : World} {x : Sai} {p : SaiV} (h : SaiR w x p) (hb : Below w.heap.size w w') : SaiR w' x p := ⟨h.cats.bel hb, h.cabs.bel hb, h.fares.below hb, h.bks.bel hb⟩
def openB (b : Bkg) : Bool := decide (b.kind = 2) && (liveB b && decide (b.cab < 0))
def badB (closed : Bool) (b : Bkg) : Bool := decide (b.kind = 2) && (liveB b && (decide (b.cab < 0) == closed))
def bkE1 (x : Sai) (i : Nat) : Int := if ofE x.ship (x.bks.getD i default) ≠ 0 then ofE x.ship (x.bks.getD i default) else if 0 < i ∧ (x.bks.getD i default).id ≤ (x.bks.getD (i - 1) default).id then 4 else 0
def bksE (x : Sai) : Int := if 16 < x.bks.length then 2 else if firstE (bkE1 x) x.bks.length ≠ 0 then firstE (bkE1 x) x.bks.length else if x.bks.any (badB x.closed) = true then 4 else 0
def emptyB (l : List Bkg) (c : Nat) : Bool := !l.any (hasB c)
def mayL (x : Sai) (b : Bkg) : List Int := ((List.range x.ship.cabs.length).filter (fun c : Nat => eligB x.ship b (c : Int) && emptyB x.bks c)).map Int.ofNat
def openL (x : Sai) : List Bkg := x.bks.filter openB
def idsL (x : Sai) : List Int := (openL x).map (·.id)
def edgF (x : Sai) : List Bkg → Nat → List Edg
  | [], _ => []
  | b :: l, i => (mayL x b).map (fun c => ⟨i, c⟩) ++ edgF x l (i + 1)
def edgL (x : Sai) : List Edg := edgF x (openL x) 0
def AllM (n : Nat) (l : List Edg) : Prop := ∃ M, IsM (nbrs l) M ∧ M.length = n
noncomputable def allB (n : Nat) (l : List Edg) : Bool := @decide (AllM n l) (Classical.propDecidable _)
theorem allB_iff {n : Nat} {l : List Edg} : allB n l = true ↔ AllM n l := by
  unfold allB
  exact @decide_eq_true_iff _ (Classical.propDecidable _)
theorem allB_true {n : Nat} {l : List Edg} (h : AllM n l) : allB n l = true := allB_iff.2 h
def twiceB (x : Sai) : Bool := (List.range x.ship.cabs.length).any (fun c => !takB x.bks (c : Int))
noncomputable def roomE (x : Sai) : Int :=
  if twiceB x = true then 6 else if x.ship.souls < mx (soulL x.bks x.ship.legs.toNat) then 8 else if allB (idsL x).length (edgL x) = true then 0 else 9
noncomputable def saiE (x : Sai) : Int := if shipE x.ship ≠ 0 then shipE x.ship else if fareE x.fares x.ship.cats.length x.ship.legs ≠ 0 then fareE x.fares x.ship.cats.length x.ship.legs
  else if (betB x.day 0 9999 && betB x.leaves 0 9999) = false then 3 else if bksE x ≠ 0 then bksE x else if roomE x = 8 then 2 else roomE x
structure OkBs (x : Sai) : Prop where
  ship : OkShp x.ship
  bk : ∀ b ∈ x.bks, OkBk x.ship b
  len : x.bks.length ≤ 16
  rise : ∀ i, i + 1 < x.bks.length → (x.bks.getD i default).id < (x.bks.getD (i + 1) default).id
  bad : x.bks.any (badB x.closed) = false
end Go.Proofs.YtoilcdgpeilgaaaGreat
namespace Go.Proofs.YtoilcdgpeilgaaaGreat
open Go.RowKit Go.Shelf
theorem day_any (n : Int) (w : World) : Calls Tryz.prog 90 #[.int .i64 n] w fun e w' => e = .returned (.bool (betB n 0 9999)) ∧ w = w' := by
  go_enter Tryz.func90, Tryz.ntmps90
  go_wp2
  all_goals go_ret
  all_goals exact ⟨retB (by unfold betB; simp; try omega), rfl⟩
theorem openB_eq (id kind state gst : Int) (lev : Bool) (cab cat frm upto til : Int) (fol : List Entry) : openB ⟨id, kind, state, gst, lev, cab, cat, frm, upto, til, fol⟩ = (decide (kind = 2) && (liveB ⟨id, kind, state, gst, lev, cab, cat, frm, upto, til, fol⟩ && decide (cab < 0))) := rfl
set_option maxRecDepth 100000 in
set_option maxHeartbeats 1000000 in
theorem open_any (b : Bkg) (v : Value) (w : World) : Calls Tryz.prog 218 #[.agg (bkgA b v)] w fun e w' => e = .returned (.bool (openB b)) ∧ Below w.heap.size w w' := by
  obtain ⟨id, kind, state, gst, lev, cab, cat, frm, upto, til, fol⟩ := b
  obtain ⟨r, hr⟩ : ∃ r, r = openB ⟨id, kind, state, gst, lev, cab, cat, frm, upto, til, fol⟩ := ⟨_, rfl⟩
  rw [← hr]
  rw [openB_eq] at hr
  have hL := fun W => Live_any ⟨id, kind, state, gst, lev, cab, cat, frm, upto, til, fol⟩ v W
  obtain ⟨q, hq⟩ : ∃ q, q = liveB ⟨id, kind, state, gst, lev, cab, cat, frm, upto, til, fol⟩ := ⟨_, rfl⟩
  rw [← hq] at hL hr
  have HR := Lib.hid hr
  clear hr
  have HL := Lib.hid hL
  clear hL
  clear hq
  go_enter Tryz.func218, Tryz.ntmps218
  go_upto_region 0 with (fail)
  go_cut [1, 2] (fun p _ wx => ∃ h, p = .pointer (some ⟨h, 0, none⟩) ∧ Blk wx h (bkgA ⟨id, kind, state, gst, lev, cab, cat, frm, upto, til, fol⟩ v) 37 ∧ Below w.heap.size w wx)
  case first => as_aux_lemma =>
    go_wp2_with fail
    go_meet
    exact ⟨_, rfl, blk1 _ _, bel1 _ _⟩
  obtain ⟨h, rfl, hH, hbw⟩ := hcut
  have z0 : wc.cell? ⟨h, 0, none⟩ = some (.int .i64 id) := hH.cell rfl
  have z1 : wc.cell? ⟨h, 1, none⟩ = some (.int .i64 kind) := hH.cell rfl
  have z2 : wc.cell? ⟨h, 2, none⟩ = some (.int .i64 state) := hH.cell rfl
  have z3 : wc.cell? ⟨h, 3, none⟩ = some (.int .i64 gst) := hH.cell rfl
  have z4 : wc.cell? ⟨h, 4, none⟩ = some (.bool lev) := hH.cell rfl
  have z5 : wc.cell? ⟨h, 5, none⟩ = some (.int .i64 cab) := hH.cell rfl
  have z6 : wc.cell? ⟨h, 6, none⟩ = some (.int .i64 cat) := hH.cell rfl
  have z7 : wc.cell? ⟨h, 7, none⟩ = some (.int .i64 frm) := hH.cell rfl
  have z8 : wc.cell? ⟨h, 8, none⟩ = some (.int .i64 upto) := hH.cell rfl
  have z9 : wc.cell? ⟨h, 9, none⟩ = some (.int .i64 til) := hH.cell rfl
  have z10 : wc.cell? ⟨h, 10, none⟩ = some (v) := hH.cell rfl
  by_cases hk : kind = 2
  rotate_left
  · obtain rfl : r = false := by rw [HR.out, decide_eq_false hk]; rfl
    have h0' : (kind == 2) = false := by simpa using hk
    clear hk
    go_wp2_with fail
    go_ret
    exact ⟨rfl, hbw⟩
  have HR2 := Lib.hid (show r = (q && decide (cab < 0)) by rw [HR.out, decide_eq_true hk]; rfl)
  subst hk
  go_wp2_with fail
  refine (HL.out _).mono ?_
  rintro e w2 ⟨rfl, hb2⟩
  replace hH := hH.bel hb2
  replace hbw := hbw.trans (hb2.mono hbw.size)
  clear hb2 z0 z1 z2 z3 z4 z5 z6 z7 z8 z9 z10
  have z5 : w2.cell? ⟨h, 5, none⟩ = some (.int .i64 cab) := hH.cell rfl
  cases q
  · obtain rfl : r = false := HR2.out
    go_wp2_with fail
    go_ret
    exact ⟨rfl, hbw⟩
  by_cases hcb : cab < 0
  · obtain rfl : r = true := by rw [HR2.out, decide_eq_true hcb]; rfl
    go_wp2_with fail
    go_ret
    exact ⟨rfl, hbw⟩
  · obtain rfl : r = false := by rw [HR2.out, decide_eq_false hcb]; rfl
    have hd := decide_eq_false hcb
    clear hcb
    go_wp2_with fail
    go_ret
    exact ⟨rfl, hbw⟩
set_option maxRecDepth 100000 in
set_option maxHeartbeats 1000000 in
theorem bad_any (b : Bkg) (v : Value) (cl : Bool) (g : Nat) (w : World) (hg : w.cell? ⟨g, 12, none⟩ = some (.bool cl)) : Calls Tryz.prog 177 #[.agg (bkgA b v), .pointer (some ⟨g, 0, none⟩)] w fun e w' => e = .returned (.bool (badB cl b)) ∧ Below w.heap.size w w' := by
  obtain ⟨id, kind, state, gst, lev, cab, cat, frm, upto, til, fol⟩ := b
  obtain ⟨r, hr⟩ : ∃ r, r = badB cl ⟨id, kind, state, gst, lev, cab, cat, frm, upto, til, fol⟩ := ⟨_, rfl⟩
  rw [← hr]
  have hL := fun W => Live_any ⟨id, kind, state, gst, lev, cab, cat, frm, upto, til, fol⟩ v W
  obtain ⟨q, hq⟩ : ∃ q, q = liveB ⟨id, kind, state, gst, lev, cab, cat, frm, upto, til, fol⟩ := ⟨_, rfl⟩
  have HR := Lib.hid (show r = (decide (kind = 2) && (q && (decide (cab < 0) == cl))) by rw [hr, hq]; rfl)
  rw [← hq] at hL
  have HL := Lib.hid hL
  clear hL
  have HG := Lib.hid hg
  clear hg
  clear hq hr
  go_enter Tryz.func177, Tryz.ntmps177
  go_upto_region 0 with (fail)
  go_cut [1, 2, 3] (fun p0 p _ wx => ∃ h, p0 = .pointer (some ⟨g, 0, none⟩) ∧ p = .pointer (some ⟨h, 0, none⟩) ∧ Blk wx h (bkgA ⟨id, kind, state, gst, lev, cab, cat, frm, upto, til, fol⟩ v) 37 ∧ Below w.heap.size w wx)
  case first => as_aux_lemma =>
    go_wp2_with fail
    go_meet
    exact ⟨_, rfl, rfl, blk1 _ _, bel1 _ _⟩
  obtain ⟨h, rfl, rfl, hH, hbw⟩ := hcut
  have z0 : wc.cell? ⟨h, 0, none⟩ = some (.int .i64 id) := hH.cell rfl
  have z1 : wc.cell? ⟨h, 1, none⟩ = some (.int .i64 kind) := hH.cell rfl
  have z2 : wc.cell? ⟨h, 2, none⟩ = some (.int .i64 state) := hH.cell rfl
  have z3 : wc.cell? ⟨h, 3, none⟩ = some (.int .i64 gst) := hH.cell rfl
  have z4 : wc.cell? ⟨h, 4, none⟩ = some (.bool lev) := hH.cell rfl
  have z5 : wc.cell? ⟨h, 5, none⟩ = some (.int .i64 cab) := hH.cell rfl
  have z6 : wc.cell? ⟨h, 6, none⟩ = some (.int .i64 cat) := hH.cell rfl
  have z7 : wc.cell? ⟨h, 7, none⟩ = some (.int .i64 frm) := hH.cell rfl
  have z8 : wc.cell? ⟨h, 8, none⟩ = some (.int .i64 upto) := hH.cell rfl
  have z9 : wc.cell? ⟨h, 9, none⟩ = some (.int .i64 til) := hH.cell rfl
  have z10 : wc.cell? ⟨h, 10, none⟩ = some (v) := hH.cell rfl
  by_cases hk : kind = 2
  rotate_left
  · obtain rfl : r = false := by rw [HR.out, decide_eq_false hk]; rfl
    have h0' : (kind == 2) = false := by simpa using hk
    clear hk
    go_wp2_with fail
    go_ret
    exact ⟨rfl, hbw⟩
  have HR2 := Lib.hid (show r = (q && (decide (cab < 0) == cl)) by rw [HR.out, decide_eq_true hk]; rfl)
  subst hk
  go_wp2_with fail
  refine (HL.out _).mono ?_
  rintro e w2 ⟨rfl, hb2⟩
  replace hH := hH.bel hb2
  replace hbw := hbw.trans (hb2.mono hbw.size)
  clear hb2 z0 z1 z2 z3 z4 z5 z6 z7 z8 z9 z10
  have z5 : w2.cell? ⟨h, 5, none⟩ = some (.int .i64 cab) := hH.cell rfl
  have g5 := cellB hbw HG.out
  cases q
  · obtain rfl : r = false := HR2.out
    go_wp2_with fail
    go_ret
    exact ⟨rfl, hbw⟩
  by_cases hcb : cab < 0
  · cases cl
    · obtain rfl : r = false := by rw [HR2.out, decide_eq_true hcb]; rfl
      go_wp2_with fail
      go_ret
      exact ⟨rfl, hbw⟩
    · obtain rfl : r = true := by rw [HR2.out, decide_eq_true hcb]; rfl
      go_wp2_with fail
      go_ret
      exact ⟨rfl, hbw⟩
  · have hd := decide_eq_false hcb
    cases cl
    · obtain rfl : r = true := by rw [HR2.out, decide_eq_false hcb]; rfl
      clear hcb
      go_wp2_with fail
      go_ret
      exact ⟨rfl, hbw⟩
    · obtain rfl : r = false := by rw [HR2.out, decide_eq_false hcb]; rfl
      clear hcb
      go_wp2_with fail
      go_ret
      exact ⟨rfl, hbw⟩
set_option maxRecDepth 100000 in
set_option maxHeartbeats 1000000 in
theorem has1_any (b : Bkg) (v : Value) (c : Int) (g : Nat) (w : World) (hg : w.cell? ⟨g, 0, none⟩ = some (.int .i64 c)) : Calls Tryz.prog 220 #[.agg (bkgA b v), .pointer (some ⟨g, 0, none⟩)] w fun e w' => e = .returned (.bool (hasB c b)) ∧ Below w.heap.size w w' := by
  obtain ⟨id, kind, state, gst, lev, cab, cat, frm, upto, til, fol⟩ := b
  have hL := fun W => Has_any ⟨id, kind, state, gst, lev, cab, cat, frm, upto, til, fol⟩ v c W
  obtain ⟨q, hq⟩ : ∃ q, q = hasB c ⟨id, kind, state, gst, lev, cab, cat, frm, upto, til, fol⟩ := ⟨_, rfl⟩
  rw [← hq] at hL
  rw [← hq]
  have HL := Lib.hid hL
  clear hL
  have HG := Lib.hid hg
  clear hg
  clear hq
  go_enter Tryz.func220, Tryz.ntmps220
  go_upto_region 0 with (fail)
  go_cut [1, 2, 3] (fun p0 p _ wx => ∃ h, p0 = .pointer (some ⟨g, 0, none⟩) ∧ p = .pointer (some ⟨h, 0, none⟩) ∧ Blk wx h (bkgA ⟨id, kind, state, gst, lev, cab, cat, frm, upto, til, fol⟩ v) 37 ∧ Below w.heap.size w wx)
  case first => as_aux_lemma =>
    go_wp2_with fail
    go_meet
    exact ⟨_, rfl, rfl, blk1 _ _, bel1 _ _⟩
  obtain ⟨h, rfl, rfl, hH, hbw⟩ := hcut
  have z0 : wc.cell? ⟨h, 0, none⟩ = some (.int .i64 id) := hH.cell rfl
  have z1 : wc.cell? ⟨h, 1, none⟩ = some (.int .i64 kind) := hH.cell rfl
  have z2 : wc.cell? ⟨h, 2, none⟩ = some (.int .i64 state) := hH.cell rfl
  have z3 : wc.cell? ⟨h, 3, none⟩ = some (.int .i64 gst) := hH.cell rfl
  have z4 : wc.cell? ⟨h, 4, none⟩ = some (.bool lev) := hH.cell rfl
  have z5 : wc.cell? ⟨h, 5, none⟩ = some (.int .i64 cab) := hH.cell rfl
  have z6 : wc.cell? ⟨h, 6, none⟩ = some (.int .i64 cat) := hH.cell rfl
  have z7 : wc.cell? ⟨h, 7, none⟩ = some (.int .i64 frm) := hH.cell rfl
  have z8 : wc.cell? ⟨h, 8, none⟩ = some (.int .i64 upto) := hH.cell rfl
  have z9 : wc.cell? ⟨h, 9, none⟩ = some (.int .i64 til) := hH.cell rfl
  have z10 : wc.cell? ⟨h, 10, none⟩ = some (v) := hH.cell rfl
  have g5 := cellB hbw HG.out
  go_wp2_with fail
  refine (HL.out _).mono ?_
  rintro e w2 ⟨rfl, hb2⟩
  go_wp2_with fail
  go_ret
  exact ⟨rfl, hbw.trans (hb2.mono hbw.size)⟩
set_option maxRecDepth 100000 in
set_option maxHeartbeats 4000000 in
theorem IndexFunc_bkg (A : Option Addr) (n cap : Nat) (l : List Bkg) (g : Nat) (lb : Array Value) (p : Bkg → Bool) (w : World) (h : Sl bkgC 11 w All A n cap l)
    (eg : ∀ args w, (callFunc g args).run Tryz.prog w = .ok (.enter g args) w)
    (hp : ∀ (x : Bkg) (v : Value) (w1 : World), x ∈ l → Below w.heap.size w w1 → Calls Tryz.prog g (#[.agg (bkgA x v)] ++ lb) w1 fun e w' => e = .returned (.bool (p x)) ∧ Below w1.heap.size w1 w') :
    Calls Tryz.prog 205 #[.slice A n cap, .func (.func g) #[] lb] w fun e w' => e = .returned (.int .i64 (idxF p l)) ∧ Below w.heap.size w w' := by
  have Hp := Lib.hid hp
  clear hp
  have hbd := h.bd
  have HL := Lib.hid h
  have HN := Lib.hid h.len
  clear h
  go_enter Tryz.func205, Tryz.ntmps205
  go_wp2_with fail
  go_loopg [8] n (fun gk i wr => ∃ k : Nat, k ≤ n ∧ n - k ≤ gk ∧ i = .int .i64 k ∧ Aside ((l.take k).any p = false) ∧ Below w.heap.size w wr)
  case atStart => exact ⟨0, Nat.zero_le _, by omega, rfl, rfl, Below.refl _ _⟩
  case round =>
    obtain ⟨k, hk, hgk, rfl, HA, hb⟩ := hrel
    by_cases hlt : k < n
    · skip
      obtain ⟨ab, off, ⟨id, kind, state, gst, lev, cab, cat, frm, upto, til, fol⟩, A3, n3, c3, hA, hx, hF, hI, hcel⟩ := (HL.out.bel hb).bkg hlt
      subst hA
      simp only at hF
      have y0 : wr.cell? ⟨ab, off + k * 11, none⟩ = some (.int .i64 id) := hcel 0 _ rfl
      have y1 : wr.cell? ⟨ab, off + k * 11 + 1, none⟩ = some (.int .i64 kind) := hcel 1 _ rfl
      have y2 : wr.cell? ⟨ab, off + k * 11 + 2, none⟩ = some (.int .i64 state) := hcel 2 _ rfl
      have y3 : wr.cell? ⟨ab, off + k * 11 + 3, none⟩ = some (.int .i64 gst) := hcel 3 _ rfl
      have y4 : wr.cell? ⟨ab, off + k * 11 + 4, none⟩ = some (.bool lev) := hcel 4 _ rfl
      have y5 : wr.cell? ⟨ab, off + k * 11 + 5, none⟩ = some (.int .i64 cab) := hcel 5 _ rfl
      have y6 : wr.cell? ⟨ab, off + k * 11 + 6, none⟩ = some (.int .i64 cat) := hcel 6 _ rfl
      have y7 : wr.cell? ⟨ab, off + k * 11 + 7, none⟩ = some (.int .i64 frm) := hcel 7 _ rfl
      have y8 : wr.cell? ⟨ab, off + k * 11 + 8, none⟩ = some (.int .i64 upto) := hcel 8 _ rfl
      have y9 : wr.cell? ⟨ab, off + k * 11 + 9, none⟩ = some (.int .i64 til) := hcel 9 _ rfl
      have y10 : wr.cell? ⟨ab, off + k * 11 + 10, none⟩ = some (.slice A3 n3 c3) := hcel 10 _ rfl
      clear hcel
      have HX := Lib.hid hx
      have HM := Lib.hid (List.mem_of_getElem? hx)
      have hcall := Hp.out _ (.slice A3 n3 c3) wr HM.out hb
      obtain ⟨q, hq⟩ : ∃ q, q = p ⟨id, kind, state, gst, lev, cab, cat, frm, upto, til, fol⟩ := ⟨_, rfl⟩
      rw [← hq] at hcall
      have HCALL := Lib.hid hcall
      clear hcall
      have HQ := Lib.hid hq
      clear hq
      clear hx hF hI
      cases q
      · skip
        go_wp2_with fail
        go_at_fn g
        refine HCALL.out.mono ?_
        rintro e w1 ⟨rfl, hb1⟩
        replace hb1 := hb.trans (hb1.mono hb.size)
        go_wp2_with fail
        go_roundg (n - (k + 1))
        case measure => omega
        case rel => exact ⟨k + 1, by omega, by omega, by go_num, by show _ = _; rw [any_take_succ HX.out, HA, ← HQ.out]; rfl, hb1⟩
      · skip
        go_wp2_with fail
        go_at_fn g
        refine HCALL.out.mono ?_
        rintro e w1 ⟨rfl, hb1⟩
        replace hb1 := hb.trans (hb1.mono hb.size)
        go_wp2_with fail
        go_ret
        exact ⟨retI (idxF_at HA HX.out HQ.out.symm).symm, hb1⟩
    · obtain rfl : k = n := by omega
      have HT := Lib.hid (List.take_of_length_le (Nat.le_of_eq HN.out))
      go_wp2_with fail
      go_ret
      exact ⟨retI (by rw [idxF_none (by rw [← HT.out]; exact HA)]), hb⟩
theorem ContainsFunc_bkg (A : Option Addr) (n cap : Nat) (l : List Bkg) (g : Nat) (lb : Array Value) (p : Bkg → Bool) (w : World) (h : Sl bkgC 11 w All A n cap l)
    (eg : ∀ args w, (callFunc g args).run Tryz.prog w = .ok (.enter g args) w)
    (hp : ∀ (x : Bkg) (v : Value) (w1 : World), x ∈ l → Below w.heap.size w w1 → Calls Tryz.prog g (#[.agg (bkgA x v)] ++ lb) w1 fun e w' => e = .returned (.bool (p x)) ∧ Below w1.heap.size w1 w') :
    Calls Tryz.prog 176 #[.slice A n cap, .func (.func g) #[] lb] w fun e w' => e = .returned (.bool (l.any p)) ∧ Below w.heap.size w w' := by
  have HC := IndexFunc_bkg A n cap l g lb p w h eg hp
  clear hp
  go_enter Tryz.func176, Tryz.ntmps176
  go_wp2_with fail
  refine HC.mono ?_
  rintro e w1 ⟨rfl, hb⟩
  have HI := Lib.hid (idxF_any (p := p) (l := l))
  have hbd := idxF_bd (p := p) (l := l) (by have := h.bd; have := h.len; omega)
  go_wp2_with fail
  go_ret
  exact ⟨retB HI.out, hb⟩
end Go.Proofs.YtoilcdgpeilgaaaGreat
namespace Go.Proofs.YtoilcdgpeilgaaaGreat
open Go.RowKit Go.Shelf
theorem bkE1_at {x : Sai} {k : Nat} {b : Bkg} (h : x.bks[k]? = some b) : bkE1 x k = if ofE x.ship b ≠ 0 then ofE x.ship b else if 0 < k ∧ b.id ≤ (x.bks.getD (k - 1) default).id then 4 else 0 := by
  unfold bkE1
  rw [List.getD_eq_getElem?_getD, h]; rfl
set_option maxRecDepth 100000 in
set_option maxHeartbeats 8000000 in
theorem bookings_any (x : Sai) (p : SaiV) (w : World) (h : SaiR w x p) (ho : OkShp x.ship) :
    Calls Tryz.prog 91 #[.agg (saiA x p)] w fun e w' => e = .returned (.int .i64 (bksE x)) ∧ Below w.heap.size w w' := by
  obtain ⟨A, n, cap, B, m, cap2, D, nd, cd, E, ne, ce, C, nb, cb⟩ := p
  obtain ⟨r, hr⟩ : ∃ r, r = bksE x := ⟨_, rfl⟩
  rw [← hr]
  have HS := Lib.hid h
  have hl : Sl bkgC 11 w All C nb cb x.bks := h.bks
  have hc : Sl catC 2 w All A n cap x.ship.cats := h.cats
  have hd : Sl cabC 4 w All B m cap2 x.ship.cabs := h.cabs
  have HO := Lib.hid (fun b A3 n3 c3 W h1 h2 h3 => bookOf_any x.ship A n cap B m cap2 b A3 n3 c3 W h1 h2 ho h3)
  have hbd := hl.bd
  obtain ⟨fe, hfe⟩ : ∃ q, q = firstE (bkE1 x) nb := ⟨_, rfl⟩
  have HR := Lib.hid (show r = if 16 < nb then 2 else if fe ≠ 0 then fe else if x.bks.any (badB x.closed) = true then 4 else 0 by rw [hr, hfe, ← hl.len]; rfl)
  have HFE := Lib.hid hfe
  clear hfe
  have HN := Lib.hid hl.len
  have HL := Lib.hid hl
  have HC := Lib.hid hc
  have HD := Lib.hid hd
  clear hr h hl hc hd
  go_enter Tryz.func91, Tryz.ntmps91
  go_upto_region 0 with (fail)
  go_cut [1, 2] (fun q _ wx => ∃ g, q = .pointer (some ⟨g, 0, none⟩) ∧ Blk wx g (saiA x ⟨A, n, cap, B, m, cap2, D, nd, cd, E, ne, ce, C, nb, cb⟩) 32 ∧ Below w.heap.size w wx)
  case first => as_aux_lemma =>
    go_wp2_with fail
    go_meet
    exact ⟨_, rfl, blk1 _ _, bel1 _ _⟩
  obtain ⟨g, rfl, hG, hbw⟩ := hcut
  have s0 : wc.cell? ⟨g, 0, none⟩ = some (.int .i64 x.ship.legs) := hG.cell rfl
  have s1 : wc.cell? ⟨g, 1, none⟩ = some (.int .i64 x.ship.souls) := hG.cell rfl
  have s2 : wc.cell? ⟨g, 2, none⟩ = some (.slice A n cap) := hG.cell rfl
  have s3 : wc.cell? ⟨g, 3, none⟩ = some (.slice B m cap2) := hG.cell rfl
  have s4 : wc.cell? ⟨g, 4, none⟩ = some (.slice D nd cd) := hG.cell rfl
  have s5 : wc.cell? ⟨g, 5, none⟩ = some (.int .i64 x.fares.alone) := hG.cell rfl
  have s6 : wc.cell? ⟨g, 6, none⟩ = some (.int .i64 x.fares.third) := hG.cell rfl
  have s7 : wc.cell? ⟨g, 7, none⟩ = some (.slice E ne ce) := hG.cell rfl
  have s8 : wc.cell? ⟨g, 8, none⟩ = some (.int .i64 x.fares.down) := hG.cell rfl
  have s9 : wc.cell? ⟨g, 9, none⟩ = some (.int .i64 x.day) := hG.cell rfl
  have s10 : wc.cell? ⟨g, 10, none⟩ = some (.int .i64 x.leaves) := hG.cell rfl
  have s11 : wc.cell? ⟨g, 11, none⟩ = some (.slice C nb cb) := hG.cell rfl
  have s12 : wc.cell? ⟨g, 12, none⟩ = some (.bool x.closed) := hG.cell rfl
  by_cases h16 : 16 < nb
  · obtain rfl : r = 2 := by rw [HR.out, if_pos h16]
    go_wp2_with fail
    go_ret
    exact ⟨rfl, hbw⟩
  have HR2 := Lib.hid (HR.out.trans (if_neg h16))
  obtain ⟨W0, hW0⟩ : ∃ W, W = wc := ⟨_, rfl⟩
  subst hW0
  have HG := Lib.hid hG
  clear hG
  have HBW := Lib.hid hbw
  clear hbw
  go_wp2_with fail
  go_loopg [13] nb (fun gk i wr => ∃ k : Nat, k ≤ nb ∧ nb - k ≤ gk ∧ i = .int .i64 k ∧ Aside (firstE (bkE1 x) k = 0) ∧ Below W0.heap.size W0 wr)
  case atStart => exact ⟨0, Nat.zero_le _, by omega, rfl, rfl, Below.refl _ _⟩
  case round =>
    clear s0 s1 s2 s3 s4 s5 s6 s7 s8 s9 s10 s11 s12
    obtain ⟨k, hk, hgk, rfl, HE, hb⟩ := hrel
    by_cases hlt : k < nb
    · have hbo := HBW.out.trans (hb.mono HBW.out.size)
      obtain ⟨ab, off, ⟨id, kind, state, gst, lev, cab, cat, frm, upto, til, fol⟩, A3, n3, c3, hA, hx, hF, hI, hcel⟩ := (HL.out.bel hbo).bkg hlt
      subst hA
      simp only at hF
      have y0 : wr.cell? ⟨ab, off + k * 11, none⟩ = some (.int .i64 id) := hcel 0 _ rfl
      have y1 : wr.cell? ⟨ab, off + k * 11 + 1, none⟩ = some (.int .i64 kind) := hcel 1 _ rfl
      have y2 : wr.cell? ⟨ab, off + k * 11 + 2, none⟩ = some (.int .i64 state) := hcel 2 _ rfl
      have y3 : wr.cell? ⟨ab, off + k * 11 + 3, none⟩ = some (.int .i64 gst) := hcel 3 _ rfl
      have y4 : wr.cell? ⟨ab, off + k * 11 + 4, none⟩ = some (.bool lev) := hcel 4 _ rfl
      have y5 : wr.cell? ⟨ab, off + k * 11 + 5, none⟩ = some (.int .i64 cab) := hcel 5 _ rfl
      have y6 : wr.cell? ⟨ab, off + k * 11 + 6, none⟩ = some (.int .i64 cat) := hcel 6 _ rfl
      have y7 : wr.cell? ⟨ab, off + k * 11 + 7, none⟩ = some (.int .i64 frm) := hcel 7 _ rfl
      have y8 : wr.cell? ⟨ab, off + k * 11 + 8, none⟩ = some (.int .i64 upto) := hcel 8 _ rfl
      have y9 : wr.cell? ⟨ab, off + k * 11 + 9, none⟩ = some (.int .i64 til) := hcel 9 _ rfl
      have y10 : wr.cell? ⟨ab, off + k * 11 + 10, none⟩ = some (.slice A3 n3 c3) := hcel 10 _ rfl
      clear hcel
      go_upto_region 5 with (fail)
      go_cut [3, 4] (fun i p1 wx => ∃ z, i = .int .i64 k ∧ p1 = .pointer (some ⟨z, 0, none⟩) ∧ Blk wx z (bkgA ⟨id, kind, state, gst, lev, cab, cat, frm, upto, til, fol⟩ (.slice A3 n3 c3)) 37 ∧ Below wr.heap.size wr wx)
      case first => as_aux_lemma =>
        go_wp2_with fail
        go_meet
        exact ⟨_, rfl, rfl, blk1 _ _, bel1 _ _⟩
      obtain ⟨z, rfl, rfl, hZ, hbz⟩ := hcut
      clear y0 y1 y2 y3 y4 y5 y6 y7 y8 y9 y10
      replace hF := hF.bel hbz
      replace hb := hb.trans (hbz.mono hb.size)
      replace hbo := hbo.trans (hbz.mono hbo.size)
      clear hbz
      have hG := HG.out.bel hb
      have s0 : wc.cell? ⟨g, 0, none⟩ = some (.int .i64 x.ship.legs) := hG.cell rfl
      have s1 : wc.cell? ⟨g, 1, none⟩ = some (.int .i64 x.ship.souls) := hG.cell rfl
      have s2 : wc.cell? ⟨g, 2, none⟩ = some (.slice A n cap) := hG.cell rfl
      have s3 : wc.cell? ⟨g, 3, none⟩ = some (.slice B m cap2) := hG.cell rfl
      have s4 : wc.cell? ⟨g, 4, none⟩ = some (.slice D nd cd) := hG.cell rfl
      have s5 : wc.cell? ⟨g, 5, none⟩ = some (.int .i64 x.fares.alone) := hG.cell rfl
      have s6 : wc.cell? ⟨g, 6, none⟩ = some (.int .i64 x.fares.third) := hG.cell rfl
      have s7 : wc.cell? ⟨g, 7, none⟩ = some (.slice E ne ce) := hG.cell rfl
      have s8 : wc.cell? ⟨g, 8, none⟩ = some (.int .i64 x.fares.down) := hG.cell rfl
      have s9 : wc.cell? ⟨g, 9, none⟩ = some (.int .i64 x.day) := hG.cell rfl
      have s10 : wc.cell? ⟨g, 10, none⟩ = some (.int .i64 x.leaves) := hG.cell rfl
      have s11 : wc.cell? ⟨g, 11, none⟩ = some (.slice (some ⟨ab, off, none⟩) nb cb) := hG.cell rfl
      have s12 : wc.cell? ⟨g, 12, none⟩ = some (.bool x.closed) := hG.cell rfl
      have z0 : wc.cell? ⟨z, 0, none⟩ = some (.int .i64 id) := hZ.cell rfl
      have z1 : wc.cell? ⟨z, 1, none⟩ = some (.int .i64 kind) := hZ.cell rfl
      have z2 : wc.cell? ⟨z, 2, none⟩ = some (.int .i64 state) := hZ.cell rfl
      have z3 : wc.cell? ⟨z, 3, none⟩ = some (.int .i64 gst) := hZ.cell rfl
      have z4 : wc.cell? ⟨z, 4, none⟩ = some (.bool lev) := hZ.cell rfl
      have z5 : wc.cell? ⟨z, 5, none⟩ = some (.int .i64 cab) := hZ.cell rfl
      have z6 : wc.cell? ⟨z, 6, none⟩ = some (.int .i64 cat) := hZ.cell rfl
      have z7 : wc.cell? ⟨z, 7, none⟩ = some (.int .i64 frm) := hZ.cell rfl
      have z8 : wc.cell? ⟨z, 8, none⟩ = some (.int .i64 upto) := hZ.cell rfl
      have z9 : wc.cell? ⟨z, 9, none⟩ = some (.int .i64 til) := hZ.cell rfl
      have z10 : wc.cell? ⟨z, 10, none⟩ = some ((.slice A3 n3 c3)) := hZ.cell rfl
      obtain ⟨q, hq⟩ : ∃ q, q = ofE x.ship ⟨id, kind, state, gst, lev, cab, cat, frm, upto, til, fol⟩ := ⟨_, rfl⟩
      have HCALL := Lib.hid (HO.out ⟨id, kind, state, gst, lev, cab, cat, frm, upto, til, fol⟩ A3 n3 c3 wc (HC.out.bel hbo) (HD.out.bel hbo) hF)
      have hat := bkE1_at hx
      rw [← hq] at HCALL hat
      have HAT := Lib.hid hat
      clear hat
      have HX := Lib.hid hx
      clear hx
      have HZ := Lib.hid hZ
      clear hZ
      have HQ := Lib.hid hq
      clear hq
      clear hF hI hG
      go_wp2_with fail
      refine HCALL.out.mono ?_
      rintro e w3 ⟨rfl, hb3⟩
      replace hb := hb.trans (hb3.mono hb.size)
      replace hbo := hbo.trans (hb3.mono hbo.size)
      have hZ := HZ.out.bel hb3
      clear hb3 s0 s1 s2 s3 s4 s5 s6 s7 s8 s9 s10 s11 s12 z0 z1 z2 z3 z4 z5 z6 z7 z8 z9 z10 HCALL HZ
      by_cases hq0 : q = 0
      rotate_left
      · have hfe : fe = q := by rw [HFE.out, firstE_at HE (by rw [HAT.out, if_pos hq0]; exact hq0) hlt, HAT.out, if_pos hq0]
        obtain rfl : r = q := by rw [HR2.out, hfe, if_pos hq0]
        have h0' : (r != 0) = true := by simpa using hq0
        clear hq0 hZ hfe
        go_wp2_with fail
        go_ret
        exact ⟨rfl, hbo⟩
      subst hq0
      have HAT2 := Lib.hid (HAT.out.trans (if_neg (by simp)))
      have s11 : w3.cell? ⟨g, 11, none⟩ = some (.slice (some ⟨ab, off, none⟩) nb cb) := (HG.out.bel hb).cell rfl
      have z0 : w3.cell? ⟨z, 0, none⟩ = some (.int .i64 id) := hZ.cell rfl
      clear hZ HAT
      rcases k with _ | j
      · have HZ := Lib.hid (show bkE1 x 0 = 0 by rw [HAT2.out, if_neg (fun h => absurd h.1 (Nat.lt_irrefl 0))])
        have HB := Lib.hid hb
        clear hb
        clear HAT2
        go_wp2_with fail
        go_quiet (fail)
        go_wp2_with fail
        go_roundg (nb - 1)
        case measure => omega
        case rel => exact ⟨1, by omega, by omega, by first | rfl | go_num, firstE_succ HE HZ.out, by first | exact HB.out | exact below_drewN HB.out _ | exact HB.out.drew⟩
      · obtain ⟨ab', off', y, A4, n4, c4, hA', hy, _, _, hcel'⟩ := (HL.out.bel hbo).bkg (k := j) (by omega)
        simp only [Option.some.injEq, Addr.mk.injEq, and_true] at hA'
        obtain ⟨rfl, rfl⟩ := hA'
        have u0 : w3.cell? ⟨ab, off + j * 11, none⟩ = some (.int .i64 y.id) := hcel' 0 _ rfl
        have hgy : (x.bks.getD (j + 1 - 1) default).id = y.id := by rw [Nat.add_sub_cancel, List.getD_eq_getElem?_getD, hy]; rfl
        have HAT3 := Lib.hid (HAT2.out)
        rw [hgy] at HAT3
        have hw : IntKind.i64.wrap (j : Int) = j := IntWalk.i64_in _ (by omega)
        have hj0 : (0 : Int) ≤ (j : Int) := Int.natCast_nonneg _
        have hj2 : (j : Int) < (nb : Int) := by omega
        have hj3 : (0 : Int) < (j : Int) + 1 := by omega
        have hj4 : decide ((0 : Int) < ((j + 1 : Nat) : Int)) = true := by simp
        have HB := Lib.hid hb
        have HBO := Lib.hid hbo
        clear hcel' hy hgy HAT2 hbo hb
        by_cases hle : id ≤ y.id
        · have HV := Lib.hid (show bkE1 x (j + 1) = 4 by rw [HAT3.out, if_pos ⟨Nat.succ_pos _, hle⟩])
          obtain rfl : r = 4 := by
            have hfe : fe = 4 := by rw [HFE.out, firstE_at HE (by rw [HV.out]; decide) hlt, HV.out]
            rw [HR2.out, hfe, if_pos (by decide)]
          go_wp2_with fail
          go_quiet (fail)
          go_wp2_with fail
          go_ret
          exact ⟨rfl, by first | exact HBO.out | exact below_drewN HBO.out _ | exact HBO.out.drew⟩
        · have HV := Lib.hid (show bkE1 x (j + 1) = 0 by rw [HAT3.out, if_neg (fun h => hle h.2)])
          have hle' : y.id < id := by omega
          clear hle
          go_wp2_with fail
          go_quiet (fail)
          go_wp2_with fail
          go_roundg (nb - (j + 1 + 1))
          case measure => omega
          case rel => exact ⟨j + 1 + 1, by omega, by omega, by go_num, firstE_succ HE HV.out, by first | exact HB.out | exact below_drewN HB.out _ | exact HB.out.drew⟩
    · obtain rfl : k = nb := by omega
      have hbo := HBW.out.trans (hb.mono HBW.out.size)
      have hG := HG.out.bel hb
      have s11 : wr.cell? ⟨g, 11, none⟩ = some (.slice C k cb) := hG.cell rfl
      have HR3 := Lib.hid (show r = if x.bks.any (badB x.closed) = true then 4 else 0 by rw [HR2.out, if_neg (by rw [HFE.out, show firstE (bkE1 x) k = 0 from HE]; simp)])
      obtain ⟨q, hq⟩ : ∃ q, q = x.bks.any (badB x.closed) := ⟨_, rfl⟩
      have hcf := ContainsFunc_bkg C k cb x.bks 177 #[.pointer (some ⟨g, 0, none⟩)] (badB x.closed) wr (HL.out.bel hbo) (enters_of Tryz.func177 (by kernel_rfl) rfl) (fun b v w1 _ hb1 => bad_any b v x.closed g w1 ((hG.bel hb1).cell rfl))
      rw [← hq] at HR3 hcf
      have HCF := Lib.hid hcf
      clear hcf
      clear hq hG HE
      go_wp2_with fail
      refine HCF.out.mono ?_
      rintro e w4 ⟨rfl, hb4⟩
      replace hbo := hbo.trans (hb4.mono hbo.size)
      cases q
      · obtain rfl : r = 0 := HR3.out
        go_wp2_with fail
        go_ret
        exact ⟨rfl, hbo⟩
      · obtain rfl : r = 4 := HR3.out
        go_wp2_with fail
        go_ret
        exact ⟨rfl, hbo⟩
end Go.Proofs.YtoilcdgpeilgaaaGreat
namespace Go.Proofs.YtoilcdgpeilgaaaGreat
open Go.RowKit Go.Shelf
def Apart (v u : Value) : Prop := ∀ k, v.ownBlock = some k → u.ownBlock ≠ some k
theorem Apart.symm {v u : Value} (h : Apart v u) : Apart u v := fun k hk hv => h k hv hk
theorem Apart.nilL (u : Value) : Apart (.slice none 0 0) u := fun k hk => by simp [Value.ownBlock] at hk
theorem Apart.step {v u u' : Value} {w : World} (h : Apart v u) (hv : ∀ k, v.ownBlock = some k → k < w.heap.size) (hat : u'.ownBlock = u.ownBlock ∨ u'.ownBlock = some w.heap.size) : Apart v u' := fun k hk => by
  rcases hat with e | e
  · rw [e]; exact h k hk
  · rw [e]; intro h2; injection h2 with h2; have := hv k hk; omega
theorem Own.grownF {α : Type} {c : Cod α} {size : Nat} {e : TypeId} {w w' : World} {base : Nat} {v u : Value} {l : List α} {xs : List Value} (hf : Flat c) (h : Own c size e w base v l xs) (hg : w.grownBy w' u.ownBlock) (ha : Apart v u) : Own c size e w' base v l xs := by
  refine ⟨⟨h.row.1, ?_⟩, fun i x hx => ?_⟩
  · rcases h.row.2 with h0 | ⟨g, cap, cur, hv, hb, hgg, r⟩
    · exact .inl h0
    · refine .inr ⟨g, cap, cur, hv, hb, (hg.block g (Array.getElem?_eq_some_iff.1 hgg).1 ?_).trans hgg, r⟩
      intro e1
      exact ha g (by rw [hv]; rfl) e1.symm
  · obtain ⟨cs, hc, r⟩ := h.el i x hx
    exact ⟨cs, hf _ _ _ _ _ _ hc, r⟩
def mayN (x : Sai) (b : Bkg) (j : Nat) : List Int := ((List.range j).filter (fun c : Nat => eligB x.ship b (c : Int) && emptyB x.bks c)).map Int.ofNat
theorem mayL_eq (x : Sai) (b : Bkg) : mayL x b = mayN x b x.ship.cabs.length := rfl
theorem mayN_succ (x : Sai) (b : Bkg) (j : Nat) : mayN x b (j + 1) = mayN x b j ++ (if (eligB x.ship b j && emptyB x.bks j) = true then [(j : Int)] else []) := by
  unfold mayN
  rw [List.range_succ, List.filter_append, List.map_append]
  congr 1
  cases h : (eligB x.ship b j && emptyB x.bks j) <;> simp [List.filter, h]
theorem mayN_len (x : Sai) (b : Bkg) (j : Nat) : (mayN x b j).length ≤ j := by
  unfold mayN
  rw [List.length_map]
  have := List.length_filter_le (fun c : Nat => eligB x.ship b (c : Int) && emptyB x.bks c) (List.range j)
  rwa [List.length_range] at this
def toE (i : Nat) (l : List Int) : List Edg := l.map (fun c => ⟨i, c⟩)
theorem toE_app (i : Nat) (l k : List Int) : toE i (l ++ k) = toE i l ++ toE i k := List.map_append
theorem edgF_snoc (x : Sai) : ∀ (l : List Bkg) (b : Bkg) (i : Nat), edgF x (l ++ [b]) i = edgF x l i ++ toE (i + l.length) (mayL x b)
  | [], b, i => by simp [edgF, toE]
  | a :: l, b, i => by
    rw [List.cons_append]
    show (mayL x a).map _ ++ edgF x (l ++ [b]) (i + 1) = ((mayL x a).map _ ++ edgF x l (i + 1)) ++ _
    rw [edgF_snoc x l b (i + 1), List.append_assoc, List.length_cons, show i + 1 + l.length = i + (l.length + 1) by omega]
theorem edgF_len (x : Sai) : ∀ (l : List Bkg) (i : Nat), (edgF x l i).length ≤ l.length * x.ship.cabs.length
  | [], _ => by simp [edgF]
  | a :: l, i => by
    have h1 := edgF_len x l (i + 1)
    have h2 := mayN_len x a x.ship.cabs.length
    rw [← mayL_eq] at h2
    show ((mayL x a).map _ ++ edgF x l (i + 1)).length ≤ _
    rw [List.length_append, List.length_map, List.length_cons, Nat.add_mul]
    omega
def openN (x : Sai) (k : Nat) : List Bkg := (x.bks.take k).filter openB
theorem openN_succ {x : Sai} {k : Nat} {b : Bkg} (h : x.bks[k]? = some b) : openN x (k + 1) = openN x k ++ (if openB b = true then [b] else []) := by
  unfold openN
  rw [take_snoc h, List.filter_append]
  congr 1
  cases h : openB b <;> simp [List.filter, h]
theorem openN_len (x : Sai) (k : Nat) : (openN x k).length ≤ k := by
  unfold openN
  have := List.length_filter_le openB (x.bks.take k)
  rw [List.length_take] at this
  omega
theorem openN_all {x : Sai} {k : Nat} (h : x.bks.length = k) : openN x k = openL x := by
  unfold openN openL
  rw [List.take_of_length_le (by omega)]
theorem open_cat {x : Sai} {b : Bkg} (h : OkBk x.ship b) (ho : openB b = true) : 0 ≤ b.cat ∧ b.cat < x.ship.cats.length := by
  unfold openB at ho
  simp only [Bool.and_eq_true, decide_eq_true_iff] at ho
  have h1 := h.kindE
  unfold kindE at h1
  rw [if_pos ho.1] at h1
  unfold promE at h1
  by_cases h2 : betB b.cat 0 ((x.ship.cats.length : Int) - 1) = false
  · rw [if_pos h2] at h1; omega
  · have h3 := betB_iff.1 (not_false_of h2)
    omega
theorem edgL_ok (x : Sai) : OkGr (idsL x).length x.ship.cabs.length (edgL x) := by
  have key : ∀ (l : List Bkg) (i : Nat), ∀ e ∈ edgF x l i, (i : Int) ≤ e.lft ∧ e.lft < (i + l.length : Nat) ∧ 0 ≤ e.rgt ∧ e.rgt < x.ship.cabs.length := by
    intro l
    induction l with
    | nil => intro i e he; simp [edgF] at he
    | cons a l ih =>
      intro i e he
      rcases List.mem_append.1 he with he | he
      · obtain ⟨c, hc, rfl⟩ := List.mem_map.1 he
        unfold mayL at hc
        obtain ⟨d, hd, hcd⟩ := List.mem_map.1 hc
        subst hcd
        replace hc := hd
        have := List.mem_range.1 (List.mem_filter.1 hc).1
        simp only [List.length_cons, Int.ofNat_eq_natCast]
        omega
      · have := ih (i + 1) e he
        rw [List.length_cons]
        omega
  intro e he
  have := key (openL x) 0 e he
  unfold idsL
  rw [List.length_map]
  simp only [Nat.zero_add] at this
  exact ⟨by omega, this.2.1, this.2.2.1, this.2.2.2⟩
theorem ids_len (x : Sai) : (idsL x).length ≤ x.bks.length := by
  unfold idsL openL
  rw [List.length_map]
  exact List.length_filter_le _ _
end Go.Proofs.YtoilcdgpeilgaaaGreat
