/-
  Words, laws and contracts: StockB, StockC, MatchS, MatchO, StockD.
-/
import Derived.Test.YtlablioefblmkaaGreatBun15
import Derived.Test.YtlablioefblmkaaGreatSortEdge
import Derived.Shelf.SlSortCmp.NoneTotal
/-
  Sailings: what the code asks of one booking; IndexFunc, ContainsFunc at bookings.
-/
namespace Go.Proofs.YtlablioefblmkaaGreat
open Go.RowKit Go.Shelf

theorem day_any (n : Int) (w : World) : Calls Tryz.prog 60 #[.int .i64 n] w fun e w' => e = .returned (.bool (betB n 0 9999)) ∧ w = w' := by
  go_enter Tryz.func60, Tryz.ntmps60
  go_wp2
  all_goals go_ret
  all_goals exact ⟨retB (by unfold betB; simp; try omega), rfl⟩

theorem openB_eq (id kind state gst : Int) (lev : Bool) (cab cat frm upto til : Int) (fol : List Entry) : openB ⟨id, kind, state, gst, lev, cab, cat, frm, upto, til, fol⟩ = (decide (kind = 2) && (liveB ⟨id, kind, state, gst, lev, cab, cat, frm, upto, til, fol⟩ && decide (cab < 0))) := rfl
set_option maxRecDepth 100000 in
set_option maxHeartbeats 1000000 in
theorem open_any (b : Bkg) (v : Value) (w : World) : Calls Tryz.prog 139 #[.agg (bkgA b v)] w fun e w' => e = .returned (.bool (openB b)) ∧ Below w.heap.size w w' := by
  obtain ⟨id, kind, state, gst, lev, cab, cat, frm, upto, til, fol⟩ := b
  obtain ⟨r, hr⟩ : ∃ r, r = openB ⟨id, kind, state, gst, lev, cab, cat, frm, upto, til, fol⟩ := ⟨_, rfl⟩
  rw [← hr]
  rw [openB_eq] at hr
  have hL := fun W => Live_any ⟨id, kind, state, gst, lev, cab, cat, frm, upto, til, fol⟩ v W
  obtain ⟨q, hq⟩ : ∃ q, q = liveB ⟨id, kind, state, gst, lev, cab, cat, frm, upto, til, fol⟩ := ⟨_, rfl⟩
  rw [← hq] at hL hr
  have HR := Lib.hid hr
  clear hr
  have HL := Lib.hid hL
  clear hL
  clear hq
  go_enter Tryz.func139, Tryz.ntmps139
  go_upto_region 0 with (fail)
  go_cut [1, 2] (fun p _ wx => ∃ h, p = .pointer (some ⟨h, 0, none⟩) ∧ Blk wx h (bkgA ⟨id, kind, state, gst, lev, cab, cat, frm, upto, til, fol⟩ v) 42 ∧ Below w.heap.size w wx)
  case first => as_aux_lemma =>
    go_wp2_with fail
    go_meet
    exact ⟨_, rfl, blk1 _ _, bel1 _ _⟩
  obtain ⟨h, rfl, hH, hbw⟩ := hcut
  have z0 : wc.cell? ⟨h, 0, none⟩ = some (.int .i64 id) := hH.cell rfl
  have z1 : wc.cell? ⟨h, 1, none⟩ = some (.int .i64 kind) := hH.cell rfl
  have z2 : wc.cell? ⟨h, 2, none⟩ = some (.int .i64 state) := hH.cell rfl
  have z3 : wc.cell? ⟨h, 3, none⟩ = some (.int .i64 gst) := hH.cell rfl
  have z4 : wc.cell? ⟨h, 4, none⟩ = some (.bool lev) := hH.cell rfl
  have z5 : wc.cell? ⟨h, 5, none⟩ = some (.int .i64 cab) := hH.cell rfl
  have z6 : wc.cell? ⟨h, 6, none⟩ = some (.int .i64 cat) := hH.cell rfl
  have z7 : wc.cell? ⟨h, 7, none⟩ = some (.int .i64 frm) := hH.cell rfl
  have z8 : wc.cell? ⟨h, 8, none⟩ = some (.int .i64 upto) := hH.cell rfl
  have z9 : wc.cell? ⟨h, 9, none⟩ = some (.int .i64 til) := hH.cell rfl
  have z10 : wc.cell? ⟨h, 10, none⟩ = some (v) := hH.cell rfl
  by_cases hk : kind = 2
  rotate_left
  · obtain rfl : r = false := by rw [HR.out, decide_eq_false hk]; rfl
    have h0' : (kind == 2) = false := by simpa using hk
    clear hk
    go_wp2_with fail
    go_ret
    exact ⟨rfl, hbw⟩
  have HR2 := Lib.hid (show r = (q && decide (cab < 0)) by rw [HR.out, decide_eq_true hk]; rfl)
  subst hk
  go_wp2_with fail
  refine (HL.out _).mono ?_
  rintro e w2 ⟨rfl, hb2⟩
  replace hH := hH.bel hb2
  replace hbw := hbw.trans (hb2.mono hbw.size)
  clear hb2 z0 z1 z2 z3 z4 z5 z6 z7 z8 z9 z10
  have z5 : w2.cell? ⟨h, 5, none⟩ = some (.int .i64 cab) := hH.cell rfl
  cases q
  · obtain rfl : r = false := HR2.out
    go_wp2_with fail
    go_ret
    exact ⟨rfl, hbw⟩
  by_cases hcb : cab < 0
  · obtain rfl : r = true := by rw [HR2.out, decide_eq_true hcb]; rfl
    go_wp2_with fail
    go_ret
    exact ⟨rfl, hbw⟩
  · obtain rfl : r = false := by rw [HR2.out, decide_eq_false hcb]; rfl
    have hd := decide_eq_false hcb
    clear hcb
    go_wp2_with fail
    go_ret
    exact ⟨rfl, hbw⟩

set_option maxRecDepth 100000 in
set_option maxHeartbeats 1000000 in
theorem isOpen_any (b : Bkg) (v : Value) (w : World) : Calls Tryz.prog 77 #[.agg (bkgA b v)] w fun e w' => e = .returned (.bool (openB b)) ∧ Below w.heap.size w w' := by
  obtain ⟨id, kind, state, gst, lev, cab, cat, frm, upto, til, fol⟩ := b
  obtain ⟨r, hr⟩ : ∃ r, r = openB ⟨id, kind, state, gst, lev, cab, cat, frm, upto, til, fol⟩ := ⟨_, rfl⟩
  rw [← hr]
  have HR := Lib.hid (show r = (decide (kind = 2) && (!decide (state = 3) && decide (cab < 0))) by rw [hr]; rfl)
  clear hr
  go_enter Tryz.func77, Tryz.ntmps77
  go_upto_region 0 with (fail)
  go_cut [1, 2] (fun p _ wx => ∃ h, p = .pointer (some ⟨h, 0, none⟩) ∧ Blk wx h (bkgA ⟨id, kind, state, gst, lev, cab, cat, frm, upto, til, fol⟩ v) 42 ∧ Below w.heap.size w wx)
  case first => as_aux_lemma =>
    go_wp2_with fail
    go_meet
    exact ⟨_, rfl, blk1 _ _, bel1 _ _⟩
  obtain ⟨h, rfl, hH, hbw⟩ := hcut
  have z0 : wc.cell? ⟨h, 0, none⟩ = some (.int .i64 id) := hH.cell rfl
  have z1 : wc.cell? ⟨h, 1, none⟩ = some (.int .i64 kind) := hH.cell rfl
  have z2 : wc.cell? ⟨h, 2, none⟩ = some (.int .i64 state) := hH.cell rfl
  have z3 : wc.cell? ⟨h, 3, none⟩ = some (.int .i64 gst) := hH.cell rfl
  have z4 : wc.cell? ⟨h, 4, none⟩ = some (.bool lev) := hH.cell rfl
  have z5 : wc.cell? ⟨h, 5, none⟩ = some (.int .i64 cab) := hH.cell rfl
  have z6 : wc.cell? ⟨h, 6, none⟩ = some (.int .i64 cat) := hH.cell rfl
  have z7 : wc.cell? ⟨h, 7, none⟩ = some (.int .i64 frm) := hH.cell rfl
  have z8 : wc.cell? ⟨h, 8, none⟩ = some (.int .i64 upto) := hH.cell rfl
  have z9 : wc.cell? ⟨h, 9, none⟩ = some (.int .i64 til) := hH.cell rfl
  have z10 : wc.cell? ⟨h, 10, none⟩ = some (v) := hH.cell rfl
  by_cases hk : kind = 2
  rotate_left
  · obtain rfl : r = false := by rw [HR.out, decide_eq_false hk]; rfl
    have h0' : (kind == 2) = false := by simpa using hk
    clear hk
    go_wp2_with fail
    go_ret
    exact ⟨rfl, hbw⟩
  have HR2 := Lib.hid (show r = (!decide (state = 3) && decide (cab < 0)) by rw [HR.out, decide_eq_true hk]; rfl)
  subst hk
  by_cases h3 : state = 3
  · obtain rfl : r = false := by rw [HR2.out, decide_eq_true h3]; rfl
    subst h3
    go_wp2_with fail
    go_ret
    exact ⟨rfl, hbw⟩
  have h3' : (state != 3) = true := by simpa using h3
  by_cases hcb : cab < 0
  · obtain rfl : r = true := by rw [HR2.out, decide_eq_true hcb, decide_eq_false h3]; rfl
    clear h3
    go_wp2_with fail
    go_ret
    exact ⟨rfl, hbw⟩
  · obtain rfl : r = false := by rw [HR2.out, decide_eq_false hcb, Bool.and_false]
    clear h3
    go_wp2_with fail
    go_ret
    exact ⟨rfl, hbw⟩

set_option maxRecDepth 100000 in
set_option maxHeartbeats 1000000 in
theorem bad_any (b : Bkg) (v : Value) (cl : Bool) (g : Nat) (w : World) (hg : w.cell? ⟨g, 12, none⟩ = some (.bool cl)) : Calls Tryz.prog 127 #[.agg (bkgA b v), .pointer (some ⟨g, 0, none⟩)] w fun e w' => e = .returned (.bool (badB cl b)) ∧ Below w.heap.size w w' := by
  obtain ⟨id, kind, state, gst, lev, cab, cat, frm, upto, til, fol⟩ := b
  obtain ⟨r, hr⟩ : ∃ r, r = badB cl ⟨id, kind, state, gst, lev, cab, cat, frm, upto, til, fol⟩ := ⟨_, rfl⟩
  rw [← hr]
  have hL := fun W => Live_any ⟨id, kind, state, gst, lev, cab, cat, frm, upto, til, fol⟩ v W
  obtain ⟨q, hq⟩ : ∃ q, q = liveB ⟨id, kind, state, gst, lev, cab, cat, frm, upto, til, fol⟩ := ⟨_, rfl⟩
  have HR := Lib.hid (show r = (decide (kind = 2) && (q && (decide (cab < 0) == cl))) by rw [hr, hq]; rfl)
  rw [← hq] at hL
  have HL := Lib.hid hL
  clear hL
  have HG := Lib.hid hg
  clear hg
  clear hq hr
  go_enter Tryz.func127, Tryz.ntmps127
  go_upto_region 0 with (fail)
  go_cut [1, 2, 3] (fun p0 p _ wx => ∃ h, p0 = .pointer (some ⟨g, 0, none⟩) ∧ p = .pointer (some ⟨h, 0, none⟩) ∧ Blk wx h (bkgA ⟨id, kind, state, gst, lev, cab, cat, frm, upto, til, fol⟩ v) 42 ∧ Below w.heap.size w wx)
  case first => as_aux_lemma =>
    go_wp2_with fail
    go_meet
    exact ⟨_, rfl, rfl, blk1 _ _, bel1 _ _⟩
  obtain ⟨h, rfl, rfl, hH, hbw⟩ := hcut
  have z0 : wc.cell? ⟨h, 0, none⟩ = some (.int .i64 id) := hH.cell rfl
  have z1 : wc.cell? ⟨h, 1, none⟩ = some (.int .i64 kind) := hH.cell rfl
  have z2 : wc.cell? ⟨h, 2, none⟩ = some (.int .i64 state) := hH.cell rfl
  have z3 : wc.cell? ⟨h, 3, none⟩ = some (.int .i64 gst) := hH.cell rfl
  have z4 : wc.cell? ⟨h, 4, none⟩ = some (.bool lev) := hH.cell rfl
  have z5 : wc.cell? ⟨h, 5, none⟩ = some (.int .i64 cab) := hH.cell rfl
  have z6 : wc.cell? ⟨h, 6, none⟩ = some (.int .i64 cat) := hH.cell rfl
  have z7 : wc.cell? ⟨h, 7, none⟩ = some (.int .i64 frm) := hH.cell rfl
  have z8 : wc.cell? ⟨h, 8, none⟩ = some (.int .i64 upto) := hH.cell rfl
  have z9 : wc.cell? ⟨h, 9, none⟩ = some (.int .i64 til) := hH.cell rfl
  have z10 : wc.cell? ⟨h, 10, none⟩ = some (v) := hH.cell rfl
  by_cases hk : kind = 2
  rotate_left
  · obtain rfl : r = false := by rw [HR.out, decide_eq_false hk]; rfl
    have h0' : (kind == 2) = false := by simpa using hk
    clear hk
    go_wp2_with fail
    go_ret
    exact ⟨rfl, hbw⟩
  have HR2 := Lib.hid (show r = (q && (decide (cab < 0) == cl)) by rw [HR.out, decide_eq_true hk]; rfl)
  subst hk
  go_wp2_with fail
  refine (HL.out _).mono ?_
  rintro e w2 ⟨rfl, hb2⟩
  replace hH := hH.bel hb2
  replace hbw := hbw.trans (hb2.mono hbw.size)
  clear hb2 z0 z1 z2 z3 z4 z5 z6 z7 z8 z9 z10
  have z5 : w2.cell? ⟨h, 5, none⟩ = some (.int .i64 cab) := hH.cell rfl
  have g5 := cellB hbw HG.out
  cases q
  · obtain rfl : r = false := HR2.out
    go_wp2_with fail
    go_ret
    exact ⟨rfl, hbw⟩
  by_cases hcb : cab < 0
  · cases cl
    · obtain rfl : r = false := by rw [HR2.out, decide_eq_true hcb]; rfl
      go_wp2_with fail
      go_ret
      exact ⟨rfl, hbw⟩
    · obtain rfl : r = true := by rw [HR2.out, decide_eq_true hcb]; rfl
      go_wp2_with fail
      go_ret
      exact ⟨rfl, hbw⟩
  · have hd := decide_eq_false hcb
    cases cl
    · obtain rfl : r = true := by rw [HR2.out, decide_eq_false hcb]; rfl
      clear hcb
      go_wp2_with fail
      go_ret
      exact ⟨rfl, hbw⟩
    · obtain rfl : r = false := by rw [HR2.out, decide_eq_false hcb]; rfl
      clear hcb
      go_wp2_with fail
      go_ret
      exact ⟨rfl, hbw⟩

set_option maxRecDepth 100000 in
set_option maxHeartbeats 1000000 in
theorem has1_any (b : Bkg) (v : Value) (c : Int) (g : Nat) (w : World) (hg : w.cell? ⟨g, 0, none⟩ = some (.int .i64 c)) : Calls Tryz.prog 141 #[.agg (bkgA b v), .pointer (some ⟨g, 0, none⟩)] w fun e w' => e = .returned (.bool (hasB c b)) ∧ Below w.heap.size w w' := by
  obtain ⟨id, kind, state, gst, lev, cab, cat, frm, upto, til, fol⟩ := b
  have hL := fun W => Has_any ⟨id, kind, state, gst, lev, cab, cat, frm, upto, til, fol⟩ v c W
  obtain ⟨q, hq⟩ : ∃ q, q = hasB c ⟨id, kind, state, gst, lev, cab, cat, frm, upto, til, fol⟩ := ⟨_, rfl⟩
  rw [← hq] at hL
  rw [← hq]
  have HL := Lib.hid hL
  clear hL
  have HG := Lib.hid hg
  clear hg
  clear hq
  go_enter Tryz.func141, Tryz.ntmps141
  go_upto_region 0 with (fail)
  go_cut [1, 2, 3] (fun p0 p _ wx => ∃ h, p0 = .pointer (some ⟨g, 0, none⟩) ∧ p = .pointer (some ⟨h, 0, none⟩) ∧ Blk wx h (bkgA ⟨id, kind, state, gst, lev, cab, cat, frm, upto, til, fol⟩ v) 42 ∧ Below w.heap.size w wx)
  case first => as_aux_lemma =>
    go_wp2_with fail
    go_meet
    exact ⟨_, rfl, rfl, blk1 _ _, bel1 _ _⟩
  obtain ⟨h, rfl, rfl, hH, hbw⟩ := hcut
  have z0 : wc.cell? ⟨h, 0, none⟩ = some (.int .i64 id) := hH.cell rfl
  have z1 : wc.cell? ⟨h, 1, none⟩ = some (.int .i64 kind) := hH.cell rfl
  have z2 : wc.cell? ⟨h, 2, none⟩ = some (.int .i64 state) := hH.cell rfl
  have z3 : wc.cell? ⟨h, 3, none⟩ = some (.int .i64 gst) := hH.cell rfl
  have z4 : wc.cell? ⟨h, 4, none⟩ = some (.bool lev) := hH.cell rfl
  have z5 : wc.cell? ⟨h, 5, none⟩ = some (.int .i64 cab) := hH.cell rfl
  have z6 : wc.cell? ⟨h, 6, none⟩ = some (.int .i64 cat) := hH.cell rfl
  have z7 : wc.cell? ⟨h, 7, none⟩ = some (.int .i64 frm) := hH.cell rfl
  have z8 : wc.cell? ⟨h, 8, none⟩ = some (.int .i64 upto) := hH.cell rfl
  have z9 : wc.cell? ⟨h, 9, none⟩ = some (.int .i64 til) := hH.cell rfl
  have z10 : wc.cell? ⟨h, 10, none⟩ = some (v) := hH.cell rfl
  have g5 := cellB hbw HG.out
  go_wp2_with fail
  refine (HL.out _).mono ?_
  rintro e w2 ⟨rfl, hb2⟩
  go_wp2_with fail
  go_ret
  exact ⟨rfl, hbw.trans (hb2.mono hbw.size)⟩

set_option maxRecDepth 100000 in
set_option maxHeartbeats 4000000 in
theorem IndexFunc_bkg (A : Option Addr) (n cap : Nat) (l : List Bkg) (g : Nat) (lb : Array Value) (p : Bkg → Bool) (w : World) (h : Sl bkgC 11 w All A n cap l)
    (eg : ∀ args w, (callFunc g args).run Tryz.prog w = .ok (.enter g args) w)
    (hp : ∀ (x : Bkg) (v : Value) (w1 : World), x ∈ l → Below w.heap.size w w1 → Calls Tryz.prog g (#[.agg (bkgA x v)] ++ lb) w1 fun e w' => e = .returned (.bool (p x)) ∧ Below w1.heap.size w1 w') :
    Calls Tryz.prog 183 #[.slice A n cap, .func (.func g) #[] lb] w fun e w' => e = .returned (.int .i64 (idxF p l)) ∧ Below w.heap.size w w' := by
  have Hp := Lib.hid hp
  clear hp
  have hbd := h.bd
  have HL := Lib.hid h
  have HN := Lib.hid h.len
  clear h
  go_enter Tryz.func183, Tryz.ntmps183
  go_wp2_with fail
  go_loopg [8] n (fun gk i wr => ∃ k : Nat, k ≤ n ∧ n - k ≤ gk ∧ i = .int .i64 k ∧ Aside ((l.take k).any p = false) ∧ Below w.heap.size w wr)
  case atStart => exact ⟨0, Nat.zero_le _, by omega, rfl, rfl, Below.refl _ _⟩
  case round =>
    obtain ⟨k, hk, hgk, rfl, HA, hb⟩ := hrel
    by_cases hlt : k < n
    · skip
      obtain ⟨ab, off, ⟨id, kind, state, gst, lev, cab, cat, frm, upto, til, fol⟩, A3, n3, c3, hA, hx, hF, hI, hcel⟩ := (HL.out.bel hb).bkg hlt
      subst hA
      simp only at hF
      have y0 : wr.cell? ⟨ab, off + k * 11, none⟩ = some (.int .i64 id) := hcel 0 _ rfl
      have y1 : wr.cell? ⟨ab, off + k * 11 + 1, none⟩ = some (.int .i64 kind) := hcel 1 _ rfl
      have y2 : wr.cell? ⟨ab, off + k * 11 + 2, none⟩ = some (.int .i64 state) := hcel 2 _ rfl
      have y3 : wr.cell? ⟨ab, off + k * 11 + 3, none⟩ = some (.int .i64 gst) := hcel 3 _ rfl
      have y4 : wr.cell? ⟨ab, off + k * 11 + 4, none⟩ = some (.bool lev) := hcel 4 _ rfl
      have y5 : wr.cell? ⟨ab, off + k * 11 + 5, none⟩ = some (.int .i64 cab) := hcel 5 _ rfl
      have y6 : wr.cell? ⟨ab, off + k * 11 + 6, none⟩ = some (.int .i64 cat) := hcel 6 _ rfl
      have y7 : wr.cell? ⟨ab, off + k * 11 + 7, none⟩ = some (.int .i64 frm) := hcel 7 _ rfl
      have y8 : wr.cell? ⟨ab, off + k * 11 + 8, none⟩ = some (.int .i64 upto) := hcel 8 _ rfl
      have y9 : wr.cell? ⟨ab, off + k * 11 + 9, none⟩ = some (.int .i64 til) := hcel 9 _ rfl
      have y10 : wr.cell? ⟨ab, off + k * 11 + 10, none⟩ = some (.slice A3 n3 c3) := hcel 10 _ rfl
      clear hcel
      have HX := Lib.hid hx
      have HM := Lib.hid (List.mem_of_getElem? hx)
      have hcall := Hp.out _ (.slice A3 n3 c3) wr HM.out hb
      obtain ⟨q, hq⟩ : ∃ q, q = p ⟨id, kind, state, gst, lev, cab, cat, frm, upto, til, fol⟩ := ⟨_, rfl⟩
      rw [← hq] at hcall
      have HCALL := Lib.hid hcall
      clear hcall
      have HQ := Lib.hid hq
      clear hq
      clear hx hF hI
      cases q
      · skip
        go_wp2_with fail
        go_at_fn g
        refine HCALL.out.mono ?_
        rintro e w1 ⟨rfl, hb1⟩
        replace hb1 := hb.trans (hb1.mono hb.size)
        go_wp2_with fail
        go_roundg (n - (k + 1))
        case measure => omega
        case rel => exact ⟨k + 1, by omega, by omega, by go_num, by show _ = _; rw [any_take_succ HX.out, HA, ← HQ.out]; rfl, hb1⟩
      · skip
        go_wp2_with fail
        go_at_fn g
        refine HCALL.out.mono ?_
        rintro e w1 ⟨rfl, hb1⟩
        replace hb1 := hb.trans (hb1.mono hb.size)
        go_wp2_with fail
        go_ret
        exact ⟨retI (idxF_at HA HX.out HQ.out.symm).symm, hb1⟩
    · obtain rfl : k = n := by omega
      have HT := Lib.hid (List.take_of_length_le (Nat.le_of_eq HN.out))
      go_wp2_with fail
      go_ret
      exact ⟨retI (by rw [idxF_none (by rw [← HT.out]; exact HA)]), hb⟩

theorem ContainsFunc_bkg (A : Option Addr) (n cap : Nat) (l : List Bkg) (g : Nat) (lb : Array Value) (p : Bkg → Bool) (w : World) (h : Sl bkgC 11 w All A n cap l)
    (eg : ∀ args w, (callFunc g args).run Tryz.prog w = .ok (.enter g args) w)
    (hp : ∀ (x : Bkg) (v : Value) (w1 : World), x ∈ l → Below w.heap.size w w1 → Calls Tryz.prog g (#[.agg (bkgA x v)] ++ lb) w1 fun e w' => e = .returned (.bool (p x)) ∧ Below w1.heap.size w1 w') :
    Calls Tryz.prog 126 #[.slice A n cap, .func (.func g) #[] lb] w fun e w' => e = .returned (.bool (l.any p)) ∧ Below w.heap.size w w' := by
  have HC := IndexFunc_bkg A n cap l g lb p w h eg hp
  clear hp
  go_enter Tryz.func126, Tryz.ntmps126
  go_wp2_with fail
  refine HC.mono ?_
  rintro e w1 ⟨rfl, hb⟩
  have HI := Lib.hid (idxF_any (p := p) (l := l))
  have hbd := idxF_bd (p := p) (l := l) (by have := h.bd; have := h.len; omega)
  go_wp2_with fail
  go_ret
  exact ⟨retB HI.out, hb⟩
end Go.Proofs.YtlablioefblmkaaGreat
/-
  Sailings: what is wrong with their bookings, one by one.
-/
namespace Go.Proofs.YtlablioefblmkaaGreat
open Go.RowKit Go.Shelf

theorem bkE1_at {x : Sai} {k : Nat} {b : Bkg} (h : x.bks[k]? = some b) : bkE1 x k = if ofE x.ship b ≠ 0 then ofE x.ship b else if 0 < k ∧ b.id ≤ (x.bks.getD (k - 1) default).id then 4 else 0 := by
  unfold bkE1
  rw [List.getD_eq_getElem?_getD, h]; rfl

set_option maxRecDepth 100000 in
set_option maxHeartbeats 8000000 in
theorem bookings_any (x : Sai) (p : SaiV) (w : World) (h : SaiR w x p) (ho : OkShp x.ship) :
    Calls Tryz.prog 61 #[.agg (saiA x p)] w fun e w' => e = .returned (.int .i64 (bksE x)) ∧ Below w.heap.size w w' := by
  obtain ⟨A, n, cap, B, m, cap2, D, nd, cd, E, ne, ce, C, nb, cb⟩ := p
  obtain ⟨r, hr⟩ : ∃ r, r = bksE x := ⟨_, rfl⟩
  rw [← hr]
  have HS := Lib.hid h
  have hl : Sl bkgC 11 w All C nb cb x.bks := h.bks
  have hc : Sl catC 2 w All A n cap x.ship.cats := h.cats
  have hd : Sl cabC 4 w All B m cap2 x.ship.cabs := h.cabs
  have HO := Lib.hid (fun b A3 n3 c3 W h1 h2 h3 => bookOf_any x.ship A n cap B m cap2 b A3 n3 c3 W h1 h2 ho h3)
  have hbd := hl.bd
  obtain ⟨fe, hfe⟩ : ∃ q, q = firstE (bkE1 x) nb := ⟨_, rfl⟩
  have HR := Lib.hid (show r = if 16 < nb then 2 else if fe ≠ 0 then fe else if x.bks.any (badB x.closed) = true then 4 else 0 by rw [hr, hfe, ← hl.len]; rfl)
  have HFE := Lib.hid hfe
  clear hfe
  have HN := Lib.hid hl.len
  have HL := Lib.hid hl
  have HC := Lib.hid hc
  have HD := Lib.hid hd
  clear hr h hl hc hd
  go_enter Tryz.func61, Tryz.ntmps61
  go_upto_region 0 with (fail)
  go_cut [1, 2] (fun q _ wx => ∃ g, q = .pointer (some ⟨g, 0, none⟩) ∧ Blk wx g (saiA x ⟨A, n, cap, B, m, cap2, D, nd, cd, E, ne, ce, C, nb, cb⟩) 32 ∧ Below w.heap.size w wx)
  case first => as_aux_lemma =>
    go_wp2_with fail
    go_meet
    exact ⟨_, rfl, blk1 _ _, bel1 _ _⟩
  obtain ⟨g, rfl, hG, hbw⟩ := hcut
  have s0 : wc.cell? ⟨g, 0, none⟩ = some (.int .i64 x.ship.legs) := hG.cell rfl
  have s1 : wc.cell? ⟨g, 1, none⟩ = some (.int .i64 x.ship.souls) := hG.cell rfl
  have s2 : wc.cell? ⟨g, 2, none⟩ = some (.slice A n cap) := hG.cell rfl
  have s3 : wc.cell? ⟨g, 3, none⟩ = some (.slice B m cap2) := hG.cell rfl
  have s4 : wc.cell? ⟨g, 4, none⟩ = some (.slice D nd cd) := hG.cell rfl
  have s5 : wc.cell? ⟨g, 5, none⟩ = some (.int .i64 x.fares.alone) := hG.cell rfl
  have s6 : wc.cell? ⟨g, 6, none⟩ = some (.int .i64 x.fares.third) := hG.cell rfl
  have s7 : wc.cell? ⟨g, 7, none⟩ = some (.slice E ne ce) := hG.cell rfl
  have s8 : wc.cell? ⟨g, 8, none⟩ = some (.int .i64 x.fares.down) := hG.cell rfl
  have s9 : wc.cell? ⟨g, 9, none⟩ = some (.int .i64 x.day) := hG.cell rfl
  have s10 : wc.cell? ⟨g, 10, none⟩ = some (.int .i64 x.leaves) := hG.cell rfl
  have s11 : wc.cell? ⟨g, 11, none⟩ = some (.slice C nb cb) := hG.cell rfl
  have s12 : wc.cell? ⟨g, 12, none⟩ = some (.bool x.closed) := hG.cell rfl
  by_cases h16 : 16 < nb
  · obtain rfl : r = 2 := by rw [HR.out, if_pos h16]
    go_wp2_with fail
    go_ret
    exact ⟨rfl, hbw⟩
  have HR2 := Lib.hid (HR.out.trans (if_neg h16))
  obtain ⟨W0, hW0⟩ : ∃ W, W = wc := ⟨_, rfl⟩
  subst hW0
  have HG := Lib.hid hG
  clear hG
  have HBW := Lib.hid hbw
  clear hbw
  go_wp2_with fail
  go_loopg [13] nb (fun gk i wr => ∃ k : Nat, k ≤ nb ∧ nb - k ≤ gk ∧ i = .int .i64 k ∧ Aside (firstE (bkE1 x) k = 0) ∧ Below W0.heap.size W0 wr)
  case atStart => exact ⟨0, Nat.zero_le _, by omega, rfl, rfl, Below.refl _ _⟩
  case round =>
    clear s0 s1 s2 s3 s4 s5 s6 s7 s8 s9 s10 s11 s12
    obtain ⟨k, hk, hgk, rfl, HE, hb⟩ := hrel
    by_cases hlt : k < nb
    · have hbo := HBW.out.trans (hb.mono HBW.out.size)
      obtain ⟨ab, off, ⟨id, kind, state, gst, lev, cab, cat, frm, upto, til, fol⟩, A3, n3, c3, hA, hx, hF, hI, hcel⟩ := (HL.out.bel hbo).bkg hlt
      subst hA
      simp only at hF
      have y0 : wr.cell? ⟨ab, off + k * 11, none⟩ = some (.int .i64 id) := hcel 0 _ rfl
      have y1 : wr.cell? ⟨ab, off + k * 11 + 1, none⟩ = some (.int .i64 kind) := hcel 1 _ rfl
      have y2 : wr.cell? ⟨ab, off + k * 11 + 2, none⟩ = some (.int .i64 state) := hcel 2 _ rfl
      have y3 : wr.cell? ⟨ab, off + k * 11 + 3, none⟩ = some (.int .i64 gst) := hcel 3 _ rfl
      have y4 : wr.cell? ⟨ab, off + k * 11 + 4, none⟩ = some (.bool lev) := hcel 4 _ rfl
      have y5 : wr.cell? ⟨ab, off + k * 11 + 5, none⟩ = some (.int .i64 cab) := hcel 5 _ rfl
      have y6 : wr.cell? ⟨ab, off + k * 11 + 6, none⟩ = some (.int .i64 cat) := hcel 6 _ rfl
      have y7 : wr.cell? ⟨ab, off + k * 11 + 7, none⟩ = some (.int .i64 frm) := hcel 7 _ rfl
      have y8 : wr.cell? ⟨ab, off + k * 11 + 8, none⟩ = some (.int .i64 upto) := hcel 8 _ rfl
      have y9 : wr.cell? ⟨ab, off + k * 11 + 9, none⟩ = some (.int .i64 til) := hcel 9 _ rfl
      have y10 : wr.cell? ⟨ab, off + k * 11 + 10, none⟩ = some (.slice A3 n3 c3) := hcel 10 _ rfl
      clear hcel
      go_upto_region 5 with (fail)
      go_cut [3, 4] (fun i p1 wx => ∃ z, i = .int .i64 k ∧ p1 = .pointer (some ⟨z, 0, none⟩) ∧ Blk wx z (bkgA ⟨id, kind, state, gst, lev, cab, cat, frm, upto, til, fol⟩ (.slice A3 n3 c3)) 42 ∧ Below wr.heap.size wr wx)
      case first => as_aux_lemma =>
        go_wp2_with fail
        go_meet
        exact ⟨_, rfl, rfl, blk1 _ _, bel1 _ _⟩
      obtain ⟨z, rfl, rfl, hZ, hbz⟩ := hcut
      clear y0 y1 y2 y3 y4 y5 y6 y7 y8 y9 y10
      replace hF := hF.bel hbz
      replace hb := hb.trans (hbz.mono hb.size)
      replace hbo := hbo.trans (hbz.mono hbo.size)
      clear hbz
      have hG := HG.out.bel hb
      have s0 : wc.cell? ⟨g, 0, none⟩ = some (.int .i64 x.ship.legs) := hG.cell rfl
      have s1 : wc.cell? ⟨g, 1, none⟩ = some (.int .i64 x.ship.souls) := hG.cell rfl
      have s2 : wc.cell? ⟨g, 2, none⟩ = some (.slice A n cap) := hG.cell rfl
      have s3 : wc.cell? ⟨g, 3, none⟩ = some (.slice B m cap2) := hG.cell rfl
      have s4 : wc.cell? ⟨g, 4, none⟩ = some (.slice D nd cd) := hG.cell rfl
      have s5 : wc.cell? ⟨g, 5, none⟩ = some (.int .i64 x.fares.alone) := hG.cell rfl
      have s6 : wc.cell? ⟨g, 6, none⟩ = some (.int .i64 x.fares.third) := hG.cell rfl
      have s7 : wc.cell? ⟨g, 7, none⟩ = some (.slice E ne ce) := hG.cell rfl
      have s8 : wc.cell? ⟨g, 8, none⟩ = some (.int .i64 x.fares.down) := hG.cell rfl
      have s9 : wc.cell? ⟨g, 9, none⟩ = some (.int .i64 x.day) := hG.cell rfl
      have s10 : wc.cell? ⟨g, 10, none⟩ = some (.int .i64 x.leaves) := hG.cell rfl
      have s11 : wc.cell? ⟨g, 11, none⟩ = some (.slice (some ⟨ab, off, none⟩) nb cb) := hG.cell rfl
      have s12 : wc.cell? ⟨g, 12, none⟩ = some (.bool x.closed) := hG.cell rfl
      have z0 : wc.cell? ⟨z, 0, none⟩ = some (.int .i64 id) := hZ.cell rfl
      have z1 : wc.cell? ⟨z, 1, none⟩ = some (.int .i64 kind) := hZ.cell rfl
      have z2 : wc.cell? ⟨z, 2, none⟩ = some (.int .i64 state) := hZ.cell rfl
      have z3 : wc.cell? ⟨z, 3, none⟩ = some (.int .i64 gst) := hZ.cell rfl
      have z4 : wc.cell? ⟨z, 4, none⟩ = some (.bool lev) := hZ.cell rfl
      have z5 : wc.cell? ⟨z, 5, none⟩ = some (.int .i64 cab) := hZ.cell rfl
      have z6 : wc.cell? ⟨z, 6, none⟩ = some (.int .i64 cat) := hZ.cell rfl
      have z7 : wc.cell? ⟨z, 7, none⟩ = some (.int .i64 frm) := hZ.cell rfl
      have z8 : wc.cell? ⟨z, 8, none⟩ = some (.int .i64 upto) := hZ.cell rfl
      have z9 : wc.cell? ⟨z, 9, none⟩ = some (.int .i64 til) := hZ.cell rfl
      have z10 : wc.cell? ⟨z, 10, none⟩ = some ((.slice A3 n3 c3)) := hZ.cell rfl
      obtain ⟨q, hq⟩ : ∃ q, q = ofE x.ship ⟨id, kind, state, gst, lev, cab, cat, frm, upto, til, fol⟩ := ⟨_, rfl⟩
      have HCALL := Lib.hid (HO.out ⟨id, kind, state, gst, lev, cab, cat, frm, upto, til, fol⟩ A3 n3 c3 wc (HC.out.bel hbo) (HD.out.bel hbo) hF)
      have hat := bkE1_at hx
      rw [← hq] at HCALL hat
      have HAT := Lib.hid hat
      clear hat
      have HX := Lib.hid hx
      clear hx
      have HZ := Lib.hid hZ
      clear hZ
      have HQ := Lib.hid hq
      clear hq
      clear hF hI hG
      go_wp2_with fail
      refine HCALL.out.mono ?_
      rintro e w3 ⟨rfl, hb3⟩
      replace hb := hb.trans (hb3.mono hb.size)
      replace hbo := hbo.trans (hb3.mono hbo.size)
      have hZ := HZ.out.bel hb3
      clear hb3 s0 s1 s2 s3 s4 s5 s6 s7 s8 s9 s10 s11 s12 z0 z1 z2 z3 z4 z5 z6 z7 z8 z9 z10 HCALL HZ
      by_cases hq0 : q = 0
      rotate_left
      · have hfe : fe = q := by rw [HFE.out, firstE_at HE (by rw [HAT.out, if_pos hq0]; exact hq0) hlt, HAT.out, if_pos hq0]
        obtain rfl : r = q := by rw [HR2.out, hfe, if_pos hq0]
        have h0' : (r != 0) = true := by simpa using hq0
        clear hq0 hZ hfe
        go_wp2_with fail
        go_ret
        exact ⟨rfl, hbo⟩
      subst hq0
      have HAT2 := Lib.hid (HAT.out.trans (if_neg (by simp)))
      have s11 : w3.cell? ⟨g, 11, none⟩ = some (.slice (some ⟨ab, off, none⟩) nb cb) := (HG.out.bel hb).cell rfl
      have z0 : w3.cell? ⟨z, 0, none⟩ = some (.int .i64 id) := hZ.cell rfl
      clear hZ HAT
      rcases k with _ | j
      · have HZ := Lib.hid (show bkE1 x 0 = 0 by rw [HAT2.out, if_neg (fun h => absurd h.1 (Nat.lt_irrefl 0))])
        have HB := Lib.hid hb
        clear hb
        clear HAT2
        go_wp2_with fail
        go_quiet (fail)
        go_wp2_with fail
        go_roundg (nb - 1)
        case measure => omega
        case rel => exact ⟨1, by omega, by omega, by first | rfl | go_num, firstE_succ HE HZ.out, by first | exact HB.out | exact below_drewN HB.out _ | exact HB.out.drew⟩
      · obtain ⟨ab', off', y, A4, n4, c4, hA', hy, _, _, hcel'⟩ := (HL.out.bel hbo).bkg (k := j) (by omega)
        simp only [Option.some.injEq, Addr.mk.injEq, and_true] at hA'
        obtain ⟨rfl, rfl⟩ := hA'
        have u0 : w3.cell? ⟨ab, off + j * 11, none⟩ = some (.int .i64 y.id) := hcel' 0 _ rfl
        have hgy : (x.bks.getD (j + 1 - 1) default).id = y.id := by rw [Nat.add_sub_cancel, List.getD_eq_getElem?_getD, hy]; rfl
        have HAT3 := Lib.hid (HAT2.out)
        rw [hgy] at HAT3
        have hw : IntKind.i64.wrap (j : Int) = j := IntWalk.i64_in _ (by omega)
        have hj0 : (0 : Int) ≤ (j : Int) := Int.natCast_nonneg _
        have hj2 : (j : Int) < (nb : Int) := by omega
        have hj3 : (0 : Int) < (j : Int) + 1 := by omega
        have hj4 : decide ((0 : Int) < ((j + 1 : Nat) : Int)) = true := by simp
        have HB := Lib.hid hb
        have HBO := Lib.hid hbo
        clear hcel' hy hgy HAT2 hbo hb
        by_cases hle : id ≤ y.id
        · have HV := Lib.hid (show bkE1 x (j + 1) = 4 by rw [HAT3.out, if_pos ⟨Nat.succ_pos _, hle⟩])
          obtain rfl : r = 4 := by
            have hfe : fe = 4 := by rw [HFE.out, firstE_at HE (by rw [HV.out]; decide) hlt, HV.out]
            rw [HR2.out, hfe, if_pos (by decide)]
          go_wp2_with fail
          go_quiet (fail)
          go_wp2_with fail
          go_ret
          exact ⟨rfl, by first | exact HBO.out | exact below_drewN HBO.out _ | exact HBO.out.drew⟩
        · have HV := Lib.hid (show bkE1 x (j + 1) = 0 by rw [HAT3.out, if_neg (fun h => hle h.2)])
          have hle' : y.id < id := by omega
          clear hle
          go_wp2_with fail
          go_quiet (fail)
          go_wp2_with fail
          go_roundg (nb - (j + 1 + 1))
          case measure => omega
          case rel => exact ⟨j + 1 + 1, by omega, by omega, by go_num, firstE_succ HE HV.out, by first | exact HB.out | exact below_drewN HB.out _ | exact HB.out.drew⟩
    · obtain rfl : k = nb := by omega
      have hbo := HBW.out.trans (hb.mono HBW.out.size)
      have hG := HG.out.bel hb
      have s11 : wr.cell? ⟨g, 11, none⟩ = some (.slice C k cb) := hG.cell rfl
      have HR3 := Lib.hid (show r = if x.bks.any (badB x.closed) = true then 4 else 0 by rw [HR2.out, if_neg (by rw [HFE.out, show firstE (bkE1 x) k = 0 from HE]; simp)])
      obtain ⟨q, hq⟩ : ∃ q, q = x.bks.any (badB x.closed) := ⟨_, rfl⟩
      have hcf := ContainsFunc_bkg C k cb x.bks 127 #[.pointer (some ⟨g, 0, none⟩)] (badB x.closed) wr (HL.out.bel hbo) (enters_of Tryz.func127 (by kernel_rfl) rfl) (fun b v w1 _ hb1 => bad_any b v x.closed g w1 ((hG.bel hb1).cell rfl))
      rw [← hq] at HR3 hcf
      have HCF := Lib.hid hcf
      clear hcf
      clear hq hG HE
      go_wp2_with fail
      refine HCF.out.mono ?_
      rintro e w4 ⟨rfl, hb4⟩
      replace hbo := hbo.trans (hb4.mono hbo.size)
      cases q
      · obtain rfl : r = 0 := HR3.out
        go_wp2_with fail
        go_ret
        exact ⟨rfl, hbo⟩
      · obtain rfl : r = 4 := HR3.out
        go_wp2_with fail
        go_ret
        exact ⟨rfl, hbo⟩
end Go.Proofs.YtlablioefblmkaaGreat
/-
  Matchings: slices.SortFunc at edges and slices.Sort at numbers, by the shelf's contracts: an own row is sorted in place.
-/
namespace Go.Proofs.YtlablioefblmkaaGreat
open Go.RowKit Go.Shelf Go.Lib
open Go.Sort hiding Below Holds

def encEd (x : Edg) : List Value := [.int .i64 x.lft, .int .i64 x.rgt]
/-- Edges whose left ends may be taken one from another. -/
abbrev SmEdg := { x : Edg // -1000 ≤ x.lft ∧ x.lft ≤ 1000 }
instance : Inhabited SmEdg := ⟨⟨⟨0, 0⟩, by decide, by decide⟩⟩
def encEm (x : SmEdg) : List Value := encEd x.1
def cmpEm (x y : SmEdg) : Int := x.1.lft - y.1.lft
theorem swoEm : Go.Sort.SWO (ltOf cmpEm) := ⟨fun x => by simp [ltOf, cmpEm], fun x y z h1 h2 => by
  have h1 : cmpEm x y < 0 := of_decide_eq_true h1
  have h2 : cmpEm y z < 0 := of_decide_eq_true h2
  refine decide_eq_true ?_
  unfold cmpEm at *
  omega, fun x y z h1 h2 => by
  have h1 : ¬ cmpEm x y < 0 := of_decide_eq_false h1
  have h2 : ¬ cmpEm y z < 0 := of_decide_eq_false h2
  refine decide_eq_false ?_
  unfold cmpEm at *
  omega⟩
theorem BestCmp_any (x y : SmEdg) (W : World) : Calls Tryz.prog 159 #[.agg #[.int .i64 x.1.lft, .int .i64 x.1.rgt], .agg #[.int .i64 y.1.lft, .int .i64 y.1.rgt]] W fun e w' => e = .returned (.int .i64 (cmpEm x y)) ∧ ∃ q os', w' = Go.Sort.grow (W.drewN q) os' := by
  obtain ⟨⟨a, b⟩, h1, h2⟩ := x
  obtain ⟨⟨c, d⟩, h3, h4⟩ := y
  simp only at h1 h2 h3 h4
  have hs : wrap64 (a - c) = a - c := by unfold wrap64; omega
  go_enter Tryz.func159, Tryz.ntmps159
  go_wp2_with fail
  go_ret
  exact ⟨rfl, 0, _, by rw [Go.Sort.alloc_eq_grow, Go.Sort.alloc_eq_grow, Go.Sort.grow_grow]; rfl⟩

section
variable {w : World} {blk n j : Nat} {F : Array Value → Array Value} {os : Array Obj}
theorem gw_size1 : (w.heap.modify blk (Go.Sort.onCells F)).size = w.heap.size := by simp
theorem gw_old (hj : j < w.heap.size) (hne : j ≠ blk) : (Go.Sort.grow (Go.Sort.mapBlock (Go.Sort.ahead w n) blk F) os).heap[j]? = w.heap[j]? := by
  unfold Go.Sort.grow Go.Sort.mapBlock Go.Sort.ahead
  simp only
  rw [Array.getElem?_append_left (by rw [gw_size1]; exact hj), Array.getElem?_modify, if_neg (fun e => hne e.symm)]
theorem gw_at {cur : Array Value} {e : TypeId} (h : w.heap[blk]? = some (.cells cur e (0, 0))) : (Go.Sort.grow (Go.Sort.mapBlock (Go.Sort.ahead w n) blk F) os).heap[blk]? = some (.cells (F cur) e (0, 0)) := by
  unfold Go.Sort.grow Go.Sort.mapBlock Go.Sort.ahead
  simp only
  rw [Array.getElem?_append_left (by rw [gw_size1]; exact (Array.getElem?_eq_some_iff.1 h).1), Array.getElem?_modify, if_pos rfl, h]
  rfl
theorem gw_size : w.heap.size ≤ (Go.Sort.grow (Go.Sort.mapBlock (Go.Sort.ahead w n) blk F) os).heap.size := by
  unfold Go.Sort.grow Go.Sort.mapBlock Go.Sort.ahead
  simp
theorem gw_kept : Kept (fun j => j = blk) w (Go.Sort.grow (Go.Sort.mapBlock (Go.Sort.ahead w n) blk F) os) := ⟨rfl, rfl, rfl, gw_size, fun _ hj hS => gw_old hj hS⟩
end

theorem flatE_at (d : Array SmEdg) (i j : Nat) (hi : i < d.size) (hj : j < 2) : (flatK encEm 2 d)[i * 2 + j]! = (encEm d[i]!)[j]! := by
  rw [get_flatK _ _ _ _ (by omega), show (i * 2 + j) / 2 = i by omega, show (i * 2 + j) % 2 = j by omega]

/-- An own row of edges is sorted in place. -/
theorem Sort_edge {base g n cap : Nat} {l : List Edg} {xs : List Value} {w : World} (h : Own edgC 2 95 w base (.slice (some ⟨g, 0, none⟩) n cap) l xs) (h12 : l.length ≤ 1000) (hs : ∀ x ∈ l, -1000 ≤ x.lft ∧ x.lft ≤ 1000) :
    Calls Tryz.prog 158 #[.slice (some ⟨g, 0, none⟩) n cap, .func (.func 159) #[] #[]] w fun e w' => e = .returned (.tuple #[]) ∧
      ∃ l' xs', l'.Perm l ∧ l'.Pairwise (fun x y => x.lft ≤ y.lft) ∧ Own edgC 2 95 w' base (.slice (some ⟨g, 0, none⟩) n cap) l' xs' ∧ Kept (fun j => j = g) w w' := by
  obtain ⟨la, hla⟩ : ∃ la : List SmEdg, la.map Subtype.val = l := ⟨l.pmap (fun x hx => ⟨x, hx⟩) hs, by rw [List.map_pmap]; simp⟩
  have hlen : la.length = l.length := by rw [← hla]; simp
  have hrow := h.row
  have hn : n = l.length := by
    rcases hrow.2 with ⟨hv, _⟩ | ⟨g', cap', cur, hv, _⟩
    · cases hv
    · injection hv
  subst hn
  obtain ⟨cur, hb, hgg, hnc, hcm, hcs, htake⟩ : ∃ cur, base ≤ g ∧ w.heap[g]? = some (.cells cur 95 (0, 0)) ∧ l.length ≤ cap ∧ cap ≤ maxLen ∧ cur.size = cap * 2 ∧ cur.toList.take (l.length * 2) = xs := by
    rcases hrow.2 with ⟨hv, _⟩ | ⟨g', cap', cur, hv, r⟩
    · cases hv
    · simp only [Value.slice.injEq, Option.some.injEq, Addr.mk.injEq, and_true, true_and] at hv
      obtain ⟨rfl, rfl⟩ := hv
      exact ⟨cur, r⟩
  have hH : HoldsK encEm 2 w g 0 la.toArray := fun j hj => by
    rw [size_flatK] at hj
    have hj2 : j < la.length * 2 := by simpa using hj
    have hi : j / 2 < l.length := by omega
    obtain ⟨cs, hcc, hl, hcell, hfr⟩ := h.cells (List.getElem?_eq_getElem hi)
    obtain ⟨rfl, _⟩ := hcc
    refine ⟨?_, hfr _⟩
    have hji : j / 2 * 2 + j % 2 = j := by omega
    have hx : (la.toArray[j / 2]!).1 = l[j / 2] := by
      have h1 : j / 2 < la.length := by omega
      rw [getElem!_pos _ _ (by simpa using h1)]
      simp only [List.getElem_toArray]
      have : (la.map Subtype.val)[j / 2]'(by simpa using h1) = l[j / 2] := by simp only [hla]
      rw [List.getElem_map] at this
      exact this
    have hf := flatE_at la.toArray (j / 2) (j % 2) (by simp; omega) (by omega)
    rw [hji] at hf
    show w.cell? ⟨g, 0 + j, none⟩ = some ((flatK encEm 2 la.toArray)[j]!)
    rw [Nat.zero_add, hf]
    unfold encEm encEd
    rw [hx]
    have hc := hcell (j % 2) (([Value.int .i64 (l[j / 2]).lft, .int .i64 (l[j / 2]).rgt])[j % 2]!) (by
      have : j % 2 = 0 ∨ j % 2 = 1 := by omega
      rcases this with e | e <;> rw [e] <;> rfl)
    rw [hji] at hc
    exact hc
  have hcm := AnyQ.slices_SortFunc Tryz.sortEdge 2 Tryz.isAgg95 Tryz.sizeOf95 encEm (fun _ => rfl) (fun x v hv => by simp [encEm, encEd] at hv; rcases hv with rfl | rfl <;> rfl) cmpEm swoEm 159 #[] g 0 cap la.toArray w (enters_of Tryz.func159 (by kernel_rfl) rfl)
    (fun _ _ _ _ x y => BestCmp_any x y _) hH (lt_of_block hgg) (by simp; omega)
  have e1 : la.toArray.size = l.length := by simpa using hlen
  rw [e1] at hcm
  refine Calls.mono hcm ?_
  rintro e w' ⟨rfl, d', q, os, ⟨hsz, _, hperm⟩, hsort, rfl⟩
  have hds : d'.size = l.length := by rw [hsz]; exact e1
  have hp : (d'.toList.map Subtype.val).Perm l := by
    rw [← hla]
    refine List.Perm.map _ ?_
    have h1 : (d'.extract 0 l.length).toList = d'.toList := by rw [← hds]; simp
    have h2 : (la.toArray.extract 0 l.length).toList = la := by rw [← hlen]; simp
    rw [h1, h2] at hperm
    exact hperm
  have hpl := hp.length_eq
  have hin : ∀ x ∈ l, InI x.lft ∧ InI x.rgt := fun x hx => by
    obtain ⟨i, hi⟩ := List.getElem?_of_mem hx
    obtain ⟨_, hcc, _⟩ := h.cells hi
    exact hcc.2
  have hfl : (flatK encEm 2 d').size = l.length * 2 := by rw [size_flatK, hds]
  have hget : ∀ i (hi : i < d'.size) j, j < 2 → (flatK encEm 2 d').toList[i * 2 + j]? = some ((encEm d'[i])[j]!) := fun i hi j hj => by
    have hlt : i * 2 + j < (flatK encEm 2 d').size := by rw [hfl]; omega
    have := flatE_at d' i j hi hj
    rw [getElem!_pos (flatK encEm 2 d') _ hlt, getElem!_pos d' i hi] at this
    rw [← this]
    simp
  refine ⟨rfl, d'.toList.map Subtype.val, (flatK encEm 2 d').toList, hp, ?_, ⟨⟨?_, .inr ⟨g, cap, _, ?_, hb, gw_at hgg, ?_, ‹_›, ?_, ?_⟩⟩, ?_⟩, gw_kept⟩
  · rw [List.pairwise_map, List.pairwise_iff_getElem]
    intro i j hi hj hij
    have h1 : i < d'.size := by simpa using hi
    have h2 : j < d'.size := by simpa using hj
    have := hsort i j (Nat.zero_le _) hij (by omega)
    rw [getElem!_pos d' i h1, getElem!_pos d' j h2] at this
    have : ¬ cmpEm d'[j] d'[i] < 0 := of_decide_eq_false this
    unfold cmpEm at this
    simp only [Array.getElem_toList]
    omega
  · rw [Array.length_toList, hfl, hpl]
  · rw [hpl]
  · rw [hpl]; exact hnc
  · simp [Go.Sort.putCells, hcs]
  · rw [hpl]
    refine List.ext_getElem? fun i => ?_
    rw [List.getElem?_take]
    by_cases hi : i < l.length * 2
    · rw [if_pos hi]
      have hlt : i < (flatK encEm 2 d').size := by rw [hfl]; exact hi
      have hlt2 : i < cur.size := by rw [hcs]; omega
      simp only [Go.Sort.putCells, Array.getElem?_toList, Array.getElem?_mapIdx]
      rw [Array.getElem?_eq_getElem hlt2, Array.getElem?_eq_getElem hlt]
      simp only [Option.map_some, Nat.zero_le, true_and, Nat.zero_add, Nat.sub_zero, if_pos hlt, id]
      rw [getElem!_pos (flatK encEm 2 d') _ hlt]
    · rw [if_neg hi, List.getElem?_eq_none (by rw [Array.length_toList, hfl]; omega)]
  · intro i x hx
    have hi : i < d'.size := by have := (List.getElem?_eq_some_iff.1 hx).1; simpa using this
    rw [List.getElem?_map, Array.getElem?_toList, Array.getElem?_eq_getElem hi] at hx
    simp only [Option.map_some, Option.some.injEq] at hx
    have hm : x ∈ l := hp.subset (List.mem_map.2 ⟨d'[i], by simp, hx⟩)
    refine ⟨[.int .i64 x.lft, .int .i64 x.rgt], ⟨rfl, hin x hm⟩, rfl, fun j u hu => ?_⟩
    have hj : j < 2 := (List.getElem?_eq_some_iff.1 hu).1
    rw [hget i hi j hj, ← hu]
    unfold encEm encEd
    rw [hx]
    have : j = 0 ∨ j = 1 := by omega
    rcases this with rfl | rfl <;> rfl

/-- .. of no edge: a nil slice too. -/
theorem Sort_edge_none (p : Option Addr) (cap : Nat) (fv : Value) (w : World) : Calls Tryz.prog 158 #[.slice p 0 cap, fv] w fun e w' => e = .returned (.tuple #[]) ∧ w' = w :=
  AnyF.slices_SortFunc_none Tryz.sortEdge p cap fv w

/-- An own row of numbers is sorted in place. -/
theorem Sort_ints {base g n cap : Nat} {l : List Int} {xs : List Value} {w : World} (h : Own intC 1 3 w base (.slice (some ⟨g, 0, none⟩) n cap) l xs) (hm : l.length ≤ 1000) :
    Calls Tryz.prog 156 #[.slice (some ⟨g, 0, none⟩) n cap] w fun e w' => e = .returned (.tuple #[]) ∧
      ∃ l' xs', l'.Perm l ∧ l'.Pairwise (fun x y => x ≤ y) ∧ Own intC 1 3 w' base (.slice (some ⟨g, 0, none⟩) n cap) l' xs' ∧ Kept (fun j => j = g) w w' := by
  have hrow := h.row
  have hn : n = l.length := by
    rcases hrow.2 with ⟨hv, _⟩ | ⟨g', cap', cur, hv, _⟩
    · cases hv
    · injection hv
  subst hn
  obtain ⟨cur, hb, hgg, hnc, hcm, hcs, htake⟩ : ∃ cur, base ≤ g ∧ w.heap[g]? = some (.cells cur 3 (0, 0)) ∧ l.length ≤ cap ∧ cap ≤ maxLen ∧ cur.size = cap * 1 ∧ cur.toList.take (l.length * 1) = xs := by
    rcases hrow.2 with ⟨hv, _⟩ | ⟨g', cap', cur, hv, r⟩
    · cases hv
    · simp only [Value.slice.injEq, Option.some.injEq, Addr.mk.injEq, and_true, true_and] at hv
      obtain ⟨rfl, rfl⟩ := hv
      exact ⟨cur, r⟩
  have hH : Go.Sort.Holds (Value.int .i64) w g 0 l.toArray := fun j hj => by
    have hj : j < l.length := by simpa using hj
    obtain ⟨cs, hcc, hl, hcell, hfr⟩ := h.cells (List.getElem?_eq_getElem hj)
    obtain ⟨rfl, _⟩ := hcc
    refine ⟨?_, hfr _⟩
    have := hcell 0 _ rfl
    rw [Nat.zero_add, getElem!_pos l.toArray j (by simpa using hj)]
    simpa using this
  have hcm2 := AnyM.slices_Sort_int Tryz.sortInts g 0 cap l w hH (lt_of_block hgg) (by omega)
  refine Calls.mono hcm2 ?_
  rintro e w' ⟨rfl, q, os, rfl⟩
  obtain ⟨l', hl'⟩ : ∃ l', l' = l.mergeSort (fun x y => decide (x ≤ y)) := ⟨_, rfl⟩
  rw [← hl']
  have hp : l'.Perm l := by rw [hl']; exact List.mergeSort_perm _ _
  have hs : l'.Pairwise (fun x y => x ≤ y) := by
    have := List.pairwise_mergeSort (le := fun x y : Int => decide (x ≤ y)) (fun a b c h1 h2 => by simp at *; omega) (fun a b => by simp; omega) l
    rw [← hl'] at this
    exact this.imp (fun h => of_decide_eq_true h)
  have hpl := hp.length_eq
  have hin : ∀ x ∈ l, InI x := fun x hx => by
    obtain ⟨i, hi⟩ := List.getElem?_of_mem hx
    obtain ⟨_, hcc, _⟩ := h.cells hi
    exact hcc.2
  refine ⟨rfl, l', l'.map (Value.int .i64), hp, hs, ⟨⟨by simp, .inr ⟨g, cap, _, ?_, hb, gw_at hgg, ?_, hcm, ?_, ?_⟩⟩, ?_⟩, gw_kept⟩
  · rw [hpl]
  · rw [hpl]; exact hnc
  · simp [Go.Sort.putCells, hcs]
  · refine List.ext_getElem? fun i => ?_
    rw [List.getElem?_take, Nat.mul_one]
    by_cases hi : i < l'.length
    · rw [if_pos hi]
      have hlt2 : i < cur.size := by rw [hcs]; omega
      simp only [Go.Sort.putCells, Array.getElem?_toList, Array.getElem?_mapIdx]
      rw [Array.getElem?_eq_getElem hlt2]
      have hi2 : i < l'.toArray.size := by simpa using hi
      simp only [Option.map_some, Nat.zero_le, true_and, Nat.zero_add, Nat.sub_zero, if_pos hi2]
      rw [getElem!_pos l'.toArray i hi2, List.getElem?_map, List.getElem?_eq_getElem hi]
      simp
    · rw [if_neg hi, List.getElem?_eq_none (by simpa using hi)]
  · intro i x hx
    refine ⟨[.int .i64 x], ⟨rfl, hin x (hp.subset (List.mem_of_getElem? hx))⟩, rfl, fun j u hu => ?_⟩
    rcases j with _ | j
    · simp at hu; subst hu
      rw [Nat.mul_one, Nat.add_zero, List.getElem?_map, hx]; rfl
    · simp at hu
end Go.Proofs.YtlablioefblmkaaGreat
/-
  Matchings: match.Best.
-/
namespace Go.Proofs.YtlablioefblmkaaGreat
open Go.RowKit Go.Shelf

theorem edg_elem : ElemOf Tryz.prog 45 95 2 16 := .mk' Tryz.underlying45 (z := .agg #[.int .i64 0, .int .i64 0]) (by kernel_rfl) rfl (by omega)
theorem sl_edg (w : World) (S : Nat → Prop) (a b : Int) (t : TypeId) (ha : InI a) (hb : InI b) (hS : S w.heap.size) : Sl edgC 2 (w.alloc (.cells #[.int .i64 a, .int .i64 b] t)) S (some ⟨w.heap.size, 0, none⟩) 1 1 [⟨a, b⟩] :=
  Sl.lit1 w S t (⟨a, b⟩ : Edg) [.int .i64 a, .int .i64 b] ⟨rfl, ha, hb⟩ hS
theorem bstL_len (has : List Int) (n : Nat) : (bstL has n).length ≤ n := by
  unfold bstL
  exact Nat.le_trans (List.length_filterMap_le _ _) (Nat.le_of_eq List.length_range)
theorem bstL_mem {has : List Int} {n : Nat} {x : Edg} (h : x ∈ bstL has n) : ∃ r, r < n ∧ x.lft = has.getD r (-1) ∧ 0 ≤ x.lft := by
  unfold bstL at h
  obtain ⟨r, hr, he⟩ := List.mem_filterMap.1 h
  by_cases h1 : has.getD r (-1) < 0
  · rw [if_pos h1] at he; cases he
  · rw [if_neg h1] at he
    injection he with he
    subst he
    exact ⟨r, List.mem_range.1 hr, rfl, by simp only; omega⟩

set_option maxRecDepth 100000 in
set_option maxHeartbeats 8000000 in
theorem Best_any (left right : Nat) (A : Option Addr) (n cap : Nat) (l : List Edg) (w : World) (h : Sl edgC 2 w All A n cap l) (hl : left ≤ 16) (hr : right ≤ 16) (hg : OkGr left right l) (hn : n ≤ 1000) :
    Calls Tryz.prog 86 #[.int .i64 (left : Int), .int .i64 (right : Int), .slice A n cap] w fun e w' => ∃ (v : Value) (ml : List Edg) (xs : List Value), e = .returned v ∧ Own edgC 2 95 w' w.heap.size v ml xs ∧ Best left right l ml ∧ IsSize left right l ml.length ∧ Below w.heap.size w w' := by
  have HS := Lib.hid (solve_any left right A n cap l w h hl hr hg hn)
  have HG := Lib.hid hg
  clear hg
  clear h
  go_enter Tryz.func86, Tryz.ntmps86
  go_wp2_with fail
  refine HS.out.mono ?_
  rintro e w1 ⟨P, G, N, O, v, has, no, D, xs0, rfl, hSt, hOw, hAs, hP0, hG0, hN0, hb⟩
  obtain ⟨z, hz⟩ := hSt.st
  have p1 : w1.cell? ⟨P, 1, none⟩ = some (.slice (some ⟨G, 0, none⟩) right right) := hz.cell rfl
  have HSt := Lib.hid hSt
  have HAS := Lib.hid hAs
  have HB1 := Lib.hid hb
  have hs1 := hb.size
  clear hSt hOw hAs hb hz hP0 hG0 hN0 HS
  go_wp2_with fail
  go_loopg [24, 9] right (fun gk i nv wr => ∃ (k : Nat) (xs : List Value), k ≤ right ∧ right - k ≤ gk ∧ i = .int .i64 k ∧ Own edgC 2 95 wr w1.heap.size nv (bstL has k) xs ∧ Below w1.heap.size w1 wr)
  case atStart => exact ⟨0, [], Nat.zero_le _, by omega, rfl, Own.nil _ _ _ _ _, Below.refl _ _⟩
  case round =>
    obtain ⟨k, xs, hk, hgk, rfl, hO, hb⟩ := hrel
    obtain ⟨A2, n2, cap2, rfl, hs2⟩ := hO.sl edgC_good
    have hln := hs2.len
    clear hs2
    by_cases hlt : k < right
    · have c0 := (HSt.out.row.bel hb).cell' (i := k) (by rw [HSt.out.lh]; exact hlt)
      rcases HAS.out.edge k hlt with hh | ⟨d, hh, hda, _⟩
      · rw [hh] at c0
        have HV := Lib.hid (show bstL has (k + 1) = bstL has k by rw [bstL_succ, if_pos (by rw [hh]; decide)])
        have HO := Lib.hid hO
        clear hO hh hln
        go_wp2_with fail
        go_roundg (right - (k + 1))
        case measure => omega
        case rel => exact ⟨k + 1, xs, by omega, by omega, by go_num, by rw [HV.out]; exact HO.out, hb⟩
      · rw [hh] at c0
        have hda : d < left := hda
        have HV := Lib.hid (show bstL has (k + 1) = bstL has k ++ [⟨d, k⟩] by rw [bstL_succ, if_neg (by rw [hh]; omega), hh])
        have hOq := Lib.hid (hO.bel (bel1 wr (.cells #[.int .i64 (d : Int), .int .i64 (k : Int)] 95)))
        have hsw := hb.size
        have hsq : w1.heap.size ≤ (wr.alloc (.cells #[.int .i64 (d : Int), .int .i64 (k : Int)] 95)).heap.size := by simp; omega
        have hby : ((bstL has k).length + 1) * 16 ≤ 140737488355328 := by have := bstL_len has k; omega
        have hd0 : (0 : Int) ≤ (d : Int) := by omega
        have HBQ := Lib.hid (hb.alloc hb.size (.cells #[.int .i64 (d : Int), .int .i64 (k : Int)] 95))
        clear hO hh hln hb
        go_wp2_with (at_builtin; refine list_app (t := 45) (e := 95) (bytes := 16) rfl (.tmp 31) (.tmp 35) rfl edg_elem edgC_good rfl hOq.out rfl (sl_edg _ All (d : Int) (k : Int) 95 (.of (by omega) (by omega)) (.of (by omega) (by omega)) trivial) (fun _ _ hc => hc) hby (by omega) hsq ?_; intro v' w' xs' hown' hg' _)
        go_roundg (right - (k + 1))
        case measure => omega
        case rel => exact ⟨k + 1, xs', by omega, by omega, by go_num, by rw [HV.out]; exact hown', below_app HBQ.out hOq.out hg' hsq⟩
    · obtain rfl : k = right := by omega
      have HB2 := Lib.hid (HB1.out.trans (hb.mono hs1))
      have HSB := Lib.hid hb.size
      by_cases h0 : n2 = 0
      · have hnil : bstL has k = [] := List.eq_nil_of_length_eq_zero (by omega)
        have HL := Lib.hid (best_law HAS.out HG.out (List.Perm.refl (bstL has k)) (by rw [hnil]; exact List.Pairwise.nil))
        rw [hnil] at hO HL
        have HO := Lib.hid (hO.mono edgC_good hs1)
        subst h0
        clear hO hln hnil hb
        go_wp2_with fail
        refine (Sort_edge_none A2 cap2 _ _).mono ?_
        rintro e w3 ⟨rfl, rfl⟩
        go_wp2_with fail
        go_ret
        exact ⟨_, [], xs, rfl, HO.out, HL.out.1, ⟨has, no, D, HAS.out, HL.out.2⟩, HB2.out⟩
      · obtain ⟨g, c9, hv, hg0, hgl⟩ := hO.form (by omega)
        simp only [Value.slice.injEq] at hv
        obtain ⟨rfl, -, rfl⟩ := hv
        have h12 : (bstL has k).length ≤ 1000 := by have := bstL_len has k; omega
        have hbd : ∀ x ∈ bstL has k, -1000 ≤ x.lft ∧ x.lft ≤ 1000 := fun x hx => by
          obtain ⟨r, hr1, hr2, hr3⟩ := bstL_mem hx
          rcases HAS.out.edge r hr1 with e | ⟨d, e, hd, _⟩
          · omega
          · have hd : d < left := hd
            omega
        have hst := Sort_edge (w := wr) (base := w1.heap.size) (g := g) (n := n2) (cap := cap2) hO h12 hbd
        have HST := Lib.hid hst
        clear hst
        clear hO hb h12 hbd hln
        go_wp2_with fail
        refine HST.out.mono ?_
        rintro e w3 ⟨rfl, ml, xs3, hp, hs, hO3, hK⟩
        have HL := Lib.hid (best_law HAS.out HG.out hp hs)
        have HO := Lib.hid (hO3.mono edgC_good hs1)
        have HB3 := Lib.hid (HB2.out.trans (hK.below (B := w.heap.size) HB2.out.size (fun q hq e => by omega)))
        clear hp hs hO3 hK
        go_wp2_with fail
        go_ret
        exact ⟨_, ml, xs3, rfl, HO.out, HL.out.1, ⟨has, no, D, HAS.out, HL.out.2⟩, HB3.out⟩
end Go.Proofs.YtlablioefblmkaaGreat
/-
  Sailings: plain laws on open promises, and whom they may have; rows of the call's own beside one another.
-/
namespace Go.Proofs.YtlablioefblmkaaGreat
open Go.RowKit Go.Shelf

/-- Two rows of the call's own lie apart. -/
def Apart (v u : Value) : Prop := ∀ k, v.ownBlock = some k → u.ownBlock ≠ some k
theorem Apart.symm {v u : Value} (h : Apart v u) : Apart u v := fun k hk hv => h k hv hk
theorem Apart.nilL (u : Value) : Apart (.slice none 0 0) u := fun k hk => by simp [Value.ownBlock] at hk
theorem Apart.step {v u u' : Value} {w : World} (h : Apart v u) (hv : ∀ k, v.ownBlock = some k → k < w.heap.size) (hat : u'.ownBlock = u.ownBlock ∨ u'.ownBlock = some w.heap.size) : Apart v u' := fun k hk => by
  rcases hat with e | e
  · rw [e]; exact h k hk
  · rw [e]; intro h2; injection h2 with h2; have := hv k hk; omega
theorem Own.grownF {α : Type} {c : Cod α} {size : Nat} {e : TypeId} {w w' : World} {base : Nat} {v u : Value} {l : List α} {xs : List Value} (hf : Flat c) (h : Own c size e w base v l xs) (hg : w.grownBy w' u.ownBlock) (ha : Apart v u) : Own c size e w' base v l xs := by
  refine ⟨⟨h.row.1, ?_⟩, fun i x hx => ?_⟩
  · rcases h.row.2 with h0 | ⟨g, cap, cur, hv, hb, hgg, r⟩
    · exact .inl h0
    · refine .inr ⟨g, cap, cur, hv, hb, (hg.block g (Array.getElem?_eq_some_iff.1 hgg).1 ?_).trans hgg, r⟩
      intro e1
      exact ha g (by rw [hv]; rfl) e1.symm
  · obtain ⟨cs, hc, r⟩ := h.el i x hx
    exact ⟨cs, hf _ _ _ _ _ _ hc, r⟩

/-- Whom an open promise may have, of the first cabins. -/
def mayN (x : Sai) (b : Bkg) (j : Nat) : List Int := ((List.range j).filter (fun c : Nat => eligB x.ship b (c : Int) && emptyB x.bks c)).map Int.ofNat
theorem mayL_eq (x : Sai) (b : Bkg) : mayL x b = mayN x b x.ship.cabs.length := rfl
theorem mayN_succ (x : Sai) (b : Bkg) (j : Nat) : mayN x b (j + 1) = mayN x b j ++ (if (eligB x.ship b j && emptyB x.bks j) = true then [(j : Int)] else []) := by
  unfold mayN
  rw [List.range_succ, List.filter_append, List.map_append]
  congr 1
  cases h : (eligB x.ship b j && emptyB x.bks j) <;> simp [List.filter, h]
theorem mayN_len (x : Sai) (b : Bkg) (j : Nat) : (mayN x b j).length ≤ j := by
  unfold mayN
  rw [List.length_map]
  have := List.length_filter_le (fun c : Nat => eligB x.ship b (c : Int) && emptyB x.bks c) (List.range j)
  rwa [List.length_range] at this
/-- Edges of one left one. -/
def toE (i : Nat) (l : List Int) : List Edg := l.map (fun c => ⟨i, c⟩)
theorem toE_app (i : Nat) (l k : List Int) : toE i (l ++ k) = toE i l ++ toE i k := List.map_append
theorem edgF_snoc (x : Sai) : ∀ (l : List Bkg) (b : Bkg) (i : Nat), edgF x (l ++ [b]) i = edgF x l i ++ toE (i + l.length) (mayL x b)
  | [], b, i => by simp [edgF, toE]
  | a :: l, b, i => by
    rw [List.cons_append]
    show (mayL x a).map _ ++ edgF x (l ++ [b]) (i + 1) = ((mayL x a).map _ ++ edgF x l (i + 1)) ++ _
    rw [edgF_snoc x l b (i + 1), List.append_assoc, List.length_cons, show i + 1 + l.length = i + (l.length + 1) by omega]
theorem edgF_len (x : Sai) : ∀ (l : List Bkg) (i : Nat), (edgF x l i).length ≤ l.length * x.ship.cabs.length
  | [], _ => by simp [edgF]
  | a :: l, i => by
    have h1 := edgF_len x l (i + 1)
    have h2 := mayN_len x a x.ship.cabs.length
    rw [← mayL_eq] at h2
    show ((mayL x a).map _ ++ edgF x l (i + 1)).length ≤ _
    rw [List.length_append, List.length_map, List.length_cons, Nat.add_mul]
    omega
def openN (x : Sai) (k : Nat) : List Bkg := (x.bks.take k).filter openB
theorem openN_succ {x : Sai} {k : Nat} {b : Bkg} (h : x.bks[k]? = some b) : openN x (k + 1) = openN x k ++ (if openB b = true then [b] else []) := by
  unfold openN
  rw [take_snoc h, List.filter_append]
  congr 1
  cases h : openB b <;> simp [List.filter, h]
theorem openN_len (x : Sai) (k : Nat) : (openN x k).length ≤ k := by
  unfold openN
  have := List.length_filter_le openB (x.bks.take k)
  rw [List.length_take] at this
  omega
theorem openN_all {x : Sai} {k : Nat} (h : x.bks.length = k) : openN x k = openL x := by
  unfold openN openL
  rw [List.take_of_length_le (by omega)]
theorem open_cat {x : Sai} {b : Bkg} (h : OkBk x.ship b) (ho : openB b = true) : 0 ≤ b.cat ∧ b.cat < x.ship.cats.length := by
  unfold openB at ho
  simp only [Bool.and_eq_true, decide_eq_true_iff] at ho
  have h1 := h.kindE
  unfold kindE at h1
  rw [if_pos ho.1] at h1
  unfold promE at h1
  by_cases h2 : betB b.cat 0 ((x.ship.cats.length : Int) - 1) = false
  · rw [if_pos h2] at h1; omega
  · have h3 := betB_iff.1 (not_false_of h2)
    omega
theorem edgL_ok (x : Sai) : OkGr (idsL x).length x.ship.cabs.length (edgL x) := by
  have key : ∀ (l : List Bkg) (i : Nat), ∀ e ∈ edgF x l i, (i : Int) ≤ e.lft ∧ e.lft < (i + l.length : Nat) ∧ 0 ≤ e.rgt ∧ e.rgt < x.ship.cabs.length := by
    intro l
    induction l with
    | nil => intro i e he; simp [edgF] at he
    | cons a l ih =>
      intro i e he
      rcases List.mem_append.1 he with he | he
      · obtain ⟨c, hc, rfl⟩ := List.mem_map.1 he
        unfold mayL at hc
        obtain ⟨d, hd, hcd⟩ := List.mem_map.1 hc
        subst hcd
        replace hc := hd
        have := List.mem_range.1 (List.mem_filter.1 hc).1
        simp only [List.length_cons, Int.ofNat_eq_natCast]
        omega
      · have := ih (i + 1) e he
        rw [List.length_cons]
        omega
  intro e he
  have := key (openL x) 0 e he
  unfold idsL
  rw [List.length_map]
  simp only [Nat.zero_add] at this
  exact ⟨by omega, this.2.1, this.2.2.1, this.2.2.2⟩
theorem ids_len (x : Sai) : (idsL x).length ≤ x.bks.length := by
  unfold idsL openL
  rw [List.length_map]
  exact List.length_filter_le _ _
end Go.Proofs.YtlablioefblmkaaGreat
