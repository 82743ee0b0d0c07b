/-
  Words, laws and contracts: ChgD, ChgE.
-/
import Derived.Test.YtoilcdgpeilgaaaGreatBun31
import Derived.BigQuiet
set_option linter.unusedSimpArgs false
set_option linter.unusedVariables false
namespace Go.Proofs.YtoilcdgpeilgaaaGreat
open Go.RowKit Go.Shelf
def DoOk (f : Nat) (lb : Array Value) (K : World → Prop) (x : Sai) (i : Nat) (E : Int) (X : Sai) : Prop :=
  ∀ (w0 : World) (b0 y g : Nat) (p : SaiV) (base : Nat) (w : World), K w → SaiW w0 b0 w base x p → Blk w y (chgA x p i) 149 → p.C = some ⟨g, 0, none⟩ →
    Calls Tryz.prog f (#[.pointer (some ⟨y, 0, none⟩)] ++ lb) w fun e w' => e = .returned (.int .i64 E) ∧ IfOK E (SaiW w0 b0 w' base X p) ∧ Kept (fun k => k = g) w w'
set_option maxRecDepth 100000 in
set_option maxHeartbeats 4000000 in
theorem sureDo_any (x : Sai) (i : Nat) (b : Bkg) (hb : x.bks[i]? = some b) (h16 : x.bks.length ≤ 16) : DoOk 96 #[] (fun _ => True) x i (sureE b) (setS x i (sureB b)) := by
  intro w0 b0 y g p base w _ hW hY hC
  show Calls Tryz.prog 96 #[.pointer (some ⟨y, 0, none⟩)] w _
  obtain ⟨g', A3, n3, c3, hC', hg0, hgl, hcel, hfr, hF, hI, hnb⟩ := hW.at hb
  obtain rfl : g' = g := by rw [hC'] at hC; injection hC with h; injection h
  have hil := (List.getElem?_eq_some_iff.1 hb).1
  have HIT := Lib.hid (it_any x p i y g' w hY hC' (by omega) (by omega))
  obtain ⟨R, hR⟩ : ∃ r, r = sureE b := ⟨_, rfl⟩
  rw [← hR]
  have HR := Lib.hid (show R = if b.state = 1 then 0 else 4 from hR)
  have HW := Lib.hid hW
  have HC := Lib.hid hC'
  have HBX := Lib.hid hb
  obtain ⟨st, hst⟩ : ∃ q, q = b.state := ⟨_, rfl⟩
  have c2 : w.cell? ⟨g', i * 11 + 2, none⟩ = some (.int .i64 st) := by rw [hst]; exact hcel 2 _ rfl
  have c9 : w.cell? ⟨g', i * 11 + 9, none⟩ = some (.int .i64 b.til) := hcel 9 _ rfl
  have f2 := hfr (i * 11 + 2)
  have f9 := hfr (i * 11 + 9)
  rw [← hst] at HR
  clear hR hW hY hC hC' hb hcel hfr hF hI hnb hil hst
  go_enter Tryz.func96, Tryz.ntmps96
  go_wp2_with fail
  refine HIT.out.mono ?_
  rintro e w1 ⟨rfl, hb1⟩
  replace c2 := cellB hb1 c2
  replace c9 := cellB hb1 c9
  replace f2 := frozenB hb1 hgl f2
  replace f9 := frozenB hb1 hgl f9
  have HB := Lib.hid hb1
  clear hb1
  clear HIT
  by_cases q1 : st = 1
  · obtain rfl : R = 0 := by rw [HR.out, if_pos q1]
    subst q1
    go_wp2_with fail
    go_ret
    have hW4 := (HW.out.bel HB.out).put HC.out HBX.out (j := 2) (by omega) (u := .int .i64 2) (fun cs h => bkgO_state h (.of (by decide) (by decide)))
    have hW5 := hW4.put HC.out (set_get HBX.out) (j := 9) (by omega) (u := .int .i64 0) (fun cs h => bkgO_til h (.of (by decide) (by decide)))
    rw [set_set] at hW5
    exact ⟨rfl, fun _ => hW5, (Kept.of_below HB.out (fun k hk h => by omega)).trans (kset w1 g' [(i * 11 + 2, .int .i64 2), (i * 11 + 9, .int .i64 0)])⟩
  · obtain rfl : R = 4 := by rw [HR.out, if_neg q1]
    have q2 : (st != 1) = true := by simpa using q1
    clear q1
    go_wp2_with fail
    go_ret
    exact ⟨rfl, fun h => absurd h (by decide), Kept.of_below HB.out (fun k hk h => by omega)⟩
def AmtK (q : Nat) (a : Int) (w : World) : Prop := Blk w q #[.int .i64 a] 3
theorem AmtK.bel {q : Nat} {a : Int} {w w' : World} (h : AmtK q a w) (hb : Below w.heap.size w w') : AmtK q a w' := Blk.bel h hb
set_option maxRecDepth 100000 in
set_option maxHeartbeats 16000000 in
theorem payDo_any (x : Sai) (i : Nat) (b : Bkg) (a : Int) (q : Nat) (ha : InI a) (hb : x.bks[i]? = some b) (h16 : x.bks.length ≤ 16) (hfo : checkFolio b.fol = 0) (hday : betB x.day 0 9999 = true) : DoOk 98 #[.pointer (some ⟨q, 0, none⟩)] (AmtK q a) x i (paidE x b a) (setS x i (paidB x b a)) := by
  intro w0 b0 y g p base w hQ hW hY hC
  show Calls Tryz.prog 98 #[.pointer (some ⟨y, 0, none⟩), .pointer (some ⟨q, 0, none⟩)] w _
  obtain ⟨g', A3, n3, c3, hC', hg0, hgl, hcel, hfr, hF, hI, hnb⟩ := hW.at hb
  obtain rfl : g' = g := by rw [hC'] at hC; injection hC with h; injection h
  have hil := (List.getElem?_eq_some_iff.1 hb).1
  have hdb := betB_iff.1 hday
  have HIT := Lib.hid (it_any x p i y g' w hY hC' (by omega) (by omega))
  have HDU := Lib.hid (fun X h => Due_any A3 n3 c3 b.fol X h (check_small hfo))
  have HAD := Lib.hid (fun X h (h1 : InI (-a)) => Add_any A3 n3 c3 b.fol x.day 2 (-a) X h (.of (by omega) (by omega)) (.of (by decide) (by decide)) h1)
  obtain ⟨R, hR⟩ : ∃ r, r = paidE x b a := ⟨_, rfl⟩
  obtain ⟨du, hdu⟩ : ∃ r, r = dueOf b.fol := ⟨_, rfl⟩
  obtain ⟨ce, hce⟩ : ∃ r, r = checkFolio (b.fol ++ [⟨x.day, 2, -a⟩]) := ⟨_, rfl⟩
  obtain ⟨L, hL⟩ : ∃ r, r = b.fol ++ [⟨x.day, 2, -a⟩] := ⟨_, rfl⟩
  have hae : addE b.fol ⟨x.day, 2, -a⟩ = ce := by unfold addE; rw [if_pos hfo, hce]
  have HR := Lib.hid (show R = if betB a 1 100000000 = false then 3 else if du < a then 4 else ce by rw [hR, hdu, hce]; rfl)
  have HX := Lib.hid (show setS x i (paidB x b a) = setS x i { b with fol := L } by rw [hL]; rfl)
  rw [hae, ← hL] at HAD
  rw [← hdu] at HDU
  rw [← hR, HX.out]
  have HW := Lib.hid hW
  have HC := Lib.hid hC'
  have HBX := Lib.hid hb
  have HF := Lib.hid hF
  have HFRZ := Lib.hid (hfr (i * 11 + 10))
  have HC10 := Lib.hid (show ∀ X, Below w.heap.size w X → X.cell? ⟨g', i * 11 + 10, none⟩ = some (.slice A3 n3 c3) from fun X hX => cellB hX (hcel 10 _ rfl))
  have HA := Lib.hid (show ∀ X, Below w.heap.size w X → X.cell? ⟨q, 0, none⟩ = some (.int .i64 a) from fun X hX => (AmtK.bel hQ hX).cell rfl)
  have HDAY := Lib.hid (show ∀ X, Below w.heap.size w X → X.cell? ⟨y, 9, none⟩ = some (.int .i64 x.day) from fun X hX => (hY.bel hX).cell rfl)
  have hd1 : -1000 ≤ x.day := by omega
  have hd2 : x.day ≤ 10000 := by omega
  clear hR hdu hce hL hae hW hY hC hC' hb hcel hfr hF hI hnb hil hQ hdb hday hfo h16
  have hb : Below w.heap.size w w := Below.refl _ _
  go_enter Tryz.func98, Tryz.ntmps98
  go_wp2_with fail
  refine HIT.out.mono ?_
  rintro e w1 ⟨rfl, hb1⟩
  replace hb := hb.trans (hb1.mono hb.size)
  clear hb1 HIT
  have a0 := HA.out _ hb
  by_cases q1 : a < 1
  · obtain rfl : R = 3 := by rw [HR.out, if_pos (by unfold betB; simp; omega)]
    go_wp2_with fail
    go_ret
    exact ⟨rfl, fun h => absurd h (by decide), Kept.of_below hb (fun k hk h => by omega)⟩
  by_cases q2 : 100000000 < a
  · obtain rfl : R = 3 := by rw [HR.out, if_pos (by unfold betB; simp; omega)]
    go_wp2_with fail
    go_ret
    exact ⟨rfl, fun h => absurd h (by decide), Kept.of_below hb (fun k hk h => by omega)⟩
  have HR1 := Lib.hid (HR.out.trans (if_neg (by unfold betB; simp; omega)))
  have c10 := HC10.out _ hb
  go_upto_region 4 with (fail)
  obtain ⟨tv, htv⟩ : ∃ q, q = decide (du < a) := ⟨_, rfl⟩
  have HTV := Lib.hid htv
  clear htv
  go_cut [16] (fun v wx => v = .bool tv ∧ Below w.heap.size w wx)
  case first =>
    replace hb := hb.drew
    go_region_held3 (fun w' => w'.cell? ⟨q, 0, none⟩ = some (.int .i64 a) ∧ w'.cell? ⟨g', i * 11 + 10, none⟩ = some (.slice A3 n3 c3)) (first | exact ⟨HA.out _ hb, HC10.out _ hb⟩ | go_keep) (first | (go_at_call 99; refine (HDU.out _ (HF.out.bel hb)).mono ?_; rintro e w5 ⟨rfl, hb5⟩; replace hb := hb.trans (hb5.mono hb.size); clear hb5))
    go_wp2_with fail
    go_meet
    exact ⟨by rw [HTV.out], hb⟩
  obtain ⟨rfl, hb2⟩ := hcut
  obtain ⟨W2, hW2⟩ : ∃ V, V = wc := ⟨_, rfl⟩
  subst hW2
  replace hb := hb2
  clear hb2 HDU a0 c10
  cases tv
  rotate_left
  · obtain rfl : R = 4 := by rw [HR1.out, if_pos (of_decide_eq_true HTV.out.symm)]
    go_wp2_with fail
    go_ret
    exact ⟨rfl, fun h => absurd h (by decide), Kept.of_below hb (fun k hk h => by omega)⟩
  obtain rfl : R = ce := by rw [HR1.out, if_neg (of_decide_eq_false HTV.out.symm)]
  go_upto_region 6 with (fail)
  go_cut [5, 6] (fun v v2 wx => v2 = .int .i64 R ∧ (∃ xs, Own entryC 3 57 wx W2.heap.size v (okL R L) xs) ∧ Below W2.heap.size W2 wx)
  case first =>
    have hn1 : InI (-a) := .of (by omega) (by omega)
    have hneg : IntKind.i64.wrap (-a) = -a := IntWalk.i64_in _ (by omega)
    replace hb := hb.drew
    go_region_held3 (fun w' => w'.cell? ⟨q, 0, none⟩ = some (.int .i64 a) ∧ w'.cell? ⟨g', i * 11 + 10, none⟩ = some (.slice A3 n3 c3) ∧ w'.cell? ⟨y, 9, none⟩ = some (.int .i64 x.day)) (first | exact ⟨HA.out _ hb, HC10.out _ hb, HDAY.out _ hb⟩ | go_keep) (first | (go_at_call 100; refine (HAD.out _ (HF.out.bel hb) hn1).mono ?_; rintro e w5 ⟨v, xs, rfl, hO, hb5⟩; replace hb := hb.trans (hb5.mono hb.size)))
    go_wp2_with fail
    go_meet
    exact ⟨rfl, ⟨_, hO⟩, ((Below.refl _ W2).drew).trans hb5⟩
  obtain ⟨rfl, ⟨xs, hO⟩, hb3⟩ := hcut
  obtain ⟨W3, hW3⟩ : ∃ V, V = wc := ⟨_, rfl⟩
  subst hW3
  have hsz := hb.size
  replace hb := hb.trans (hb3.mono hb.size)
  clear hb3 HAD
  have HO := Lib.hid hO
  clear hO
  by_cases q5 : R = 0
  rotate_left
  · have q6 : (R == 0) = false := by simpa using q5
    have Q5 := Lib.hid q5
    clear q5
    go_wp2_with fail
    go_ret
    exact ⟨rfl, fun h => absurd h Q5.out, Kept.of_below hb (fun k hk h => by omega)⟩
  have hO2 := HO.out
  rw [q5, okL_zero] at hO2
  subst q5
  obtain ⟨A5, n5, c5, hv5, _⟩ := hO2.sl entryC_good
  rw [hv5] at hO2
  subst hv5
  have f10 : W3.frozen? ⟨g', i * 11 + 10, none⟩ = false := frozenB hb hgl HFRZ.out
  have c10 := HC10.out _ hb
  have HB := Lib.hid hb
  have HO2 := Lib.hid hO2
  clear hb hO2 HO
  go_wp2_with fail
  go_ret
  have hK : Kept (fun k => k = g') W3 (W3.setCell ⟨g', i * 11 + 10, none⟩ (.slice A5 n5 c5)) := kset W3 g' [(i * 11 + 10, .slice A5 n5 c5)]
  have hne : ∀ k, (Value.slice A5 n5 c5).ownBlock = some k → W2.heap.size ≤ k ∧ k ≠ g' := fun k hk => by have := HO2.out.lt k hk; exact ⟨this.1, by omega⟩
  have hsz0 : w0.heap.size ≤ W2.heap.size := by obtain ⟨_, _, a3, _⟩ := HW.out; omega
  have hW6 := (HW.out.bel HB.out).put HC.out HBX.out (j := 10) (by omega) (u := .slice A5 n5 c5) (fun cs h => bkgO_fol (f := L) h ⟨xs, (HO2.out.keepB entryC_flat2 (fun k hk => hK.block k (HO2.out.lt k hk).2 (hne k hk).2)).mono entryC_good (Nat.zero_le _), fun k hk => ⟨by have := (hne k hk).1; omega, fun e => (hne k hk).2 (by injection e)⟩⟩)
  exact ⟨rfl, fun _ => hW6, (Kept.of_below HB.out (fun k hk h => by omega)).trans hK⟩
set_option maxRecDepth 100000 in
set_option maxHeartbeats 8000000 in
theorem goneDo_any (x : Sai) (i : Nat) (b : Bkg) (hb : x.bks[i]? = some b) (h16 : x.bks.length ≤ 16) (hfo : checkFolio b.fol = 0) (hday : betB x.day 0 9999 = true) (hlv : betB x.leaves 0 9999 = true) (hfe : fareE x.fares x.ship.cats.length x.ship.legs = 0) :
    DoOk 101 #[] (fun _ => True) x i (goneE x b x.day) (setS x i (goneB x b x.day)) := by
  intro w0 b0 y g p base w _ hW hY hC
  show Calls Tryz.prog 101 #[.pointer (some ⟨y, 0, none⟩)] w _
  have HLV := Lib.hid (fun X (hX : Below w.heap.size w X) => Leave_any w0 b0 x p i g y b x.day base X (hW.bel hX) hC (fun j u hu => (hY.bel hX).cell (chg_sai hu)) hb hfe hlv h16 hfo (betB_iff.1 hday))
  obtain ⟨E, hE⟩ : ∃ r, r = goneE x b x.day := ⟨_, rfl⟩
  have HOK := Lib.hid (show E = 0 → goneS x i b x.day = setS x i (goneB x b x.day) from fun h => goneS_ok (hE.symm.trans h))
  obtain ⟨GS, hGS⟩ : ∃ r, r = goneS x i b x.day := ⟨_, rfl⟩
  rw [← hE, ← hGS] at HLV
  rw [← hGS] at HOK
  rw [← hE]
  have c9 : w.cell? ⟨y, 9, none⟩ = some (.int .i64 x.day) := hY.cell rfl
  have c13 : w.cell? ⟨y, 13, none⟩ = some (.int .i64 (i : Int)) := hY.cell rfl
  have HCEL := Lib.hid (show ∀ X, Below w.heap.size w X → X.cell? ⟨y, 9, none⟩ = some (.int .i64 x.day) ∧ X.cell? ⟨y, 13, none⟩ = some (.int .i64 (i : Int)) from fun X hX => ⟨cellB hX c9, cellB hX c13⟩)
  have hgy : ¬ y = g := fun h => hW.neB hC hY (by decide) h.symm
  clear hE hGS hW hY hC hb h16 hfo hday hlv hfe
  have hb : Below w.heap.size w w := Below.refl _ _
  go_enter Tryz.func101, Tryz.ntmps101
  go_upto_region 1 with (fail)
  replace hb := hb.drew
  go_region_held3 (fun w' => w'.cell? ⟨y, 9, none⟩ = some (.int .i64 x.day) ∧ w'.cell? ⟨y, 13, none⟩ = some (.int .i64 (i : Int))) (first | exact hS5 | exact HCEL.out _ hb | go_keep) (first | (go_at_call 102; refine (HLV.out _ hb).mono ?_; rintro e w5 ⟨rfl, hW5, hK5⟩; have hS5 := And.intro (cellK hK5 hgy (HCEL.out _ hb).1) (cellK hK5 hgy (HCEL.out _ hb).2); replace hW5 := Lib.hid hW5))
  go_wp2_with fail
  go_ret
  exact ⟨rfl, fun h => by rw [← HOK.out h]; exact hW5.out, (Kept.of_below hb (fun k hk h => by omega)).trans hK5⟩
set_option maxRecDepth 100000 in
set_option maxHeartbeats 16000000 in
theorem moveDo_any (x : Sai) (i : Nat) (b : Bkg) (c : Int) (q : Nat) (hc : InI c) (hb : x.bks[i]? = some b) (ho : OkSai x) : DoOk 103 #[.pointer (some ⟨q, 0, none⟩)] (AmtK q c) x i (moveE x i b c) (setS x i (moveB b c)) := by
  intro w0 b0 y g p base w hQ hW hY hC
  show Calls Tryz.prog 103 #[.pointer (some ⟨y, 0, none⟩), .pointer (some ⟨q, 0, none⟩)] w _
  obtain ⟨g', A3, n3, c3, hC', hg0, hgl, hcel, hfr, hF, hI, hnb⟩ := hW.at hb
  obtain rfl : g' = g := by rw [hC'] at hC; injection hC with h; injection h
  have hil := (List.getElem?_eq_some_iff.1 hb).1
  have h16 := ho.bs.len
  have HIT := Lib.hid (it_any x p i y g' w hY hC' (by omega) (by omega))
  have hgy : ¬ y = g' := fun h => hW.neB hC' hY (by decide) h.symm
  obtain ⟨R, hR⟩ : ∃ r, r = moveE x i b c := ⟨_, rfl⟩
  obtain ⟨nbk, hnbk⟩ : ∃ r, r = moveB b c := ⟨_, rfl⟩
  obtain ⟨oe, hoe⟩ : ∃ r, r = ofE x.ship nbk := ⟨_, rfl⟩
  obtain ⟨X, hX⟩ : ∃ r, r = setS x i nbk := ⟨_, rfl⟩
  obtain ⟨rm, hrm⟩ : ∃ r, r = roomE X := ⟨_, rfl⟩
  have hM : x.ship.cabs.length = p.m := hW.sai.cabs.len
  have HR := Lib.hid (show R = if b.cab < 0 then 4 else if c < 0 ∨ (p.m : Int) ≤ c then 3 else if c = b.cab then 6 else if oe ≠ 0 then oe else rm by rw [hR, hrm, hX, hoe, hnbk, ← hM]; rfl)
  have HRM := Lib.hid (fun W (h : SaiR W X p) (h0 : oe = 0) => Room_any X p W h (by rw [hX]; exact ho.bs.ship) (fun d hd => by
    rw [hX] at hd
    rcases List.mem_or_eq_of_mem_set hd with h1 | h1
    · rw [hX]; exact ho.bs.bk d h1
    · subst h1; rw [hX]; exact bk_ok (hoe.symm.trans h0)) (by rw [hX]; show (x.bks.set i nbk).length ≤ 16; rw [List.length_set]; exact h16))
  have HOF := Lib.hid (fun A4 n4 c4 W hcc hbb hF => bookOf_any x.ship p.A p.n p.cap p.B p.m p.cap2 nbk A4 n4 c4 W hcc hbb ho.bs.ship hF)
  have HPUT := Lib.hid (fun W (hX2 : Below w.heap.size w W) => show SaiW w0 b0 (W.setCell ⟨g', i * 11 + 5, none⟩ (.int .i64 c)) base X p from by
    rw [hX, hnbk]; exact (hW.bel hX2).put hC' hb (j := 5) (by omega) (u := .int .i64 c) (fun cs h => bkgO_cab h hc))
  rw [← hrm] at HRM
  rw [← hoe] at HOF
  rw [← hR, ← hnbk, ← hX]
  have HXB := Lib.hid (show X.bks[i]? = some nbk by rw [hX]; exact set_get hb)
  have HXS := Lib.hid (show X.ship = x.ship by rw [hX]; rfl)
  have HXA := Lib.hid (show saiA X p = saiA x p by rw [hX]; rfl)
  have HC := Lib.hid hC'
  obtain ⟨cb, hcb⟩ : ∃ r, r = b.cab := ⟨_, rfl⟩
  have HC5 := Lib.hid (show ∀ X, Below w.heap.size w X → X.cell? ⟨g', i * 11 + 5, none⟩ = some (.int .i64 cb) from fun X hX => by rw [hcb]; exact cellB hX (hcel 5 _ rfl))
  have HFRZ := Lib.hid (hfr (i * 11 + 5))
  have HA := Lib.hid (show ∀ X, Below w.heap.size w X → X.cell? ⟨q, 0, none⟩ = some (.int .i64 c) from fun X hX => (AmtK.bel hQ hX).cell rfl)
  have HYY := Lib.hid (show ∀ X, Below w.heap.size w X → Blk X y (chgA x p i) 149 from fun X hX => hY.bel hX)
  rw [← hcb] at HR
  have hpm0 : (0 : Int) ≤ (p.m : Int) := Int.natCast_nonneg _
  have hpm1 := hW.sai.cabs.bd
  clear hR hrm hX hoe hnbk hM hW hY hC hC' hb hcel hfr hF hI hnb hil hQ h16 ho hcb
  have hb : Below w.heap.size w w := Below.refl _ _
  go_enter Tryz.func103, Tryz.ntmps103
  go_wp2_with fail
  refine HIT.out.mono ?_
  rintro e w1 ⟨rfl, hb1⟩
  replace hb := hb.trans (hb1.mono hb.size)
  clear hb1 HIT
  have c5 := HC5.out _ hb
  by_cases q1 : cb < 0
  · obtain rfl : R = 4 := by rw [HR.out, if_pos q1]
    have q2 : decide (cb < 0) = true := decide_eq_true q1
    go_wp2_with fail
    go_ret
    exact ⟨rfl, fun h => absurd h (by decide), Kept.of_below hb (fun k hk h => by omega)⟩
  have HR1 := Lib.hid (HR.out.trans (if_neg q1))
  have q2 : decide (cb < 0) = false := decide_eq_false q1
  clear q1
  obtain ⟨W1, hW1⟩ : ∃ V, V = w1 := ⟨_, rfl⟩
  subst hW1
  go_upto_region 4 with (fail)
  have a0 := HA.out _ hb
  have y3 : W1.cell? ⟨y, 3, none⟩ = some (.slice p.B p.m p.cap2) := (HYY.out _ hb).cell rfl
  obtain ⟨tv, htv⟩ : ∃ q, q = decide (c < 0 ∨ (p.m : Int) ≤ c) := ⟨_, rfl⟩
  have HTV := Lib.hid htv
  clear htv
  go_cut [14] (fun v wx => v = .bool tv ∧ Below w.heap.size w wx)
  case first =>
    by_cases q3 : c < 0
    · have q4 : decide (c < 0) = true := decide_eq_true q3
      go_quiet (fail)
      go_wp2_with fail
      go_meet
      exact ⟨by rw [HTV.out, decide_eq_true (show c < 0 ∨ (p.m : Int) ≤ c from .inl q3)], below_drewN hb _⟩
    · have q4 : decide (c < 0) = false := decide_eq_false q3
      by_cases q5 : (p.m : Int) ≤ c
      · have q6 : decide ((p.m : Int) ≤ c) = true := decide_eq_true q5
        go_quiet (fail)
        go_wp2_with fail
        go_meet
        exact ⟨by rw [HTV.out, decide_eq_true (show c < 0 ∨ (p.m : Int) ≤ c from .inr q5)], below_drewN hb _⟩
      · have q6 : decide ((p.m : Int) ≤ c) = false := decide_eq_false q5
        go_quiet (fail)
        go_wp2_with fail
        go_meet
        exact ⟨by rw [HTV.out, decide_eq_false (show ¬ (c < 0 ∨ (p.m : Int) ≤ c) by omega)], below_drewN hb _⟩
  obtain ⟨rfl, hb2⟩ := hcut
  replace hb := hb2
  clear hb2 a0 y3 c5
  cases tv
  rotate_left
  · obtain rfl : R = 3 := by rw [HR1.out, if_pos (of_decide_eq_true HTV.out.symm)]
    go_wp2_with fail
    go_ret
    exact ⟨rfl, fun h => absurd h (by decide), Kept.of_below hb (fun k hk h => by omega)⟩
  have HR2 := Lib.hid (HR1.out.trans (if_neg (of_decide_eq_false HTV.out.symm)))
  obtain ⟨W2, hW2⟩ : ∃ V, V = wc := ⟨_, rfl⟩
  subst hW2
  have c5 := HC5.out _ hb
  have a0 := HA.out _ hb
  go_upto_region 6 with (fail)
  obtain ⟨tv2, htv2⟩ : ∃ q, q = decide (c = cb) := ⟨_, rfl⟩
  have HTV2 := Lib.hid htv2
  clear htv2
  go_cut [28] (fun v wx => v = .bool tv2 ∧ Below w.heap.size w wx)
  case first =>
    go_quiet (fail)
    go_wp2_with fail
    go_meet
    exact ⟨by rw [HTV2.out]; congr 1, below_drewN hb _⟩
  obtain ⟨rfl, hb2⟩ := hcut
  replace hb := hb2
  clear hb2 a0 c5
  cases tv2
  rotate_left
  · obtain rfl : R = 6 := by rw [HR2.out, if_pos (of_decide_eq_true HTV2.out.symm)]
    go_wp2_with fail
    go_ret
    exact ⟨rfl, fun h => absurd h (by decide), Kept.of_below hb (fun k hk h => by omega)⟩
  have HR3 := Lib.hid (HR2.out.trans (if_neg (of_decide_eq_false HTV2.out.symm)))
  obtain ⟨W3, hW3⟩ : ∃ V, V = wc := ⟨_, rfl⟩
  subst hW3
  have c5 := HC5.out _ hb
  have a0 := HA.out _ hb
  have f5 : W3.frozen? ⟨g', i * 11 + 5, none⟩ = false := frozenB hb hgl HFRZ.out
  go_upto_region 8 with (fail)
  go_cut [] (fun wx => SaiW w0 b0 wx base X p ∧ Kept (fun k => k = g') w wx)
  case first =>
    go_wp2_with fail
    go_meet
    exact ⟨HPUT.out _ hb, (Kept.of_below hb (fun k hk h => by omega)).trans (kset W3 g' [(i * 11 + 5, .int .i64 c)])⟩
  obtain ⟨hW4, hK4⟩ := hcut
  obtain ⟨W4, hW4'⟩ : ∃ V, V = wc := ⟨_, rfl⟩
  subst hW4'
  have hY4 := (HYY.out w (Below.refl _ _)).kept hK4 hgy
  obtain ⟨g9, A4, n4, c4, hC9, _, _, hcel, _, hF4, _, _⟩ := hW4.at HXB.out
  obtain rfl : g' = g9 := by have := HC.out; rw [this] at hC9; injection hC9 with h; injection h
  have hsai4 := hW4.sai
  have HOF4 := Lib.hid (fun W (hX : Below W4.heap.size W4 W) => HOF.out A4 n4 c4 W (by have := hsai4.cats.bel hX; rwa [HXS.out] at this) (by have := hsai4.cabs.bel hX; rwa [HXS.out] at this) (hF4.bel hX))
  have HRM4 := Lib.hid (fun W (hX : Below W4.heap.size W4 W) => HRM.out W (hsai4.bel hX))
  have HW4 := Lib.hid hW4
  have hrg := chg_rng hY4
  rw [← HXA.out] at hrg
  have HRG := Lib.hid (show ∀ W, Below W4.heap.size W4 W → W.rangeAt y 0 (saiA X p).toList from fun W hX j u hu => cellB hX (hrg j u hu))
  have HS4 := Lib.hid (show ∀ W, Below W4.heap.size W4 W → (fun w' => w'.cell? ⟨y, 0, none⟩ = some (.int .i64 x.ship.legs) ∧ w'.cell? ⟨y, 1, none⟩ = some (.int .i64 x.ship.souls) ∧ w'.cell? ⟨y, 2, none⟩ = some (.slice p.A p.n p.cap) ∧ w'.cell? ⟨y, 3, none⟩ = some (.slice p.B p.m p.cap2) ∧ w'.cell? ⟨g', i * 11, none⟩ = some (.int .i64 nbk.id) ∧ w'.cell? ⟨g', i * 11 + 1, none⟩ = some (.int .i64 nbk.kind) ∧ w'.cell? ⟨g', i * 11 + 2, none⟩ = some (.int .i64 nbk.state) ∧ w'.cell? ⟨g', i * 11 + 3, none⟩ = some (.int .i64 nbk.gst) ∧ w'.cell? ⟨g', i * 11 + 4, none⟩ = some (.bool nbk.lev) ∧ w'.cell? ⟨g', i * 11 + 5, none⟩ = some (.int .i64 nbk.cab) ∧ w'.cell? ⟨g', i * 11 + 6, none⟩ = some (.int .i64 nbk.cat) ∧ w'.cell? ⟨g', i * 11 + 7, none⟩ = some (.int .i64 nbk.frm) ∧ w'.cell? ⟨g', i * 11 + 8, none⟩ = some (.int .i64 nbk.upto) ∧ w'.cell? ⟨g', i * 11 + 9, none⟩ = some (.int .i64 nbk.til) ∧ w'.cell? ⟨g', i * 11 + 10, none⟩ = some (.slice A4 n4 c4)) W from fun W hX => ⟨cellB hX (hY4.cell rfl), cellB hX (hY4.cell rfl), cellB hX (hY4.cell rfl), cellB hX (hY4.cell rfl), cellB hX (hcel 0 _ rfl), cellB hX (hcel 1 _ rfl), cellB hX (hcel 2 _ rfl), cellB hX (hcel 3 _ rfl), cellB hX (hcel 4 _ rfl), cellB hX (hcel 5 _ rfl), cellB hX (hcel 6 _ rfl), cellB hX (hcel 7 _ rfl), cellB hX (hcel 8 _ rfl), cellB hX (hcel 9 _ rfl), cellB hX (hcel 10 _ rfl)⟩)
  have HK4 := Lib.hid hK4
  clear hK4
  clear hY4 hC9 hcel hF4 hsai4 hrg HPUT HOF HRM HC5 HA HYY HFRZ hW4 a0 f5 c5 hb
  have hb : Below W4.heap.size W4 W4 := Below.refl _ _
  go_upto_region 9 with (fail)
  go_cut [5] (fun v wx => v = .int .i64 oe ∧ Below W4.heap.size W4 wx)
  case first =>
    replace hb := hb.drew
    go_region_held3 (fun w' => w'.cell? ⟨y, 0, none⟩ = some (.int .i64 x.ship.legs) ∧ w'.cell? ⟨y, 1, none⟩ = some (.int .i64 x.ship.souls) ∧ w'.cell? ⟨y, 2, none⟩ = some (.slice p.A p.n p.cap) ∧ w'.cell? ⟨y, 3, none⟩ = some (.slice p.B p.m p.cap2) ∧ w'.cell? ⟨g', i * 11, none⟩ = some (.int .i64 nbk.id) ∧ w'.cell? ⟨g', i * 11 + 1, none⟩ = some (.int .i64 nbk.kind) ∧ w'.cell? ⟨g', i * 11 + 2, none⟩ = some (.int .i64 nbk.state) ∧ w'.cell? ⟨g', i * 11 + 3, none⟩ = some (.int .i64 nbk.gst) ∧ w'.cell? ⟨g', i * 11 + 4, none⟩ = some (.bool nbk.lev) ∧ w'.cell? ⟨g', i * 11 + 5, none⟩ = some (.int .i64 nbk.cab) ∧ w'.cell? ⟨g', i * 11 + 6, none⟩ = some (.int .i64 nbk.cat) ∧ w'.cell? ⟨g', i * 11 + 7, none⟩ = some (.int .i64 nbk.frm) ∧ w'.cell? ⟨g', i * 11 + 8, none⟩ = some (.int .i64 nbk.upto) ∧ w'.cell? ⟨g', i * 11 + 9, none⟩ = some (.int .i64 nbk.til) ∧ w'.cell? ⟨g', i * 11 + 10, none⟩ = some (.slice A4 n4 c4)) (first | exact HS4.out _ hb | go_keep) (first | (go_at_call 104; refine (HOF4.out _ hb).mono ?_; rintro e w5 ⟨rfl, hb5⟩; replace hb := hb.trans (hb5.mono hb.size); clear hb5))
    go_wp2_with fail
    go_meet
    exact ⟨rfl, hb⟩
  obtain ⟨rfl, hb2⟩ := hcut
  replace hb := hb2
  clear hb2
  by_cases q5 : oe = 0
  rotate_left
  · obtain rfl : R = oe := by rw [HR3.out, if_pos q5]
    have q6 : (R != 0) = true := by simpa using q5
    clear q5
    go_wp2_with fail
    go_ret
    exact ⟨rfl, fun h => HW4.out.bel hb, HK4.out.trans (Kept.of_below hb (fun k hk h => by omega))⟩
  obtain rfl : R = rm := by rw [HR3.out, if_neg (by rw [q5]; simp)]
  have HC := Lib.hid (HRM4.out _ hb q5)
  have HR4 := Lib.hid (HRG.out _ hb)
  subst q5
  go_wp2_with (refine wpList_load_mid rfl 32 (.tmp 53) rfl y 0 rfl _ _ HR4.out Tryz.underlying32 rfl (by kernel_rfl) ?_)
  refine HC.out.mono ?_
  rintro e w5 ⟨rfl, hb5⟩
  replace hb := hb.trans (hb5.mono hb.size)
  go_wp2_with fail
  go_ret
  exact ⟨rfl, fun h => HW4.out.bel hb, HK4.out.trans (Kept.of_below hb (fun k hk h => by omega))⟩
end Go.Proofs.YtoilcdgpeilgaaaGreat
namespace Go.Proofs.YtoilcdgpeilgaaaGreat
open Go.RowKit Go.Shelf
theorem ch_zero {x : Sai} {t : Int} (h : chE x t 0 = 0) : saiE x = 0 ∧ isLive x t = true ∧ ∀ E, chE x t E = E := by
  unfold chE at h
  by_cases h1 : saiE x ≠ 0
  · rw [if_pos h1] at h; exact absurd h h1
  · rw [if_neg h1] at h
    unfold chE1 at h
    by_cases h2 : isLive x t = true
    · exact ⟨Decidable.not_not.1 h1, h2, fun E => by unfold chE; rw [if_neg h1]; unfold chE1; rw [if_pos h2]⟩
    · rw [if_neg h2] at h; omega
theorem ch_ne {x : Sai} {t E : Int} (h : ¬ chE x t 0 = 0) : chE x t E = chE x t 0 := by
  unfold chE chE1 at h ⊢
  by_cases h1 : saiE x ≠ 0
  · rw [if_pos h1, if_pos h1]
  · rw [if_neg h1] at h ⊢
    rw [if_neg h1]
    by_cases h2 : isLive x t = true
    · rw [if_pos h2] at h; exact absurd rfl h
    · rw [if_neg h2, if_neg h2]
set_option maxRecDepth 100000 in
set_option maxHeartbeats 8000000 in
theorem change_any (f : Nat) (lb : Array Value) (K : World → Prop) (x : Sai) (p : SaiV) (t E0 : Int) (X : Sai) (w : World) (hS : SaiR w x p) (ht : InI t) (eg : ∀ args w, (callFunc f args).run Tryz.prog w = .ok (.enter f args) w)
    (hK : K w) (hKb : ∀ V V', K V → Below V.heap.size V V' → K V') (hdo : OkSai x → isLive x t = true → DoOk f lb K x (posI x.bks t) E0 X) (hXA : ∀ p, saiA X p = saiA x p) :
    Calls Tryz.prog 95 #[.agg (saiA x p), .int .i64 t, .func (.func f) #[] lb] w fun e w' => ResS w' w.heap.size (chE x t E0) X e ∧ Below w.heap.size w w' := by
  have HFI := Lib.hid (fun X hX => cfind_any x p t X hX ht)
  obtain ⟨r, hr⟩ : ∃ r, r = chE x t 0 := ⟨_, rfl⟩
  obtain ⟨R, hR⟩ : ∃ r, r = chE x t E0 := ⟨_, rfl⟩
  have HR0 := Lib.hid (show r = 0 → R = E0 from fun h => by rw [hR]; exact (ch_zero (hr.symm.trans h)).2.2 E0)
  have HR1 := Lib.hid (show ¬ r = 0 → R = r from fun h => by rw [hR, hr]; exact ch_ne (fun h2 => h (hr.trans h2)))
  have HDO := Lib.hid (show r = 0 → DoOk f lb K x (posI x.bks t) E0 X ∧ OkSai x ∧ ∃ b, x.bks[posI x.bks t]? = some b from fun h => by
    obtain ⟨h1, h2, _⟩ := ch_zero (hr.symm.trans h)
    obtain ⟨b, hb, _⟩ := live_at (rise_of (sai_ok h1).bs.rise) h2
    exact ⟨hdo (sai_ok h1) h2, sai_ok h1, b, hb⟩)
  rw [← hr] at HFI
  rw [← hR]
  have HS := Lib.hid hS
  have HK := Lib.hid hK
  have HXA := Lib.hid hXA
  have HKB := Lib.hid hKb
  clear hr hR hS hK hKb hdo ht hXA
  obtain ⟨A, n, cap, B, m, cap2, D, nd, cd, E, ne, ce, C, nb, cb⟩ := p
  go_enter Tryz.func95, Tryz.ntmps95
  go_upto_region 0 with (fail)
  go_cut [3, 6, 7] (fun p p2 p3 wx => ∃ g z, p = .pointer (some ⟨g, 0, none⟩) ∧ p2 = .pointer (some ⟨z, 0, none⟩) ∧ p3 = .int .i64 0 ∧ w.heap.size ≤ z ∧ Blk wx g (saiA x ⟨A, n, cap, B, m, cap2, D, nd, cd, E, ne, ce, C, nb, cb⟩) 32 ∧ Blk wx z #[.int .i64 0, .int .i64 0, .slice none 0 0, .slice none 0 0, .slice none 0 0, .int .i64 0, .int .i64 0, .slice none 0 0, .int .i64 0, .int .i64 0, .int .i64 0, .slice none 0 0, .bool false] 32 ∧ Below w.heap.size w wx)
  case first => as_aux_lemma =>
    go_wp2_with fail
    go_meet
    exact ⟨_, _, rfl, rfl, rfl, by omega, blk2_0 _ _ _, blk2_1 _ _ _, bel2 _ _ _⟩
  obtain ⟨g, z, rfl, rfl, rfl, hz, hG, hZ, hb0⟩ := hcut
  obtain ⟨W1, hW1⟩ : ∃ V, V = wc := ⟨_, rfl⟩
  subst hW1
  have HT := Lib.hid (fun X (hX : Below W1.heap.size W1 X) => hb0.trans (hX.mono hb0.size))
  have HG := Lib.hid (fun X (hX : Below W1.heap.size W1 X) => hG.bel hX)
  have HZ := Lib.hid (fun X (hX : Below W1.heap.size W1 X) => hZ.bel hX)
  have hzW : z < W1.heap.size := hZ.lt
  have HSX := Lib.hid (fun X (hX : Below W1.heap.size W1 X) => HS.out.bel (HT.out X hX))
  have HEND := Lib.hid (show ∀ (E' : Int) V, ¬ E' = 0 → Below W1.heap.size W1 V → ResS (V.setRow z (saiA zeroS zeroP)) w.heap.size E' X (.returned (.tuple #[.agg (saiA zeroS zeroP), .int .i64 E'])) ∧ Below w.heap.size w (V.setRow z (saiA zeroS zeroP)) from fun E' V h0 hX => by
    have hbz : Below w.heap.size w (V.setRow z (saiA zeroS zeroP)) := ((HT.out V hX).trans (((Kept.refl (fun k => k = z) V).setRow (.inl rfl) _).below (B := w.heap.size) (HT.out V hX).size (fun k hk e => by omega)))
    exact ⟨⟨zeroS, zeroP, rfl, (okS_ne h0 _).symm, zeroS_own _ _ hbz.size⟩, hbz⟩)
  have hb : Below W1.heap.size W1 W1 := Below.refl _ _
  have hszW := hb0.size
  have HKW := Lib.hid (fun X (hX : Below W1.heap.size W1 X) => HKB.out _ _ HK.out (show Below w.heap.size w X from HT.out X hX))
  clear hG hZ hb0
  have HC := Lib.hid (HFI.out _ (HSX.out _ hb))
  go_wp2_with (refine wpList_load_row rfl 32 (.tmp 3) rfl g rfl 32 _ (0, 0) _ (HG.out _ hb) Tryz.underlying32 rfl (by kernel_rfl) ?_)
  refine HC.out.mono ?_
  rintro e w1 ⟨v, rfl, hch, hb1⟩
  have HCH := Lib.hid hch
  clear hch
  replace hb := hb.trans (hb1.mono hb.size)
  clear hb1 HC HFI
  by_cases q0 : r = 0
  rotate_left
  · obtain rfl : R = r := HR1.out q0
    have q1 : (R == 0) = false := by simpa using q0
    have q2 : (R != 0) = true := by simpa using q0
    have Q0 := Lib.hid q0
    have hz6 := HZ.out _ hb
    clear q0
    go_wp2_with (refine wpList_store_row rfl 32 (.tmp 6) (.tmp 23) rfl z (saiA zeroS zeroP) rfl rfl 32 _ hz6 (by kernel_rfl) rfl (by simp [Value.oneCell']) ?_)
    refine bodyPost_ret (v := .tuple #[.agg (saiA zeroS zeroP), .int .i64 R]) ((hz6.row _).ret2 (k := 6) (u := 7) (by kernel_rfl) rfl rfl Tryz.underlying32 (by kernel_rfl) (by kernel_rfl)) rfl ?_
    exact HEND.out _ _ Q0.out hb
  obtain ⟨hdo, hok, b, hbk⟩ := HDO.out q0
  obtain rfl : R = E0 := HR0.out q0
  obtain ⟨y, p3, w0, b0, rfl, hY, hW, hw0⟩ := HCH.out q0
  obtain ⟨g3, _, _, _, hC3, hg0, hgl, _⟩ := hW.at hbk
  have hgy : ¬ y = g3 := fun h => hW.neB hC3 hY (by decide) h.symm
  have hcall := Lib.hid (hdo w0 b0 y g3 p3 _ w1 (HKW.out _ hb) hW hY hC3)
  have hsz1 := hb.size
  have hszw0 : W1.heap.size ≤ w0.heap.size := by obtain ⟨a1, a2, _⟩ := hW; omega
  have hgz : ¬ z = g3 := by omega
  have HY := Lib.hid hY
  have hZ1 := HZ.out _ hb
  clear hdo hok hbk hW hC3 HCH HDO hY
  subst q0
  go_wp2_with fail
  refine hcall.out.mono ?_
  rintro e w2 ⟨rfl, hok2, hK2⟩
  have HOK2 := Lib.hid hok2
  clear hok2
  have hZ2 := hZ1.kept hK2 hgz
  have hY2 := HY.out.kept hK2 hgy
  have hb2 : Below W1.heap.size W1 w2 := hb.trans (hK2.below (B := W1.heap.size) hsz1 (fun k hk e => by omega))
  clear hb hZ1 HY hcall
  have hb := hb2
  by_cases q5 : R = 0
  rotate_left
  · have q6 : (R != 0) = true := by simpa using q5
    have Q5 := Lib.hid q5
    have hz6 := hZ2
    clear q5
    go_wp2_with (refine wpList_store_row rfl 32 (.tmp 6) (.tmp 23) rfl z (saiA zeroS zeroP) rfl rfl 32 _ hz6 (by kernel_rfl) rfl (by simp [Value.oneCell']) ?_)
    refine bodyPost_ret (v := .tuple #[.agg (saiA zeroS zeroP), .int .i64 R]) ((hz6.row _).ret2 (k := 6) (u := 7) (by kernel_rfl) rfl rfl Tryz.underlying32 (by kernel_rfl) (by kernel_rfl)) rfl ?_
    exact HEND.out _ _ Q5.out hb
  have hW9 := HOK2.out q5
  have hrg := chg_rng hY2
  have HW9 := Lib.hid hW9
  clear hW9
  subst q5
  have HRG := Lib.hid hrg
  clear hrg
  go_wp2_with (first | (refine wpList_load_mid rfl 32 (.tmp 27) rfl y 0 rfl _ _ HRG.out Tryz.underlying32 rfl (by kernel_rfl) ?_) | (refine wpList_store_row rfl 32 (.tmp 6) (.tmp 28) rfl z (saiA x p3) rfl rfl 32 _ hZ2 (by kernel_rfl) rfl (by simp [Value.oneCell']) ?_))
  refine bodyPost_ret (v := .tuple #[.agg (saiA x p3), .int .i64 0]) ((hZ2.row _).ret2 (k := 6) (u := 7) (by kernel_rfl) rfl rfl Tryz.underlying32 (by kernel_rfl) (by kernel_rfl)) rfl ?_
  have hKz : Kept (fun k => k = z) w2 (w2.setRow z (saiA x p3)) := (Kept.refl (fun k => k = z) w2).setRow (.inl rfl) _
  have hbz := ((HT.out _ hb).trans (hKz.below (B := w.heap.size) (HT.out _ hb).size (fun k hk e => by omega)))
  have hO9 : SaiO w2 W1.heap.size X p3 := ⟨w0, b0, HW9.out⟩
  exact ⟨⟨X, p3, by rw [HXA.out], (okS_zero _).symm, (hO9.kept hKz (fun k hk e => by omega)).mono (by omega)⟩, hbz⟩
set_option maxRecDepth 100000 in
set_option maxHeartbeats 4000000 in
theorem Sure_any (x : Sai) (p : SaiV) (t : Int) (w : World) (hS : SaiR w x p) (ht : InI t) :
    Calls Tryz.prog 28 #[.agg (saiA x p), .int .i64 t] w fun e w' => ResS w' w.heap.size (sureEx x t) (sureX x t) e ∧ Below w.heap.size w w' := by
  have HC0 := Lib.hid (fun V hX => change_any 96 #[] (fun _ => True) x p t (sureE (curB x t)) (sureX x t) V hX ht (enters_of Tryz.func96 (by kernel_rfl) rfl) trivial (fun _ _ _ _ => trivial) (fun ho hl => by
    obtain ⟨b, h1, _, _, _, _, he⟩ := live_at (rise_of ho.bs.rise) hl
    unfold sureX
    rw [he]
    exact sureDo_any x _ b h1 ho.bs.len) (fun _ => rfl))
  obtain ⟨A, n, cap, B, m, cap2, D, nd, cd, E, ne, ce, C, nb, cb⟩ := p
  go_enter Tryz.func28, Tryz.ntmps28
  go_upto_region 0 with (fail)
  go_cut [2, 4, 5] (fun p p2 p3 wx => ∃ g z, p = .pointer (some ⟨g, 0, none⟩) ∧ p2 = .pointer (some ⟨z, 0, none⟩) ∧ p3 = .int .i64 0 ∧ w.heap.size ≤ z ∧ Blk wx g (saiA x ⟨A, n, cap, B, m, cap2, D, nd, cd, E, ne, ce, C, nb, cb⟩) 32 ∧ Blk wx z #[.int .i64 0, .int .i64 0, .slice none 0 0, .slice none 0 0, .slice none 0 0, .int .i64 0, .int .i64 0, .slice none 0 0, .int .i64 0, .int .i64 0, .int .i64 0, .slice none 0 0, .bool false] 32 ∧ Below w.heap.size w wx)
  case first => as_aux_lemma =>
    go_wp2_with fail
    go_meet
    exact ⟨_, _, rfl, rfl, rfl, by omega, blk2_0 _ _ _, blk2_1 _ _ _, bel2 _ _ _⟩
  obtain ⟨g, z, rfl, rfl, rfl, hz, hG, hZ, hb⟩ := hcut
  have HC := Lib.hid (HC0.out _ (hS.bel hb))
  go_wp2_with (refine wpList_load_row rfl 32 (.tmp 2) rfl g rfl 32 _ (0, 0) _ hG Tryz.underlying32 rfl (by kernel_rfl) ?_)
  refine HC.out.mono ?_
  rintro e w2 ⟨⟨y, p', rfl, hy, hO⟩, hb2⟩
  have hZ2 := hZ.bel hb2
  have hzl := hZ.lt
  have hsz := hb.size
  replace hb := hb.trans (hb2.mono hb.size)
  have HZ2 := Lib.hid hZ2
  have HO := Lib.hid hO
  clear hO
  have HY := Lib.hid hy
  clear hy
  clear hG hZ hb2 HC
  go_wp2_with (refine wpList_store_row rfl 32 (.tmp 4) (.tmp 9) rfl z (saiA y p') rfl rfl 32 _ HZ2.out (by kernel_rfl) rfl (by simp [Value.oneCell']) ?_)
  refine bodyPost_ret (v := .tuple #[.agg (saiA y p'), .int .i64 _]) ((HZ2.out.row _).ret2 (k := 4) (u := 5) (by kernel_rfl) rfl rfl Tryz.underlying32 (by kernel_rfl) (by kernel_rfl)) rfl ?_
  have hKz : Kept (fun k => k = z) w2 (w2.setRow z (saiA y p')) := (Kept.refl (fun k => k = z) w2).setRow (.inl rfl) _
  exact ⟨⟨y, p', rfl, HY.out, (HO.out.kept hKz (fun k hk e => by omega)).mono hsz⟩, hb.trans (hKz.below (B := w.heap.size) hb.size (fun k hk e => by omega))⟩
set_option maxRecDepth 100000 in
set_option maxHeartbeats 4000000 in
theorem CancelS_any (x : Sai) (p : SaiV) (t : Int) (w : World) (hS : SaiR w x p) (ht : InI t) :
    Calls Tryz.prog 30 #[.agg (saiA x p), .int .i64 t] w fun e w' => ResS w' w.heap.size (goneEx x t) (goneX x t) e ∧ Below w.heap.size w w' := by
  have HC0 := Lib.hid (fun V hX => change_any 101 #[] (fun _ => True) x p t (goneE x (curB x t) x.day) (goneX x t) V hX ht (enters_of Tryz.func101 (by kernel_rfl) rfl) trivial (fun _ _ _ _ => trivial) (fun ho hl => by
    obtain ⟨b, h1, _, _, _, _, he⟩ := live_at (rise_of ho.bs.rise) hl
    unfold goneX
    rw [he]
    exact goneDo_any x _ b h1 ho.bs.len (ho.bs.bk b (List.mem_of_getElem? h1)).fol ho.day ho.leaves ho.fares) (fun _ => rfl))
  obtain ⟨A, n, cap, B, m, cap2, D, nd, cd, E, ne, ce, C, nb, cb⟩ := p
  go_enter Tryz.func30, Tryz.ntmps30
  go_upto_region 0 with (fail)
  go_cut [2, 4, 5] (fun p p2 p3 wx => ∃ g z, p = .pointer (some ⟨g, 0, none⟩) ∧ p2 = .pointer (some ⟨z, 0, none⟩) ∧ p3 = .int .i64 0 ∧ w.heap.size ≤ z ∧ Blk wx g (saiA x ⟨A, n, cap, B, m, cap2, D, nd, cd, E, ne, ce, C, nb, cb⟩) 32 ∧ Blk wx z #[.int .i64 0, .int .i64 0, .slice none 0 0, .slice none 0 0, .slice none 0 0, .int .i64 0, .int .i64 0, .slice none 0 0, .int .i64 0, .int .i64 0, .int .i64 0, .slice none 0 0, .bool false] 32 ∧ Below w.heap.size w wx)
  case first => as_aux_lemma =>
    go_wp2_with fail
    go_meet
    exact ⟨_, _, rfl, rfl, rfl, by omega, blk2_0 _ _ _, blk2_1 _ _ _, bel2 _ _ _⟩
  obtain ⟨g, z, rfl, rfl, rfl, hz, hG, hZ, hb⟩ := hcut
  have HC := Lib.hid (HC0.out _ (hS.bel hb))
  go_wp2_with (refine wpList_load_row rfl 32 (.tmp 2) rfl g rfl 32 _ (0, 0) _ hG Tryz.underlying32 rfl (by kernel_rfl) ?_)
  refine HC.out.mono ?_
  rintro e w2 ⟨⟨y, p', rfl, hy, hO⟩, hb2⟩
  have hZ2 := hZ.bel hb2
  have hzl := hZ.lt
  have hsz := hb.size
  replace hb := hb.trans (hb2.mono hb.size)
  have HZ2 := Lib.hid hZ2
  have HO := Lib.hid hO
  clear hO
  have HY := Lib.hid hy
  clear hy
  clear hG hZ hb2 HC
  go_wp2_with (refine wpList_store_row rfl 32 (.tmp 4) (.tmp 9) rfl z (saiA y p') rfl rfl 32 _ HZ2.out (by kernel_rfl) rfl (by simp [Value.oneCell']) ?_)
  refine bodyPost_ret (v := .tuple #[.agg (saiA y p'), .int .i64 _]) ((HZ2.out.row _).ret2 (k := 4) (u := 5) (by kernel_rfl) rfl rfl Tryz.underlying32 (by kernel_rfl) (by kernel_rfl)) rfl ?_
  have hKz : Kept (fun k => k = z) w2 (w2.setRow z (saiA y p')) := (Kept.refl (fun k => k = z) w2).setRow (.inl rfl) _
  exact ⟨⟨y, p', rfl, HY.out, (HO.out.kept hKz (fun k hk e => by omega)).mono hsz⟩, hb.trans (hKz.below (B := w.heap.size) hb.size (fun k hk e => by omega))⟩
set_option maxRecDepth 100000 in
set_option maxHeartbeats 4000000 in
theorem Pay_any (x : Sai) (p : SaiV) (t a : Int) (w : World) (hS : SaiR w x p) (ht : InI t) (ha : InI a) :
    Calls Tryz.prog 29 #[.agg (saiA x p), .int .i64 t, .int .i64 a] w fun e w' => ResS w' w.heap.size (paidEx x t a) (paidX x t a) e ∧ Below w.heap.size w w' := by
  have HC0 := Lib.hid (fun q V hX hQ => change_any 98 #[.pointer (some ⟨q, 0, none⟩)] (AmtK q a) x p t (paidE x (curB x t) a) (paidX x t a) V hX ht (enters_of Tryz.func98 (by kernel_rfl) rfl) hQ (fun _ _ h hb => h.bel hb) (fun ho hl => by
    obtain ⟨b, h1, _, _, _, _, he⟩ := live_at (rise_of ho.bs.rise) hl
    unfold paidX
    rw [he]
    exact payDo_any x _ b a q ha h1 ho.bs.len (ho.bs.bk b (List.mem_of_getElem? h1)).fol ho.day) (fun _ => rfl))
  obtain ⟨A, n, cap, B, m, cap2, D, nd, cd, E, ne, ce, C, nb, cb⟩ := p
  go_enter Tryz.func29, Tryz.ntmps29
  go_upto_region 0 with (fail)
  go_cut [3, 5, 6, 7] (fun p pq p2 p3 wx => ∃ g q z, p = .pointer (some ⟨g, 0, none⟩) ∧ pq = .pointer (some ⟨q, 0, none⟩) ∧ p2 = .pointer (some ⟨z, 0, none⟩) ∧ p3 = .int .i64 0 ∧ w.heap.size ≤ z ∧ Blk wx g (saiA x ⟨A, n, cap, B, m, cap2, D, nd, cd, E, ne, ce, C, nb, cb⟩) 32 ∧ AmtK q a wx ∧ Blk wx z #[.int .i64 0, .int .i64 0, .slice none 0 0, .slice none 0 0, .slice none 0 0, .int .i64 0, .int .i64 0, .slice none 0 0, .int .i64 0, .int .i64 0, .int .i64 0, .slice none 0 0, .bool false] 32 ∧ Below w.heap.size w wx)
  case first => as_aux_lemma =>
    go_wp2_with fail
    go_meet
    exact ⟨_, _, _, rfl, rfl, rfl, rfl, by omega, blk3_0 _ _ _ _, blk3_1 _ _ _ _, blk3_2 _ _ _ _, bel3 _ _ _ _⟩
  obtain ⟨g, q, z, rfl, rfl, rfl, rfl, hz, hG, hQ, hZ, hb⟩ := hcut
  have HC := Lib.hid (HC0.out q _ (hS.bel hb) hQ)
  go_wp2_with (refine wpList_load_row rfl 32 (.tmp 3) rfl g rfl 32 _ (0, 0) _ hG Tryz.underlying32 rfl (by kernel_rfl) ?_)
  refine HC.out.mono ?_
  rintro e w2 ⟨⟨y, p', rfl, hy, hO⟩, hb2⟩
  have hZ2 := hZ.bel hb2
  have hzl := hZ.lt
  have hsz := hb.size
  replace hb := hb.trans (hb2.mono hb.size)
  have HZ2 := Lib.hid hZ2
  have HO := Lib.hid hO
  clear hO
  have HY := Lib.hid hy
  clear hy
  clear hG hZ hb2 HC
  go_wp2_with (refine wpList_store_row rfl 32 (.tmp 6) (.tmp 12) rfl z (saiA y p') rfl rfl 32 _ HZ2.out (by kernel_rfl) rfl (by simp [Value.oneCell']) ?_)
  refine bodyPost_ret (v := .tuple #[.agg (saiA y p'), .int .i64 _]) ((HZ2.out.row _).ret2 (k := 6) (u := 7) (by kernel_rfl) rfl rfl Tryz.underlying32 (by kernel_rfl) (by kernel_rfl)) rfl ?_
  have hKz : Kept (fun k => k = z) w2 (w2.setRow z (saiA y p')) := (Kept.refl (fun k => k = z) w2).setRow (.inl rfl) _
  exact ⟨⟨y, p', rfl, HY.out, (HO.out.kept hKz (fun k hk e => by omega)).mono hsz⟩, hb.trans (hKz.below (B := w.heap.size) hb.size (fun k hk e => by omega))⟩
set_option maxRecDepth 100000 in
set_option maxHeartbeats 4000000 in
theorem Move_any (x : Sai) (p : SaiV) (t a : Int) (w : World) (hS : SaiR w x p) (ht : InI t) (ha : InI a) :
    Calls Tryz.prog 31 #[.agg (saiA x p), .int .i64 t, .int .i64 a] w fun e w' => ResS w' w.heap.size (moveEx x t a) (moveX x t a) e ∧ Below w.heap.size w w' := by
  have HC0 := Lib.hid (fun q V hX hQ => change_any 103 #[.pointer (some ⟨q, 0, none⟩)] (AmtK q a) x p t (moveE x (posI x.bks t) (curB x t) a) (moveX x t a) V hX ht (enters_of Tryz.func103 (by kernel_rfl) rfl) hQ (fun _ _ h hb => h.bel hb) (fun ho hl => by
    obtain ⟨b, h1, _, _, _, _, he⟩ := live_at (rise_of ho.bs.rise) hl
    unfold moveX
    rw [he]
    exact moveDo_any x _ b a q ha h1 ho) (fun _ => rfl))
  obtain ⟨A, n, cap, B, m, cap2, D, nd, cd, E, ne, ce, C, nb, cb⟩ := p
  go_enter Tryz.func31, Tryz.ntmps31
  go_upto_region 0 with (fail)
  go_cut [3, 5, 6, 7] (fun p pq p2 p3 wx => ∃ g q z, p = .pointer (some ⟨g, 0, none⟩) ∧ pq = .pointer (some ⟨q, 0, none⟩) ∧ p2 = .pointer (some ⟨z, 0, none⟩) ∧ p3 = .int .i64 0 ∧ w.heap.size ≤ z ∧ Blk wx g (saiA x ⟨A, n, cap, B, m, cap2, D, nd, cd, E, ne, ce, C, nb, cb⟩) 32 ∧ AmtK q a wx ∧ Blk wx z #[.int .i64 0, .int .i64 0, .slice none 0 0, .slice none 0 0, .slice none 0 0, .int .i64 0, .int .i64 0, .slice none 0 0, .int .i64 0, .int .i64 0, .int .i64 0, .slice none 0 0, .bool false] 32 ∧ Below w.heap.size w wx)
  case first => as_aux_lemma =>
    go_wp2_with fail
    go_meet
    exact ⟨_, _, _, rfl, rfl, rfl, rfl, by omega, blk3_0 _ _ _ _, blk3_1 _ _ _ _, blk3_2 _ _ _ _, bel3 _ _ _ _⟩
  obtain ⟨g, q, z, rfl, rfl, rfl, rfl, hz, hG, hQ, hZ, hb⟩ := hcut
  have HC := Lib.hid (HC0.out q _ (hS.bel hb) hQ)
  go_wp2_with (refine wpList_load_row rfl 32 (.tmp 3) rfl g rfl 32 _ (0, 0) _ hG Tryz.underlying32 rfl (by kernel_rfl) ?_)
  refine HC.out.mono ?_
  rintro e w2 ⟨⟨y, p', rfl, hy, hO⟩, hb2⟩
  have hZ2 := hZ.bel hb2
  have hzl := hZ.lt
  have hsz := hb.size
  replace hb := hb.trans (hb2.mono hb.size)
  have HZ2 := Lib.hid hZ2
  have HO := Lib.hid hO
  clear hO
  have HY := Lib.hid hy
  clear hy
  clear hG hZ hb2 HC
  go_wp2_with (refine wpList_store_row rfl 32 (.tmp 6) (.tmp 12) rfl z (saiA y p') rfl rfl 32 _ HZ2.out (by kernel_rfl) rfl (by simp [Value.oneCell']) ?_)
  refine bodyPost_ret (v := .tuple #[.agg (saiA y p'), .int .i64 _]) ((HZ2.out.row _).ret2 (k := 6) (u := 7) (by kernel_rfl) rfl rfl Tryz.underlying32 (by kernel_rfl) (by kernel_rfl)) rfl ?_
  have hKz : Kept (fun k => k = z) w2 (w2.setRow z (saiA y p')) := (Kept.refl (fun k => k = z) w2).setRow (.inl rfl) _
  exact ⟨⟨y, p', rfl, HY.out, (HO.out.kept hKz (fun k hk e => by omega)).mono hsz⟩, hb.trans (hKz.below (B := w.heap.size) hb.size (fun k hk e => by omega))⟩
end Go.Proofs.YtoilcdgpeilgaaaGreat
