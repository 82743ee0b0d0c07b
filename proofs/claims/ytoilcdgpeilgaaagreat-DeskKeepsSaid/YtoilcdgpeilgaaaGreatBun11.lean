/-
  Words, laws and contracts: BookH, BookI, BookK.
-/
import Derived.Test.YtoilcdgpeilgaaaGreatBun10
import Derived.Deep.RegionHeld3
set_option linter.unusedSimpArgs false
set_option linter.unusedVariables false
namespace Go.Proofs.YtoilcdgpeilgaaaGreat
open Go.RowKit Go.Shelf
set_option maxRecDepth 100000 in
set_option maxHeartbeats 8000000 in
theorem Taken_any (C : Option Addr) (nb cb : Nat) (l : List Bkg) (c : Int) (w : World) (hl : Sl bkgC 11 w All C nb cb l) (hok : SpOk l) (hn : nb ≤ 2000000000000) :
    Calls Tryz.prog 146 #[.slice C nb cb, .int .i64 c] w fun e w' => ∃ v xs, e = .returned (.tuple #[v, .bool (takB l c)]) ∧ Own spanC 2 34 w' w.heap.size v (takL l c) xs ∧ Below w.heap.size w w' := by
  have hbd := hl.bd
  have HL := Lib.hid hl
  have HN := Lib.hid hl.len
  have HOK := Lib.hid hok
  clear hok
  obtain ⟨tb, htb⟩ : ∃ q, q = takB l c := ⟨_, rfl⟩
  obtain ⟨tl, htl⟩ : ∃ q, q = takL l c := ⟨_, rfl⟩
  rw [← htb, ← htl]
  have HTB := Lib.hid htb
  clear htb
  have HTL := Lib.hid htl
  clear htl
  clear hl
  go_enter Tryz.func146, Tryz.ntmps146
  go_wp2_with fail
  go_loopg [6, 12] nb (fun gk o i wr => ∃ (k : Nat) (xs : List Value), k ≤ nb ∧ nb - k ≤ gk ∧ i = .int .i64 k ∧ Own spanC 2 34 wr w.heap.size o (spL (l.take k) c) xs ∧ Below w.heap.size w wr)
  case atStart => exact ⟨0, [], Nat.zero_le _, by omega, rfl, Own.nil _ _ _ _ _, Below.refl _ _⟩
  case round =>
    obtain ⟨k, xs, hk, hgk, rfl, hO, hb⟩ := hrel
    obtain ⟨A2, n2, cap2, rfl, hs2⟩ := hO.sl spanC_good
    have hln := hs2.len
    clear hs2
    by_cases hlt : k < nb
    · skip
      obtain ⟨ab, off, ⟨id, kind, state, gst, lev, cab, cat, frm, upto, til, fol⟩, A3, n3, c3, hA, hx, hF, hI, hcel⟩ := (HL.out.bel hb).bkg hlt
      subst hA
      simp only at hF
      have y0 : wr.cell? ⟨ab, off + k * 11, none⟩ = some (.int .i64 id) := hcel 0 _ rfl
      have y1 : wr.cell? ⟨ab, off + k * 11 + 1, none⟩ = some (.int .i64 kind) := hcel 1 _ rfl
      have y2 : wr.cell? ⟨ab, off + k * 11 + 2, none⟩ = some (.int .i64 state) := hcel 2 _ rfl
      have y3 : wr.cell? ⟨ab, off + k * 11 + 3, none⟩ = some (.int .i64 gst) := hcel 3 _ rfl
      have y4 : wr.cell? ⟨ab, off + k * 11 + 4, none⟩ = some (.bool lev) := hcel 4 _ rfl
      have y5 : wr.cell? ⟨ab, off + k * 11 + 5, none⟩ = some (.int .i64 cab) := hcel 5 _ rfl
      have y6 : wr.cell? ⟨ab, off + k * 11 + 6, none⟩ = some (.int .i64 cat) := hcel 6 _ rfl
      have y7 : wr.cell? ⟨ab, off + k * 11 + 7, none⟩ = some (.int .i64 frm) := hcel 7 _ rfl
      have y8 : wr.cell? ⟨ab, off + k * 11 + 8, none⟩ = some (.int .i64 upto) := hcel 8 _ rfl
      have y9 : wr.cell? ⟨ab, off + k * 11 + 9, none⟩ = some (.int .i64 til) := hcel 9 _ rfl
      have y10 : wr.cell? ⟨ab, off + k * 11 + 10, none⟩ = some (.slice A3 n3 c3) := hcel 10 _ rfl
      clear hcel
      go_upto_region 4 with (fail)
      go_cut [8] (fun p wx => ∃ z, p = .pointer (some ⟨z, 0, none⟩) ∧ Blk wx z (bkgA ⟨id, kind, state, gst, lev, cab, cat, frm, upto, til, fol⟩ (.slice A3 n3 c3)) 37 ∧ Below wr.heap.size wr wx)
      case first => as_aux_lemma =>
        go_wp2_with fail
        go_meet
        exact ⟨_, rfl, blk1 _ _, bel1 _ _⟩
      obtain ⟨z, rfl, hZ, hbz⟩ := hcut
      clear y0 y1 y2 y3 y4 y5 y6 y7 y8 y9 y10
      replace hF := hF.bel hbz
      have hO2 := hO.bel hbz
      replace hb := hb.trans (hbz.mono hb.size)
      clear hbz hO
      have z0 : wc.cell? ⟨z, 0, none⟩ = some (.int .i64 id) := hZ.cell rfl
      have z1 : wc.cell? ⟨z, 1, none⟩ = some (.int .i64 kind) := hZ.cell rfl
      have z2 : wc.cell? ⟨z, 2, none⟩ = some (.int .i64 state) := hZ.cell rfl
      have z3 : wc.cell? ⟨z, 3, none⟩ = some (.int .i64 gst) := hZ.cell rfl
      have z4 : wc.cell? ⟨z, 4, none⟩ = some (.bool lev) := hZ.cell rfl
      have z5 : wc.cell? ⟨z, 5, none⟩ = some (.int .i64 cab) := hZ.cell rfl
      have z6 : wc.cell? ⟨z, 6, none⟩ = some (.int .i64 cat) := hZ.cell rfl
      have z7 : wc.cell? ⟨z, 7, none⟩ = some (.int .i64 frm) := hZ.cell rfl
      have z8 : wc.cell? ⟨z, 8, none⟩ = some (.int .i64 upto) := hZ.cell rfl
      have z9 : wc.cell? ⟨z, 9, none⟩ = some (.int .i64 til) := hZ.cell rfl
      have z10 : wc.cell? ⟨z, 10, none⟩ = some ((.slice A3 n3 c3)) := hZ.cell rfl
      have hsu := spL_succ (c := c) hx
      have hll := spL_len (l.take k) c
      rw [List.length_take] at hll
      have hHas := fun W => Has_any ⟨id, kind, state, gst, lev, cab, cat, frm, upto, til, fol⟩ (.slice A3 n3 c3) c W
      obtain ⟨q, hq⟩ : ∃ q, q = hasB c ⟨id, kind, state, gst, lev, cab, cat, frm, upto, til, fol⟩ := ⟨_, rfl⟩
      rw [← hq] at hHas hsu
      have HHAS := Lib.hid hHas
      have hby : ((spL (l.take k) c).length + 1) * 16 ≤ 140737488355328 := by omega
      have if0 := hI.frm
      have iu0 := hI.upto
      simp only at if0 iu0
      have HSU := Lib.hid hsu
      clear hsu
      have HO := Lib.hid hO2
      clear hO2
      have hsz := hb.size
      clear hHas hq hx hF hI hll hln
      go_wp2_with fail
      refine (HHAS.out _).mono ?_
      rintro e w2 ⟨rfl, hb2⟩
      replace hZ := hZ.bel hb2
      have HO2 := Lib.hid (HO.out.bel hb2)
      replace hb := hb.trans (hb2.mono hb.size)
      clear hb2 z0 z1 z2 z3 z4 z5 z6 z7 z8 z9 z10 HO HHAS hsz
      cases q
      · have HV := Lib.hid (HSU.out.trans (by simp : _ = spL (l.take k) c))
        go_wp2_with fail
        go_roundg (nb - (k + 1))
        case measure => omega
        case rel => exact ⟨k + 1, xs, by omega, by omega, by go_num, by rw [HV.out]; exact HO2.out, hb⟩
      · have HV := Lib.hid (HSU.out.trans (by simp : _ = spL (l.take k) c ++ [⟨frm, upto⟩]))
        have z7 : w2.cell? ⟨z, 7, none⟩ = some (.int .i64 frm) := hZ.cell rfl
        have z8 : w2.cell? ⟨z, 8, none⟩ = some (.int .i64 upto) := hZ.cell rfl
        have hOq := Lib.hid (HO2.out.bel (bel1 w2 (.cells #[.int .i64 frm, .int .i64 upto] 34)))
        have hsw := hb.size
        have hsq : w.heap.size ≤ (w2.alloc (.cells #[.int .i64 frm, .int .i64 upto] 34)).heap.size := by simp; omega
        have HBQ := Lib.hid (hb.alloc hb.size (.cells #[.int .i64 frm, .int .i64 upto] 34))
        clear HO2 hb hZ
        go_wp2_with (at_builtin; refine list_app (t := 104) (e := 34) (bytes := 16) rfl (.tmp 19) (.tmp 22) rfl span_elem spanC_good rfl hOq.out rfl (sl_span _ All frm upto 34 if0 iu0 trivial) (fun _ _ hc => hc) hby (by omega) hsq ?_; intro v' w' xs' hown' hg' _)
        go_roundg (nb - (k + 1))
        case measure => omega
        case rel => exact ⟨k + 1, xs', by omega, by omega, by go_num, by rw [HV.out]; exact hown', below_app HBQ.out hOq.out hg' hsq⟩
    · obtain rfl : k = nb := by omega
      rw [List.take_of_length_le (Nat.le_of_eq HN.out)] at hO hln
      have HB1 := Lib.hid hb
      have hsz := hb.size
      by_cases h0 : n2 = 0
      · have hnil : spL l c = [] := List.eq_nil_of_length_eq_zero (by omega)
        have hp := tak_of (l := l) (c := c) (out := []) (by rw [hnil]; rfl)
        obtain rfl : tb = true := HTB.out.trans hp.1
        obtain rfl : tl = [] := HTL.out.trans hp.2
        rw [hnil] at hO
        have HO := Lib.hid hO
        clear hO
        subst h0
        clear hln hnil hp hb
        go_wp2_with fail
        refine (Sort_taken_none A2 cap2 _ _).mono ?_
        rintro e w3 ⟨rfl, rfl⟩
        go_wp2_with fail
        go_loopg [9] 0 (fun gk i wr2 => i = .int .i64 1 ∧ Below w.heap.size w wr2 ∧ wr2 = w3)
        case atStart => exact ⟨rfl, HB1.out, rfl⟩
        case round =>
          obtain ⟨rfl, hb, rfl⟩ := hrel
          go_wp2_with fail
          go_ret2
          exact ⟨_, xs, rfl, HO.out, hb⟩
      · obtain ⟨g, c9, hv, hg0, hgl⟩ := hO.form (by omega)
        simp only [Value.slice.injEq] at hv
        obtain ⟨rfl, -, rfl⟩ := hv
        have hoks := spL_ok HOK.out (c := c)
        have hll := spL_len l c
        have hst := Sort_taken (w := wr) (base := w.heap.size) (g := g) (n := n2) (cap := cap2) hO (by have := HN.out; omega) (fun x hx => by have := hoks x hx; unfold OkSp at this; omega)
        have HST := Lib.hid hst
        clear hst
        have HOKS := Lib.hid hoks
        clear hoks
        clear hO hln hll hb
        go_wp2_with fail
        refine HST.out.mono ?_
        rintro e w3 ⟨rfl, s, xs3, hp, hs, hO3, hK⟩
        have hb3 := HB1.out.trans (hK.below (B := w.heap.size) hsz (fun q hq (e : q = g) => by omega))
        have hlaw := taken_law (fun x hx => (HOKS.out x hx).2.1) hp hs
        obtain ⟨A4, n4, cap4, hv4, hs4⟩ := hO3.sl spanC_good
        simp only [Value.slice.injEq] at hv4
        obtain ⟨rfl, rfl, rfl⟩ := hv4
        have hsl := hs4.all spanC_good (by omega)
        have hn2 := hs4.bd
        have HSN := Lib.hid hs4.len
        obtain ⟨W3, hW3⟩ : ∃ W, W = w3 := ⟨_, rfl⟩
        subst hW3
        have HS3 := Lib.hid hsl
        have HO3 := Lib.hid hO3
        have HB3 := Lib.hid hb3
        have HLAW := Lib.hid hlaw
        clear hlaw
        clear hp hs hO3 hK hs4 hsl HST HB1 hb3
        go_wp2_with fail
        go_loopg [9] n2 (fun gk i wr2 => ∃ j : Nat, j ≤ n2 ∧ n2 - j ≤ gk ∧ i = .int .i64 ((j : Int) + 1) ∧ Aside (∀ p x y, p < j → s[p]? = some x → s[p + 1]? = some y → meetB x y = false) ∧ Below W3.heap.size W3 wr2)
        case atStart => exact ⟨0, Nat.zero_le _, by omega, rfl, fun _ _ _ h => absurd h (Nat.not_lt_zero _), Below.refl _ _⟩
        case round =>
          obtain ⟨j, hj, hgj, rfl, HA, hb⟩ := hrel
          by_cases hlt : j + 1 < n2
          · obtain ⟨bb, off, x, c0, c1, hA1, hx, ⟨hc1, _⟩, e0, e1⟩ := (HS3.out.bel hb).at2 (k := j) (by omega)
            obtain ⟨bb2, off2, y, d0, d1, hA2, hy, ⟨hc2, _⟩, e2, e3⟩ := (HS3.out.bel hb).at2 (k := j + 1) hlt
            simp only [List.cons.injEq, and_true] at hc1 hc2
            obtain ⟨rfl, rfl⟩ := hc1
            obtain ⟨rfl, rfl⟩ := hc2
            simp only [Option.some.injEq, Addr.mk.injEq, and_true] at hA1 hA2
            obtain ⟨rfl, rfl⟩ := hA1
            obtain ⟨rfl, rfl⟩ := hA2
            simp only [Nat.zero_add] at e0 e1 e2 e3
            have hM := fun W => Meet_any x.frm x.upto y.frm y.upto W
            obtain ⟨q, hq⟩ : ∃ q, q = meetB ⟨x.frm, x.upto⟩ ⟨y.frm, y.upto⟩ := ⟨_, rfl⟩
            rw [← hq] at hM
            have HM := Lib.hid hM
            clear hM
            have HQ := Lib.hid (show q = meetB x y from hq)
            have HX := Lib.hid hx
            clear hx
            have HY := Lib.hid hy
            clear hy
            have hw : IntKind.i64.wrap (j : Int) = j := IntWalk.i64_in _ (by omega)
            have hj0 : (0 : Int) ≤ (j : Int) := Int.natCast_nonneg _
            have hj1 : (j : Int) + 1 < (n2 : Int) := by omega
            have hj2 : (j : Int) < (n2 : Int) := by omega
            have hj3 : (0 : Int) ≤ (j : Int) + 1 := by omega
            clear hq
            go_upto_region 12 with (fail)
            go_cut [42] (fun t wx => t = .bool q ∧ Below wr.heap.size wr wx)
            case first => as_aux_lemma =>
              have HCEL := Lib.hid (show ∀ X, Below wr.heap.size wr X → (fun w' => w'.cell? ⟨g, j * 2, none⟩ = some (.int .i64 x.frm) ∧ w'.cell? ⟨g, j * 2 + 1, none⟩ = some (.int .i64 x.upto) ∧ w'.cell? ⟨g, (j + 1) * 2, none⟩ = some (.int .i64 y.frm) ∧ w'.cell? ⟨g, (j + 1) * 2 + 1, none⟩ = some (.int .i64 y.upto)) X from fun X hX => ⟨cellB hX e0, cellB hX e1, cellB hX e2, cellB hX e3⟩)
              have hbx : Below wr.heap.size wr wr.drew := (Below.refl _ wr).drew
              clear e0 e1 e2 e3
              refine wp_region_held_drew (S := (fun w' => w'.cell? ⟨g, j * 2, none⟩ = some (.int .i64 x.frm) ∧ w'.cell? ⟨g, j * 2 + 1, none⟩ = some (.int .i64 x.upto) ∧ w'.cell? ⟨g, (j + 1) * 2, none⟩ = some (.int .i64 y.frm) ∧ w'.cell? ⟨g, (j + 1) * 2 + 1, none⟩ = some (.int .i64 y.upto))) (by kernel_rfl) (HCEL.out _ hbx) (fun hHeld => ?_)
              refine wpAnyH_take (i := 0) (v := ?v1) (gA rfl) (by kernel_rfl) (by kernel_rfl) (by kernel_rfl) (fun _ _ _ h => h) (Or.inl ⟨rfl, ?y1⟩) (by assumption) ?_
              case y1 => (intro w hSw; (try dsimp only at hSw); go_simp <;> with_reducible rfl)
              simp only [Act.put, List.setIfInBounds_toArray, List.set_cons_zero, List.set_cons_succ]
              refine wpAnyH_take (i := 1) (v := ?v2) (gA rfl) (by kernel_rfl) (by kernel_rfl) (by kernel_rfl) (fun _ _ _ h => h) (Or.inl ⟨rfl, ?y2⟩) (by assumption) ?_
              case y2 => (intro w hSw; (try dsimp only at hSw); go_simp <;> with_reducible rfl)
              simp only [Act.put, List.setIfInBounds_toArray, List.set_cons_zero, List.set_cons_succ]
              refine wpAnyH_take (i := 2) (v := ?v3) (gA rfl) (by kernel_rfl) (by kernel_rfl) (by kernel_rfl) (fun _ _ _ h => h) (Or.inl ⟨rfl, ?y3⟩) (by assumption) ?_
              case y3 => (intro w hSw; (try dsimp only at hSw); go_simp <;> with_reducible rfl)
              simp only [Act.put, List.setIfInBounds_toArray, List.set_cons_zero, List.set_cons_succ]
              refine wpAnyH_take (i := 3) (v := ?v4) (gA rfl) (by kernel_rfl) (by kernel_rfl) (by kernel_rfl) (fun _ _ _ h => h) (Or.inl ⟨rfl, ?y4⟩) (by assumption) ?_
              case y4 => (intro w hSw; (try dsimp only at hSw); go_simp <;> with_reducible rfl)
              simp only [Act.put, List.setIfInBounds_toArray, List.set_cons_zero, List.set_cons_succ]
              refine wpAnyH_take (i := 4) (v := ?v5) (gA rfl) (by kernel_rfl) (by kernel_rfl) (by kernel_rfl) (fun _ _ _ h => h) (Or.inl ⟨rfl, ?y5⟩) (by assumption) ?_
              case y5 => (intro w hSw; (try dsimp only at hSw); go_simp <;> with_reducible rfl)
              simp only [Act.put, List.setIfInBounds_toArray, List.set_cons_zero, List.set_cons_succ]
              refine wpAnyH_take (i := 5) (v := ?v6) (gA rfl) (by kernel_rfl) (by kernel_rfl) (by kernel_rfl) (fun _ _ _ h => h) (Or.inl ⟨rfl, ?y6⟩) (by assumption) ?_
              case y6 => (intro w hSw; (try dsimp only at hSw); go_simp <;> with_reducible rfl)
              simp only [Act.put, List.setIfInBounds_toArray, List.set_cons_zero, List.set_cons_succ]
              refine wpAnyH_take (i := 6) (v := ?v7) (gA rfl) (by kernel_rfl) (by kernel_rfl) (by kernel_rfl) (fun _ _ _ h => h) (Or.inl ⟨rfl, ?y7⟩) (by assumption) ?_
              case y7 => (intro w hSw; (try dsimp only at hSw); go_simp <;> with_reducible rfl)
              simp only [Act.put, List.setIfInBounds_toArray, List.set_cons_zero, List.set_cons_succ]
              refine wpAnyH_take (i := 7) (v := ?v8) (gA rfl) (by kernel_rfl) (by kernel_rfl) (by kernel_rfl) (fun _ _ _ h => h) (Or.inl ⟨rfl, ?y8⟩) (by assumption) ?_
              case y8 => (intro w hSw; (try dsimp only at hSw); go_simp <;> with_reducible rfl)
              simp only [Act.put, List.setIfInBounds_toArray, List.set_cons_zero, List.set_cons_succ]
              refine wpAnyH_take (i := 8) (v := ?v9) (gA rfl) (by kernel_rfl) (by kernel_rfl) (by kernel_rfl) (fun _ _ _ h => h) (Or.inl ⟨rfl, ?y9⟩) (by assumption) ?_
              case y9 => (intro w hSw; (try dsimp only at hSw); go_simp <;> with_reducible rfl)
              simp only [Act.put, List.setIfInBounds_toArray, List.set_cons_zero, List.set_cons_succ]
              refine wpAnyH_ready (rs := [9]) (by kernel_rfl) (by simp) (AllReadyH.cons (gA rfl) (fun K hK => ?_) AllReadyH.nil)
              go_simp
              (go_at_call 224; refine (HM.out _).mono ?_; rintro e wn ⟨rfl, hbn⟩; replace hbx := hbx.trans hbn)
              go_wp2_with fail
              refine hK.out _ _ ?_ (fun hHeld => ?_)
              · exact HCEL.out _ hbx
              clear hK K
              try simp only [Act.put, List.setIfInBounds_toArray, List.set_cons_zero, List.set_cons_succ]
              refine wpAnyH_done (by kernel_rfl) ?_ _
              go_wp2_with fail
              go_meet
              exact ⟨rfl, hbx⟩
            obtain ⟨rfl, hb4⟩ := hcut
            cases q
            · skip
              go_wp2_with fail
              go_roundg (n2 - (j + 1))
              case measure => omega
              case rel =>
                refine ⟨j + 1, by omega, by omega, by go_num, fun p x' y' hp hx' hy' => ?_, hb.trans (hb4.mono hb.size)⟩
                by_cases e : p = j
                · subst e
                  rw [HX.out] at hx'
                  rw [HY.out] at hy'
                  injection hx' with hx'
                  injection hy' with hy'
                  rw [← hx', ← hy']
                  exact HQ.out.symm
                · exact HA p x' y' (by omega) hx' hy'
            · have hn := HLAW.out.2 ⟨j, x, y, HX.out, HY.out, HQ.out.symm⟩
              obtain rfl : tb = false := HTB.out.trans (by unfold takB; rw [hn]; rfl)
              obtain rfl : tl = [] := HTL.out.trans (by unfold takL; rw [hn]; rfl)
              clear hn
              go_wp2_with fail
              go_ret2
              exact ⟨_, [], rfl, Own.nil _ _ _ _ _, HB3.out.trans ((hb.trans (hb4.mono hb.size)).mono HB3.out.size)⟩
          · have hsome := HLAW.out.1 (fun p x y hx hy => HA p x y (by have h1 := (List.getElem?_eq_some_iff.1 hy).1; have := HSN.out; omega) hx hy)
            have hp := tak_of hsome
            obtain rfl : tb = true := HTB.out.trans hp.1
            obtain rfl : tl = s := HTL.out.trans hp.2
            have HO4 := Lib.hid (HO3.out.bel hb)
            have hge : ¬ (j : Int) + 1 < (n2 : Int) := by omega
            clear hsome hp HA
            go_wp2_with fail
            go_ret2
            first
              | exact ⟨_, xs3, rfl, HO4.out, HB3.out.trans (hb.mono HB3.out.size)⟩
              | exact ⟨_, rfl, ⟨xs3, HO4.out⟩, HB3.out.trans (hb.mono HB3.out.size)⟩
end Go.Proofs.YtoilcdgpeilgaaaGreat
namespace Go.Proofs.YtoilcdgpeilgaaaGreat
open Go.RowKit Go.Shelf
def addP (m : List Int) (p : Nat → Bool) (g : Int) : List Int := m.mapIdx (fun i v => if p i = true then v + g else v)
theorem addP_len (m : List Int) (p : Nat → Bool) (g : Int) : (addP m p g).length = m.length := by unfold addP; simp
theorem addP_get (m : List Int) (p : Nat → Bool) (g : Int) (i : Nat) : (addP m p g)[i]? = m[i]?.map (fun v => if p i = true then v + g else v) := by unfold addP; simp
theorem addP_congr {m : List Int} {p p' : Nat → Bool} {g : Int} (h : ∀ i, i < m.length → p i = p' i) : addP m p g = addP m p' g := by
  refine List.ext_getElem? fun i => ?_
  rw [addP_get, addP_get]
  by_cases hi : i < m.length
  · rw [h i hi]
  · rw [List.getElem?_eq_none (by omega)]; rfl
theorem addP_none {m : List Int} {p : Nat → Bool} {g : Int} (h : ∀ i, i < m.length → p i = false) : addP m p g = m := by
  refine List.ext_getElem? fun i => ?_
  rw [addP_get]
  by_cases hi : i < m.length
  · rw [h i hi, List.getElem?_eq_getElem hi]; simp
  · rw [List.getElem?_eq_none (by omega)]; rfl
theorem addP_step {m : List Int} {p p' : Nat → Bool} {g : Int} {j : Nat} (hj : j < m.length) (h0 : p j = false) (h1 : p' j = true) (h2 : ∀ i, i < m.length → i ≠ j → p' i = p i) : addP m p' g = (addP m p g).set j ((addP m p g).getD j 0 + g) := by
  refine List.ext_getElem? fun i => ?_
  rw [addP_get]
  by_cases hi : i = j
  · subst hi
    rw [List.getElem?_set_self (by rw [addP_len]; exact hj), List.getD_eq_getElem?_getD, addP_get, List.getElem?_eq_getElem hj, h0, h1]
    simp
  · rw [List.getElem?_set_ne (fun e => hi e.symm), addP_get]
    by_cases hl : i < m.length
    · rw [h2 i hl hi]
    · rw [List.getElem?_eq_none (by omega)]; rfl
def inB (b : Bkg) (i : Nat) : Bool := liveB b && (decide (b.frm ≤ i) && decide ((i : Int) < b.upto))
theorem soulK_snoc (l : List Bkg) (b : Bkg) (i : Nat) : soulK (l ++ [b]) i = if inB b i = true then soulK l i + b.gst else soulK l i := by
  unfold soulK
  rw [List.map_append, List.sum_append]
  by_cases h : liveB b = true ∧ b.frm ≤ i ∧ (i : Int) < b.upto
  · have hb : inB b i = true := by unfold inB; simp [h]
    rw [hb]; simp [h]
  · have hb : inB b i = false := by
      cases e : inB b i
      · rfl
      · unfold inB at e; simp at e; exact absurd ⟨e.1, e.2⟩ h
    rw [hb]; simp [h]
theorem soulL_len (l : List Bkg) (N : Nat) : (soulL l N).length = N := by unfold soulL; simp
theorem soulL_get (l : List Bkg) (N i : Nat) (h : i < N) : (soulL l N)[i]? = some (soulK l i) := by unfold soulL; simp [h]
theorem soulL_succ {l : List Bkg} {k N : Nat} {b : Bkg} (h : l[k]? = some b) : soulL (l.take (k + 1)) N = addP (soulL (l.take k) N) (inB b) b.gst := by
  refine List.ext_getElem? fun i => ?_
  rw [addP_get, take_snoc h]
  by_cases hi : i < N
  · rw [soulL_get _ _ _ hi, soulL_get _ _ _ hi, soulK_snoc]; rfl
  · rw [List.getElem?_eq_none (by rw [soulL_len]; omega), List.getElem?_eq_none (by rw [soulL_len]; omega)]; rfl
def AbOk (l : List Bkg) (N : Nat) : Prop := ∀ b ∈ l, (0 ≤ b.frm ∧ b.frm < b.upto ∧ b.upto ≤ N) ∧ 1 ≤ b.gst ∧ b.gst ≤ 4
theorem soulK_bd : ∀ {l : List Bkg}, (∀ b ∈ l, 1 ≤ b.gst ∧ b.gst ≤ 4) → ∀ i, 0 ≤ soulK l i ∧ soulK l i ≤ 4 * l.length
  | [], _, i => by simp [soulK]
  | b :: l, h, i => by
    have ih := soulK_bd (l := l) (fun x hx => h x (List.mem_cons_of_mem _ hx)) i
    have hb := h b (List.mem_cons_self ..)
    have : soulK (b :: l) i = (if liveB b = true ∧ b.frm ≤ i ∧ (i : Int) < b.upto then b.gst else 0) + soulK l i := by unfold soulK; simp
    rw [this, List.length_cons]
    split <;> omega
theorem addP_bd {m : List Int} {p : Nat → Bool} {g M : Int} (h : ∀ i, 0 ≤ m.getD i 0 ∧ m.getD i 0 ≤ M) (hg : 0 ≤ g ∧ g ≤ 4) (i : Nat) : 0 ≤ (addP m p g).getD i 0 ∧ (addP m p g).getD i 0 ≤ M + 4 := by
  have := h i
  rw [List.getD_eq_getElem?_getD] at this
  rw [List.getD_eq_getElem?_getD, addP_get]
  cases e : m[i]? with
  | none => rw [e] at this; simp at this ⊢; omega
  | some v =>
    rw [e] at this
    simp only [Option.getD_some, Option.map_some] at this ⊢
    split <;> omega
theorem soulL_bd {l : List Bkg} {N : Nat} (h : AbOk l N) (k i : Nat) : 0 ≤ (soulL (l.take k) N).getD i 0 ∧ (soulL (l.take k) N).getD i 0 ≤ 4 * l.length := by
  rw [List.getD_eq_getElem?_getD]
  by_cases hi : i < N
  · rw [soulL_get _ _ _ hi]
    have := soulK_bd (l := l.take k) (fun b hb => (h b (List.mem_of_mem_take hb)).2) i
    rw [List.length_take] at this
    simp only [Option.getD_some]
    omega
  · rw [List.getElem?_eq_none (by rw [soulL_len]; omega)]
    simp
    omega
theorem soulL_nil (N : Nat) : soulL [] N = List.replicate N 0 := by
  unfold soulL soulK
  simp [List.eq_replicate_iff]
theorem mkInts6 (W : World) : (Instr.makeSlice 47 (.int .i64 6) (.int .i64 6)).run Tryz.prog W = .ok (.slice (some ⟨W.heap.size, 0, none⟩) 6 6) (W.alloc (.cells ((List.replicate 6 (0 : Int)).map (Value.int .i64)).toArray 3)) := by kernel_rfl
theorem mkInts7 (W : World) : (Instr.makeSlice 47 (.int .i64 7) (.int .i64 7)).run Tryz.prog W = .ok (.slice (some ⟨W.heap.size, 0, none⟩) 7 7) (W.alloc (.cells ((List.replicate 7 (0 : Int)).map (Value.int .i64)).toArray 3)) := by kernel_rfl
theorem mkIntsL (n : Nat) (hn : n ≤ 7) (W : World) : (Instr.makeSlice 47 (.int .i64 n) (.int .i64 n)).run Tryz.prog W = .ok (.slice (some ⟨W.heap.size, 0, none⟩) n n) (W.alloc (.cells ((List.replicate n (0 : Int)).map (Value.int .i64)).toArray 3)) := by
  have h : n ≤ 5 ∨ n = 6 ∨ n = 7 := by omega
  rcases h with h | rfl | rfl
  · exact mkInts n h W
  · exact mkInts6 W
  · exact mkInts7 W
theorem RowI.own {w : World} {G base : Nat} {m : List Int} (h : RowI w G m 3) (hb : base ≤ G) (hi : ∀ x ∈ m, InI x) (hm : m.length ≤ 1000000) : Own intC 1 3 w base (.slice (some ⟨G, 0, none⟩) m.length m.length) m (m.map (Value.int .i64)) := by
  refine ⟨⟨by simp, .inr ⟨G, m.length, _, rfl, hb, h, Nat.le_refl _, by simp only [maxLen]; omega, by simp, by simp; exact List.take_of_length_le (by simp)⟩⟩, fun i x hx => ⟨[.int .i64 x], ⟨rfl, hi x (List.mem_of_getElem? hx)⟩, rfl, fun j u hu => ?_⟩⟩
  rcases j with _ | j
  · simp at hu; subst hu; simp [hx]
  · simp at hu
set_option maxRecDepth 100000 in
set_option maxHeartbeats 8000000 in
theorem Aboard_any (N : Nat) (C : Option Addr) (nb cb : Nat) (l : List Bkg) (w : World) (hl : Sl bkgC 11 w All C nb cb l) (hok : AbOk l N) (hN : N ≤ 7) (hn : nb ≤ 2000000000000) :
    Calls Tryz.prog 152 #[.int .i64 (N : Int), .slice C nb cb] w fun e w' => ∃ G, e = .returned (.slice (some ⟨G, 0, none⟩) N N) ∧ w.heap.size ≤ G ∧ RowI w' G (soulL l N) 3 ∧ Below w.heap.size w w' := by
  have hbd := hl.bd
  have HL := Lib.hid hl
  have HN := Lib.hid hl.len
  have HOK := Lib.hid hok
  clear hok
  have hmk := fun W => mkIntsL N hN W
  clear hl
  go_enter Tryz.func152, Tryz.ntmps152
  go_upto_region 1 with (fail)
  go_cut [5] (fun p wx => ∃ G, p = .slice (some ⟨G, 0, none⟩) N N ∧ w.heap.size ≤ G ∧ RowI wx G (soulL (l.take 0) N) 3 ∧ Below w.heap.size w wx)
  case first => as_aux_lemma =>
    go_wp2_with fail
    go_meet
    exact ⟨_, rfl, Nat.le_refl _, by rw [List.take_zero, soulL_nil]; unfold RowI; rw [show ((List.replicate N (0 : Int)).map (Value.int .i64)).toArray = Array.replicate N (.int .i64 0) by simp]; exact blk1 _ _, bel1 _ _⟩
  obtain ⟨G, rfl, hG, hR, hb0⟩ := hcut
  have HR := Lib.hid hR
  clear hR
  have HB0 := Lib.hid hb0
  clear hb0
  clear hmk
  obtain ⟨W0, hW0⟩ : ∃ W, W = wc := ⟨_, rfl⟩
  subst hW0
  go_wp2_with fail
  go_loopg [13] nb (fun gk i wr => ∃ k : Nat, k ≤ nb ∧ nb - k ≤ gk ∧ i = .int .i64 k ∧ RowI wr G (soulL (l.take k) N) 3 ∧ Below w.heap.size w wr)
  case atStart => exact ⟨0, Nat.zero_le _, by omega, rfl, HR.out, HB0.out⟩
  case round =>
    obtain ⟨k, hk, hgk, rfl, hR, hb⟩ := hrel
    by_cases hlt : k < nb
    · have hGl := Blk.lt hR
      obtain ⟨ab, off, ⟨id, kind, state, gst, lev, cab, cat, frm, upto, til, fol⟩, A3, n3, c3, hA, hx, hF, hI, hcel⟩ := (HL.out.bel hb).bkg hlt
      subst hA
      simp only at hF
      have y0 : wr.cell? ⟨ab, off + k * 11, none⟩ = some (.int .i64 id) := hcel 0 _ rfl
      have y1 : wr.cell? ⟨ab, off + k * 11 + 1, none⟩ = some (.int .i64 kind) := hcel 1 _ rfl
      have y2 : wr.cell? ⟨ab, off + k * 11 + 2, none⟩ = some (.int .i64 state) := hcel 2 _ rfl
      have y3 : wr.cell? ⟨ab, off + k * 11 + 3, none⟩ = some (.int .i64 gst) := hcel 3 _ rfl
      have y4 : wr.cell? ⟨ab, off + k * 11 + 4, none⟩ = some (.bool lev) := hcel 4 _ rfl
      have y5 : wr.cell? ⟨ab, off + k * 11 + 5, none⟩ = some (.int .i64 cab) := hcel 5 _ rfl
      have y6 : wr.cell? ⟨ab, off + k * 11 + 6, none⟩ = some (.int .i64 cat) := hcel 6 _ rfl
      have y7 : wr.cell? ⟨ab, off + k * 11 + 7, none⟩ = some (.int .i64 frm) := hcel 7 _ rfl
      have y8 : wr.cell? ⟨ab, off + k * 11 + 8, none⟩ = some (.int .i64 upto) := hcel 8 _ rfl
      have y9 : wr.cell? ⟨ab, off + k * 11 + 9, none⟩ = some (.int .i64 til) := hcel 9 _ rfl
      have y10 : wr.cell? ⟨ab, off + k * 11 + 10, none⟩ = some (.slice A3 n3 c3) := hcel 10 _ rfl
      clear hcel
      go_upto_region 4 with (fail)
      go_cut [7] (fun p wx => ∃ z, p = .pointer (some ⟨z, 0, none⟩) ∧ wr.heap.size ≤ z ∧ Blk wx z (bkgA ⟨id, kind, state, gst, lev, cab, cat, frm, upto, til, fol⟩ (.slice A3 n3 c3)) 37 ∧ Below wr.heap.size wr wx)
      case first => as_aux_lemma =>
        go_wp2_with fail
        go_meet
        exact ⟨_, rfl, Nat.le_refl _, blk1 _ _, bel1 _ _⟩
      obtain ⟨z, rfl, hzs, hZ, hbz⟩ := hcut
      clear y0 y1 y2 y3 y4 y5 y6 y7 y8 y9 y10
      replace hF := hF.bel hbz
      have hR := hR.bel hbz
      have hzG : z ≠ G := by omega
      replace hb := hb.trans (hbz.mono hb.size)
      clear hbz hF
      have z0 : wc.cell? ⟨z, 0, none⟩ = some (.int .i64 id) := hZ.cell rfl
      have z1 : wc.cell? ⟨z, 1, none⟩ = some (.int .i64 kind) := hZ.cell rfl
      have z2 : wc.cell? ⟨z, 2, none⟩ = some (.int .i64 state) := hZ.cell rfl
      have z3 : wc.cell? ⟨z, 3, none⟩ = some (.int .i64 gst) := hZ.cell rfl
      have z4 : wc.cell? ⟨z, 4, none⟩ = some (.bool lev) := hZ.cell rfl
      have z5 : wc.cell? ⟨z, 5, none⟩ = some (.int .i64 cab) := hZ.cell rfl
      have z6 : wc.cell? ⟨z, 6, none⟩ = some (.int .i64 cat) := hZ.cell rfl
      have z7 : wc.cell? ⟨z, 7, none⟩ = some (.int .i64 frm) := hZ.cell rfl
      have z8 : wc.cell? ⟨z, 8, none⟩ = some (.int .i64 upto) := hZ.cell rfl
      have z9 : wc.cell? ⟨z, 9, none⟩ = some (.int .i64 til) := hZ.cell rfl
      have z10 : wc.cell? ⟨z, 10, none⟩ = some ((.slice A3 n3 c3)) := hZ.cell rfl
      have hLv := fun W => Live_any ⟨id, kind, state, gst, lev, cab, cat, frm, upto, til, fol⟩ (.slice A3 n3 c3) W
      obtain ⟨q, hq⟩ : ∃ q, q = liveB ⟨id, kind, state, gst, lev, cab, cat, frm, upto, til, fol⟩ := ⟨_, rfl⟩
      rw [← hq] at hLv
      have HLV := Lib.hid hLv
      have HSU := Lib.hid (soulL_succ (N := N) hx)
      have HBD := Lib.hid (fun i => soulL_bd (HOK.out) k i)
      obtain ⟨⟨o1, o2, o3⟩, o4, o5⟩ := HOK.out _ (List.mem_of_getElem? hx)
      simp only at o1 o2 o3 o4 o5
      obtain ⟨f, rfl⟩ : ∃ f : Nat, frm = f := ⟨frm.toNat, by omega⟩
      obtain ⟨t, rfl⟩ : ∃ t : Nat, upto = t := ⟨upto.toNat, by omega⟩
      obtain ⟨M, hM⟩ : ∃ M, M = soulL (l.take k) N := ⟨_, rfl⟩
      rw [← hM] at HSU HBD hR
      have HML := Lib.hid (show M.length = N by rw [hM]; exact soulL_len _ _)
      have HQ := Lib.hid hq
      have HR := Lib.hid hR
      clear hR
      clear hLv hq hx hI hGl hM
      go_wp2_with fail
      refine (HLV.out _).mono ?_
      rintro e w2 ⟨rfl, hb2⟩
      replace hZ := hZ.bel hb2
      have hR := HR.out.bel hb2
      replace hb := hb.trans (hb2.mono hb.size)
      clear hb2 z0 z1 z2 z3 z4 z5 z6 z7 z8 z9 z10 HLV HR
      cases q
      · have HV := Lib.hid (show soulL (l.take (k + 1)) N = M by rw [HSU.out]; exact addP_none (fun i _ => by unfold inB; rw [← HQ.out]; rfl))
        have HR := Lib.hid hR
        clear hR
        go_wp2_with fail
        go_roundg (nb - (k + 1))
        case measure => omega
        case rel => exact ⟨k + 1, by omega, by omega, by go_num, by rw [HV.out]; exact HR.out, hb⟩
      · have z7 : w2.cell? ⟨z, 7, none⟩ = some (.int .i64 (f : Int)) := hZ.cell rfl
        have HZ := Lib.hid hZ
        clear hZ
        have HR := Lib.hid hR
        clear hR
        have HB := Lib.hid hb
        clear hb
        go_wp2_with fail
        go_loopg [8] (t - f) (fun gk2 j wr2 => ∃ j0 : Nat, f ≤ j0 ∧ j0 ≤ t ∧ t - j0 ≤ gk2 ∧ j = .int .i64 j0 ∧ RowI wr2 G (addP M (fun i => decide (f ≤ i) && decide (i < j0)) gst) 3 ∧ Blk wr2 z (bkgA ⟨id, kind, state, gst, lev, cab, cat, f, t, til, fol⟩ (.slice A3 n3 c3)) 37 ∧ Below w.heap.size w wr2)
        case atStart => exact ⟨f, Nat.le_refl _, by omega, by omega, rfl, by rw [addP_none (fun i _ => by simp <;> omega)]; exact HR.out, HZ.out, HB.out⟩
        case round =>
          obtain ⟨j, hj0, hj1, hgj, rfl, hR, hZ, hb⟩ := hrel
          have z8 : wr.cell? ⟨z, 8, none⟩ = some (.int .i64 (t : Int)) := hZ.cell rfl
          have z3 : wr.cell? ⟨z, 3, none⟩ = some (.int .i64 gst) := hZ.cell rfl
          by_cases hjt : j < t
          · have hjN : j < N := by omega
            have c0 := hR.cell (i := j) (by rw [addP_len, HML.out]; exact hjN)
            have f0 := hR.free j
            have hgg : 0 ≤ gst ∧ gst ≤ 4 := ⟨by omega, by omega⟩
            have hbd := addP_bd (p := fun i => decide (f ≤ i) && decide (i < j)) HBD.out hgg j
            obtain ⟨v, hv⟩ : ∃ v, v = (addP M (fun i => decide (f ≤ i) && decide (i < j)) gst).getD j 0 := ⟨_, rfl⟩
            rw [← hv] at c0 hbd
            have hwv : IntKind.i64.wrap (v + gst) = v + gst := by have := HN.out; rw [IntKind.wrap_i64]; omega
            have HST := Lib.hid (show addP M (fun i => decide (f ≤ i) && decide (i < j + 1)) gst = (addP M (fun i => decide (f ≤ i) && decide (i < j)) gst).set j (v + gst) by
              rw [hv]
              exact addP_step (by rw [HML.out]; exact hjN) (by simp) (by simp <;> omega) (fun i _ hij => by
                have hd : decide (i < j + 1) = decide (i < j) := by rw [decide_eq_decide]; omega
                rw [hd]))
            have hj2 : (0 : Int) ≤ (j : Int) := Int.natCast_nonneg _
            have hj3 : (j : Int) < (N : Int) := by omega
            have HRX := Lib.hid (fun u => (hR.bel (Below.refl _ wr).drew).set j u)
            have HZX := Lib.hid (fun u => Blk.other (hZ.bel (Below.refl _ wr).drew) (p := ⟨G, j, none⟩) (fun e => hzG e.symm) u)
            have HBX := Lib.hid (fun u => (hb.drew).setCell (p := ⟨G, j, none⟩) hG u)
            clear hv hR hZ hb hbd
            go_wp2_with fail
            go_region_with (fail)
            all_goals
              go_wp2_with fail
              go_roundg (t - (j + 1))
              case measure => omega
              case rel => exact ⟨j + 1, by omega, by omega, by omega, by go_num, by rw [HST.out]; exact HRX.out _, HZX.out _, HBX.out _⟩
          · obtain rfl : j = t := by omega
            have HV := Lib.hid (show soulL (l.take (k + 1)) N = addP M (fun i => decide (f ≤ i) && decide (i < j)) gst by
              rw [HSU.out]
              exact addP_congr (fun i _ => by
                unfold inB
                rw [← HQ.out]
                simp only [Bool.true_and]
                have h1 : decide ((f : Int) ≤ (i : Int)) = decide (f ≤ i) := by rw [decide_eq_decide]; omega
                have h2 : decide ((i : Int) < (j : Int)) = decide (i < j) := by rw [decide_eq_decide]; omega
                rw [h1, h2]))
            have HRY := Lib.hid hR
            clear hR
            clear hZ
            go_wp2_with fail
            go_roundg (nb - (k + 1))
            case measure => omega
            case rel => exact ⟨k + 1, by omega, by omega, by go_num, by rw [HV.out]; exact HRY.out, hb⟩
    · obtain rfl : k = nb := by omega
      rw [List.take_of_length_le (Nat.le_of_eq HN.out)] at hR
      go_wp2_with fail
      go_ret
      exact ⟨G, rfl, hG, hR, hb⟩
end Go.Proofs.YtoilcdgpeilgaaaGreat
namespace Go.Proofs.YtoilcdgpeilgaaaGreat
open Go.RowKit Go.Shelf
structure OkBk (x : Shp) (b : Bkg) : Prop where
  kind : betB b.kind 1 2 = true
  state : betB b.state 1 3 = true
  id : betB b.id 1 999999 = true
  gst : 1 ≤ b.gst ∧ b.gst ≤ 4
  span : spanE ⟨b.frm, b.upto⟩ x.legs = 0
  kindE : kindE x b = 0
  til : betB b.til 0 9999 = true
  opt : b.til ≠ 0 → b.state = 1
  fol : checkFolio b.fol = 0
theorem and_false_of {a b : Bool} (h : ¬ (a && b) = false) : a = true ∧ b = true := by cases a <;> cases b <;> simp_all
theorem not_false_of {a : Bool} (h : ¬ a = false) : a = true := by cases a <;> simp_all
theorem bk_ok {x : Shp} {b : Bkg} (h : ofE x b = 0) : OkBk x b := by
  unfold ofE at h
  by_cases h1 : (betB b.kind 1 2 && betB b.state 1 3) = false
  · rw [if_pos h1] at h; omega
  rw [if_neg h1] at h
  by_cases h2 : (betB b.id 1 999999 && betB b.gst 1 4) = false
  · rw [if_pos h2] at h; omega
  rw [if_neg h2] at h
  by_cases h3 : spanE ⟨b.frm, b.upto⟩ x.legs ≠ 0
  · rw [if_pos h3] at h; exact absurd h h3
  rw [if_neg h3] at h
  by_cases h4 : Go.Proofs.YtoilcdgpeilgaaaGreat.kindE x b ≠ 0
  · rw [if_pos h4] at h; exact absurd h h4
  rw [if_neg h4] at h
  by_cases h5 : betB b.til 0 9999 = false
  · rw [if_pos h5] at h; omega
  rw [if_neg h5] at h
  by_cases h6 : b.til ≠ 0 ∧ b.state ≠ 1
  · rw [if_pos h6] at h; omega
  rw [if_neg h6] at h
  obtain ⟨a1, a2⟩ := and_false_of h1
  obtain ⟨a3, a4⟩ := and_false_of h2
  exact ⟨a1, a2, a3, betB_iff.1 a4, by omega, by omega, not_false_of h5, fun ht => by
    by_cases hs : b.state = 1
    · exact hs
    · exact absurd ⟨ht, hs⟩ h6, h⟩
theorem bk_span {x : Shp} {b : Bkg} (_ : OkShp x) (h : OkBk x b) : 0 ≤ b.frm ∧ b.frm < b.upto ∧ b.upto ≤ x.legs := (span_ok h.span).2.2
theorem shp_legs {x : Shp} (ho : OkShp x) : 1 ≤ x.legs ∧ x.legs ≤ 7 := betB_iff.1 ho.legs
theorem spOk_of {x : Shp} {l : List Bkg} (ho : OkShp x) (h : ∀ b ∈ l, OkBk x b) : SpOk l := fun b hb => by
  have h1 := bk_span ho (h b hb)
  have h2 := shp_legs ho
  exact ⟨h1.1, h1.2.1, by simp only; omega⟩
theorem abOk_of {x : Shp} {l : List Bkg} (ho : OkShp x) (h : ∀ b ∈ l, OkBk x b) : AbOk l x.legs.toNat := fun b hb => by
  have h1 := bk_span ho (h b hb)
  have h2 := shp_legs ho
  exact ⟨⟨h1.1, h1.2.1, by omega⟩, (h b hb).gst⟩
end Go.Proofs.YtoilcdgpeilgaaaGreat
