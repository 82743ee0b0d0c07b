/-
  Folios: the contract of Check.
-/
import Derived.Test.YtehebngkjfjkbaaFolioC
namespace Go.Proofs.Ytehebngkjfjkbaa
open Go.RowKit Go.Shelf

attribute [local go_sem] Oper.semAt_some

def errAt (l : List Entry) (i : Nat) : Int :=
  if entryE (l[i]?.getD default) ≠ 0 then entryE (l[i]?.getD default) else
  if 0 < i ∧ (l[i]?.getD default).day < (l[i - 1]?.getD default).day then 4 else 0
def sumErr (l : List Entry) (i : Nat) : Int := if amountB (dueOf (l.take (i + 1))) then 0 else 3
/-- What Check answers. -/
def checkFolio (l : List Entry) : Int :=
  if 12 < l.length then 2 else
  if firstErr (errAt l) l.length ≠ 0 then firstErr (errAt l) l.length else firstErr (sumErr l) l.length

theorem leavesM_ret {F : Fence} {n : Nat} {P : Program} {fn : Func} {R : Ending → World → Prop} {a : Act} {w : World} {v : Value} (hd : a.defers = []) (hr : (results fn a.tmps).run P w = .ok v w) (h : R (.returned v) w) :
    bodyPostM F n P fn R .ret a w := by
  show LeavesInM F n P fn a.tmps R a.defers .returning w
  rw [hd]
  exact ⟨v, hr, h⟩

theorem cell_new_l (w : World) (v : Value) (t : TypeId) : (w.alloc (.cells #[v] t)).cell? ⟨w.heap.size, 0, none⟩ = some v ∧ (w.alloc (.cells #[v] t)).frozen? ⟨w.heap.size, 0, none⟩ = false := by
  constructor <;> simp

theorem amountB_of_entry {x : Entry} (h : entryE x = 0) : -100000000 ≤ x.amount ∧ x.amount ≤ 100000000 := by
  unfold entryE at h
  by_cases h1 : x.kind < 1 ∨ 4 < x.kind
  · rw [if_pos h1] at h; omega
  · rw [if_neg h1] at h
    by_cases h2 : x.day < 0 ∨ 9999 < x.day ∨ x.amount < -100000000 ∨ 100000000 < x.amount
    · rw [if_pos h2] at h; omega
    · omega

theorem small_of_check {l : List Entry} (hl : l.length ≤ 12) (h : firstErr (errAt l) l.length = 0) : Small l := by
  refine ⟨by omega, fun x hx => ?_⟩
  obtain ⟨i, hi, rfl⟩ := List.getElem_of_mem hx
  have hall : ∀ n, firstErr (errAt l) n = 0 → ∀ i, i < n → errAt l i = 0 := by
    intro n
    induction n with
    | zero => intro _ i hi; omega
    | succ n ih =>
      intro h i hi
      simp only [firstErr] at h
      by_cases e : firstErr (errAt l) n = 0
      · rw [if_pos e] at h
        by_cases e2 : i = n
        · rw [e2]; exact h
        · exact ih e i (by omega)
      · rw [if_neg e] at h; exact absurd h e
  have h0 := hall _ h i hi
  have : entryE (l[i]?.getD default) = 0 := by
    unfold errAt at h0
    by_cases e : entryE (l[i]?.getD default) = 0
    · exact e
    · rw [if_pos e] at h0; exact h0
  rw [List.getElem?_eq_getElem hi, Option.getD_some] at this
  have := amountB_of_entry this
  omega

theorem Sl.lastBlock {w : World} {A : Option Addr} {n cap : Nat} {l : List Entry} (h : Sl entryC 3 w All A n cap l) : Sl entryC 3 w (fun b => b < w.heap.size) A n cap l :=
  h.keep entryC_good (by omega) fun _ _ hlt => ⟨rfl, hlt⟩

theorem sums_ok (l : List Entry) : ∀ k, (∀ s ∈ pref l k, amountB s = true) → firstErr (sumErr l) k = 0 := by
  intro k
  induction k with
  | zero => intro _; rfl
  | succ k ih =>
    intro h
    rw [pref_succ] at h
    rw [firstErr_succ (ih fun s hs => h s (by simp [hs]))]
    unfold sumErr
    rw [h _ (by simp)]
    rfl
theorem checkFolio_sums {l : List Entry} (h : ¬ 12 < l.length) (h1 : firstErr (errAt l) l.length = 0) : checkFolio l = firstErr (sumErr l) l.length := by
  unfold checkFolio
  rw [if_neg h, if_neg (by rw [h1]; simp)]

set_option maxRecDepth 100000 in
set_option maxHeartbeats 4000000 in
theorem Check_any (A : Option Addr) (n cap : Nat) (l : List Entry) (w : World) (h : Sl entryC 3 w All A n cap l) :
    Calls Try.prog 20 #[.slice A n cap] w fun e w' => e = .returned (.int .i64 (checkFolio l)) ∧ Below w.heap.size w w' := by
  have hbd := h.bd
  have hlen := Lib.hid h.len
  refine callsIn_wide.1 (callsIn_of_wp_marks (n := 9) Try.func20 rfl trivial ?_ rfl)
  simp only [Try.ntmps20, List.size_toArray, List.length_cons, List.length_nil, Nat.reduceAdd, Nat.reduceSub, Array.replicate_succ, Array.replicate_zero, List.push_toArray, List.append_toArray, List.nil_append, List.cons_append]
  refine wpIn_wide.2 ?_
  by_cases hn : 12 < n
  · have hn' : (12 : Int) < (n : Int) := by omega
    go_wp2_with fail
    refine leavesM_ret rfl (v := .int .i64 2) (by simp [results, Try.f20, go_sem]) ⟨retI ?_, ?_⟩
    · unfold checkFolio; rw [hlen.out, if_pos hn]
    · exact ((Below.refl _ _).alloc (Nat.le_refl _) _)
  · have hn' : ¬ (12 : Int) < (n : Int) := by omega
    go_wp2_with fail
    go_loopg [12] n (fun gk i wr => ∃ k : Nat, k ≤ n ∧ n - k ≤ gk ∧ i = .int .i64 k ∧ Aside (firstErr (errAt l) k = 0) ∧ Below w.heap.size w wr ∧ w.heap.size < wr.heap.size ∧ wr.cell? ⟨w.heap.size, 0, none⟩ = some (.int .i64 0) ∧ wr.frozen? ⟨w.heap.size, 0, none⟩ = false)
    case atStart => exact ⟨0, Nat.zero_le _, by omega, rfl, rfl, (Below.refl _ _).alloc (Nat.le_refl _) _, by simp, by simp, by simp⟩
    case round =>
      obtain ⟨k, hk, hgk, rfl, HE, hb, hlt0, hc0, hf0⟩ := hrel
      by_cases hlt : k < n
      · obtain ⟨b, off, x, c0, c1, c2, rfl, hx, ⟨hc, b0, b1, b2⟩, g0, g1, g2⟩ := (h.below entryC_good (by omega) hb).at3 hlt
        simp only [List.cons.injEq, and_true] at hc
        obtain ⟨rfl, rfl, rfl⟩ := hc
        have HX := Lib.hid hx
        clear hx
        go_wp2_with fail
        refine (entry_any _ _ _ _).mono ?_
        rintro e w1 ⟨rfl, hbe⟩
        have hc1 : w1.cell? ⟨w.heap.size, 0, none⟩ = some (.int .i64 0) := (hbe.cell (p := ⟨w.heap.size, 0, none⟩) (by simp; omega)).trans (by rw [World.cell?_alloc_lt (a := ⟨w.heap.size, 0, none⟩) wr _ hlt0]; exact hc0)
        have hf1 : w1.frozen? ⟨w.heap.size, 0, none⟩ = false := (hbe.frozen (p := ⟨w.heap.size, 0, none⟩) (by simp; omega)).trans (by rw [World.frozen?_alloc_old (a := ⟨w.heap.size, 0, none⟩) wr _ (by simp; omega)]; exact hf0)
        have hx1 : w1.cell? ⟨wr.heap.size, 0, none⟩ = some (.int .i64 x.day) := (hbe.cell (p := ⟨wr.heap.size, 0, none⟩) (by simp)).trans (by simp)
        have hb1 : Below w.heap.size w w1 := (hb.alloc hb.size _).trans (hbe.mono (by simp; omega))
        have hlt1 : w.heap.size < w1.heap.size := by have := hbe.size; simp at this; omega
        clear hbe hc0 hf0 g0 g1 g2
        obtain ⟨r, hr⟩ : ∃ r, r = entryE x := ⟨_, rfl⟩
        have HR := Lib.hid hr
        have hr' : entryE { day := x.day, kind := x.kind, amount := x.amount } = r := hr.symm
        rw [hr']
        clear hr hr'
        have fin : ∀ r : Int, errAt l k = r → r ≠ 0 → r = checkFolio l := fun r h1 h2 => by
          unfold checkFolio
          rw [hlen.out, if_neg hn]
          have := firstErr_at (n := n) HE.out (by rw [h1]; exact h2) hlt
          rw [this, h1, if_pos h2]
        have Fin := Lib.hid fin
        clear fin
        by_cases hr0 : r = 0
        · subst hr0
          have herr : (∀ y, l[k - 1]? = some y → 0 < k → errAt l k = if x.day < y.day then 4 else 0) := fun y hy h0 => by
            unfold errAt
            rw [HX.out, Option.getD_some, ← HR.out, if_neg (by simp), hy, Option.getD_some]
            by_cases e : x.day < y.day
            · rw [if_pos ⟨h0, e⟩, if_pos e]
            · rw [if_neg (fun h => e h.2), if_neg e]
          have herr0 : k = 0 → errAt l k = 0 := fun h0 => by
            unfold errAt
            rw [HX.out, Option.getD_some, ← HR.out, if_neg (by simp), if_neg (by omega)]
          have Herr := Lib.hid herr
          have Herr0 := Lib.hid herr0
          clear herr herr0
          rcases k with _ | k
          · go_wp2_with fail
            go_quiet (fail)
            go_wp2_with fail
            go_roundg (n - 1)
            case measure => omega
            case rel => exact ⟨1, by omega, by omega, rfl, (show Aside _ from (firstErr_succ HE.out).trans (Herr0.out (by trivial))), below_drewN hb1 _, hlt1, hc1, hf1⟩
          · obtain ⟨b2, off2, y, d0, d1, d2, hA2, hy, ⟨hc2, y0, y1, y2⟩, e0, e1, e2⟩ := (h.below entryC_good (by omega) hb1).at3 (show k < n by omega)
            injection hA2 with hA2
            injection hA2 with hb2 ho2 _
            subst hb2 ho2
            simp only [List.cons.injEq, and_true] at hc2
            obtain ⟨rfl, rfl, rfl⟩ := hc2
            have Hy := Lib.hid hy
            clear hy e1 e2
            have hw : IntKind.i64.wrap (k : Int) = k := IntWalk.i64_in _ (by omega)
            have hgt : decide ((0 : Int) < (k : Int) + 1) = true := decide_eq_true (by omega)
            by_cases hd : x.day < y.day
            · go_wp2_with fail
              go_quiet (fail)
              go_wp2_with fail
              refine leavesM_ret rfl (v := .int .i64 4) (by simp [results, Try.f20, go_sem, World.cell?_setCell_same (w := w1.drewN _) (h := hc1)]) ⟨retI (Fin.out _ ?_ (by omega)), ?_⟩
              · rw [Herr.out y (by simpa using Hy.out) (by omega), if_pos hd]
              · exact (below_drewN hb1 _).setCell (p := ⟨w.heap.size, 0, none⟩) (Nat.le_refl _) _
            · go_wp2_with fail
              go_quiet (fail)
              go_wp2_with fail
              go_roundg (n - (k + 1 + 1))
              case measure => omega
              case rel => exact ⟨k + 1 + 1, by omega, by omega, by go_num, (show Aside _ from (firstErr_succ HE.out).trans (by rw [Herr.out y (by simpa using Hy.out) (by omega), if_neg (by omega)])), below_drewN hb1 _, hlt1, hc1, hf1⟩
        · have hr1 : (r != 0) = true := by simpa using hr0
          have hr2 : ¬ r = 0 := hr0
          clear hr0
          go_wp2_with fail
          refine leavesM_ret rfl (v := .int .i64 r) (by simp [results, Try.f20, go_sem, World.cell?_setCell_same (h := hc1)]) ⟨retI (Fin.out _ ?_ hr2), ?_⟩
          · unfold errAt
            rw [HX.out, Option.getD_some, ← HR.out, if_pos hr2]
          · exact hb1.setCell (p := ⟨w.heap.size, 0, none⟩) (Nat.le_refl _) _
      · obtain rfl : k = n := by omega
        have hsm := small_of_check (l := l) (by rw [hlen.out]; omega) (by rw [hlen.out]; exact HE.out)
        have h1 := h.lastBlock
        go_wp2_with (go_at_call 60; refine (sums_any _ _ _ _).mono ?_; rintro e w' ⟨rfl, rfl⟩)
        have hB0 : Below w.heap.size w (wr.alloc (.cells #[.slice A k cap] 22)) := hb.alloc hb.size _
        have c2 := cell_new_l wr (.slice A k cap) 22
        have hsl := (h.below entryC_good (by omega) hb).lastBlock.keep (w' := wr.alloc (.cells #[.slice A k cap] 22)) (S' := fun b => b < wr.heap.size) entryC_good (by omega) (fun b hS _ => ⟨Below.heap_alloc _ _ _ hS, hS⟩)
        refine (wpIn_wide (n := 9)).1 ?_
        refine wpIn_rangeFunc_ownF rfl (by omega) (gf := 91) (lb := #[.pointer (some ⟨wr.heap.size, 0, none⟩)]) rfl trivial (enters_of Try.func91 (by kernel_rfl) rfl)
          (sums_stops Fence.wide 8 trivial rfl (by omega) wr.heap.size wr.heap.size A k cap l hsm _ (by simp) c2.1 hsl) belowK_t (belowK_b (by simp)) (Below.refl _ _) (fun _ => rfl)
          (fun pre W => ((∀ s ∈ pre, amountB s = true) ∧ W.cell? ⟨w.heap.size, 0, none⟩ = some (.int .i64 0) ∧ W.frozen? ⟨w.heap.size, 0, none⟩ = false) ∧ Below w.heap.size w W)
          (fun c pre W => (c = .ret ∧ (∃ p s, pre = p ++ [s] ∧ (∀ q ∈ p, amountB q = true) ∧ amountB s = false) ∧ W.cell? ⟨w.heap.size, 0, none⟩ = some (.int .i64 3)) ∧ Below w.heap.size w W)
          (OwnFrom.and (Go.Own.from (fun s A B row hs hg hr => ⟨hs.1, cell_kept hs.2.1 hg hr, (frozen_kept hs.2.1 hg hr).trans hs.2.2⟩) _) (ownFrom_below (Nat.le_refl _) (by simp; omega)))
          (fun c => OwnFrom.and (Go.Own.from (fun s A B row hs hg hr => ⟨hs.1, hs.2.1, cell_kept hs.2.2 hg hr⟩) _) (ownFrom_below (Nat.le_refl _) (by simp; omega)))
          ⟨⟨by simp, by rw [World.cell?_alloc_lt (a := ⟨w.heap.size, 0, none⟩) wr _ hlt0]; exact hc0, by rw [World.frozen?_alloc_old (a := ⟨w.heap.size, 0, none⟩) wr _ (by simp; omega)]; exact hf0⟩, hB0⟩
          ?a1 ?assign ?body ?done ?stop
        case assign =>
          intro l x W K hK
          gi_wp2
          exact hK
        case body =>
          rintro l pre x W ⟨⟨hp, hcr, hfr⟩, hB⟩ _
          cases hq : amountB x with
          | true =>
            have hq' := Lib.hid hq
            clear hq
            gi_wp2_with (refine ⟨trivial, ?_⟩; gi_at_call 61; refine (CallsIn.inRound l (callsIn_wide.2 (amount_any _ _))).mono ?_; rintro e w' ⟨rfl, rfl⟩; rw [hq'.out])
            exact ⟨KeepsOthers.refl _, Below.refl _ _, ⟨fun y hy => (List.mem_append.1 hy).elim (hp y) (fun e => by simp at e; subst e; exact hq'.out), hcr, hfr⟩, hB⟩
          | false =>
            have hq' := Lib.hid hq
            clear hq
            gi_wp2_with (refine ⟨trivial, ?_⟩; gi_at_call 61; refine (CallsIn.inRound l (callsIn_wide.2 (amount_any _ _))).mono ?_; rintro e w' ⟨rfl, rfl⟩; rw [hq'.out])
            exact ⟨KeepsOthers.setCell _ _ _, ⟨rfl, ⟨pre, x, rfl, hp, hq'.out⟩, World.cell?_setCell_same _ _ _ hcr⟩, hB.setCell (p := ⟨w.heap.size, 0, none⟩) (Nat.le_refl _) _⟩
        case done =>
          rintro D ys W hD rfl ⟨⟨hne, hcr, hfr⟩, hB⟩ hK
          have HN := Lib.hid hne
          clear hne
          go_wp2_with fail
          have hK' := (KeepsOthers.setCell W ⟨w.heap.size, 0, none⟩ (.int .i64 0)).same D _ hK rfl
          refine ⟨by simp, .inl ⟨_, _, rfl, run_takeDeferred hK', ?_⟩⟩
          have hc5 := cell_kept (World.cell?_setCell_same (v := .int .i64 0) (h := hcr)) (grownBy_putObj' _ D (.deferred none)) (fun r e => by cases e; exact ⟨_, hK', rfl⟩)
          refine ⟨.int .i64 0, ?_, retI ?_, (hB.setCell (p := ⟨w.heap.size, 0, none⟩) (Nat.le_refl _) _).trans (belowK_b (w := w) (Nat.le_refl _) _ D _ _ (by simp at hD; omega) hK' rfl rfl)⟩
          · simp [results, Try.f20, go_sem, hc5]
          · rw [checkFolio_sums (by rw [hlen.out]; exact hn) (by rw [hlen.out]; exact HE.out), hlen.out, sums_ok _ _ HN.out]
        case stop =>
          rintro D c pre W hD hpre ⟨⟨rfl, hin, hcr⟩, hB⟩ hK
          have HP := Lib.hid hpre
          have HI := Lib.hid hin
          clear hpre hin
          gi_wp2
          refine ⟨by simp, .inl ⟨_, _, rfl, run_takeDeferred hK, ?_⟩⟩
          have hc5 := cell_kept hcr (grownBy_putObj' _ D (.deferred none)) (fun r e => by cases e; exact ⟨_, hK, rfl⟩)
          refine ⟨.int .i64 3, ?_, retI ?_, hB.trans (belowK_b (w := w) (Nat.le_refl _) W D _ _ (by simp at hD; omega) hK rfl rfl)⟩
          · simp [results, Try.f20, go_sem, hc5]
          · rw [checkFolio_sums (by rw [hlen.out]; exact hn) (by rw [hlen.out]; exact HE.out), hlen.out]
            obtain ⟨j, hj, rfl⟩ := HP.out
            obtain ⟨p, s, he, hp, hs⟩ := HI.out
            rw [pref_succ] at he
            obtain ⟨he1, he2⟩ := List.append_inj' he rfl
            injection he2 with he2
            subst he1 he2
            have hj0 : sumErr l j = 3 := by unfold sumErr; rw [hs]; rfl
            rw [firstErr_at (sums_ok _ _ hp) (by rw [hj0]; omega) hj, hj0]
end Go.Proofs.Ytehebngkjfjkbaa
