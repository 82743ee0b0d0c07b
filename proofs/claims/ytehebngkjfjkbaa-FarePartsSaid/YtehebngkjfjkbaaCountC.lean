/-
  Counts: more, Add, Take, Fits, Peak.
-/
import Derived.Test.YtehebngkjfjkbaaCountB
namespace Go.Proofs.Ytehebngkjfjkbaa
open Go.RowKit Go.Shelf

/-- d more on each leg from f to t. -/
def addAt (l : List Int) (f t d : Int) : List Int := l.mapIdx fun i x => if f ≤ (i : Int) ∧ (i : Int) < t then x + d else x

theorem addAt_at (l : List Int) (f t d : Int) (i : Nat) : (addAt l f t d)[i]? = l[i]?.map fun x => if f ≤ (i : Int) ∧ (i : Int) < t then x + d else x := by simp [addAt]
theorem addAt_length (l : List Int) (f t d : Int) : (addAt l f t d).length = l.length := by simp [addAt]
theorem addAt_self (l : List Int) (f d : Int) : addAt l f f d = l := by
  refine List.ext_getElem? fun i => ?_
  rw [addAt_at]
  cases l[i]? with
  | none => rfl
  | some x => simp only [Option.map_some]; rw [if_neg (by omega)]
theorem addAt_next {l : List Int} {f d x : Int} {k : Nat} (hx : l[k]? = some x) : (addAt l f k d)[k]? = some x := by
  rw [addAt_at, hx, Option.map_some, if_neg (by omega)]
theorem addAt_set {l : List Int} {f d x : Int} {k : Nat} (hx : l[k]? = some x) (hf : f ≤ (k : Int)) : (addAt l f k d).set k (x + d) = addAt l f ((k + 1 : Nat) : Int) d := by
  have hk : k < l.length := (List.getElem?_eq_some_iff.1 hx).1
  refine List.ext_getElem? fun i => ?_
  by_cases e : i = k
  · subst e
    rw [List.getElem?_set_self (by rw [addAt_length]; exact hk), addAt_at, hx, Option.map_some, if_pos (by omega)]
  · rw [List.getElem?_set_ne (by omega), addAt_at, addAt_at]
    cases l[i]? with
    | none => rfl
    | some y =>
      simp only [Option.map_some]
      by_cases h : f ≤ (i : Int) ∧ (i : Int) < (k : Int)
      · rw [if_pos h, if_pos (by omega)]
      · rw [if_neg h, if_neg (by omega)]
theorem all_at {p : Int → Bool} {l : List Int} {i : Nat} {x : Int} (h : l.all p = true) (hx : l[i]? = some x) : p x = true := List.all_eq_true.1 h x (List.mem_of_getElem? hx)
theorem not_all {p : Int → Bool} {l : List Int} {i : Nat} {x : Int} (hx : l[i]? = some x) (hp : p x = false) : l.all p = false := by
  cases e : l.all p with
  | false => rfl
  | true => rw [all_at e hx] at hp; cases hp
theorem all_succ {l : List Int} {f d x : Int} {k : Nat} (hx : l[k]? = some x) (hf : f ≤ (k : Int)) (h : (addAt l f k d).all soulsB = true) (hp : soulsB (x + d) = true) : (addAt l f ((k + 1 : Nat) : Int) d).all soulsB = true := by
  rw [← addAt_set hx hf, List.all_eq_true]
  intro y hy
  rcases List.mem_or_eq_of_mem_set hy with hy | rfl
  · exact List.all_eq_true.1 h y hy
  · exact hp

theorem ready_ok {l : List Int} {legs : Int} {s : Span} {m : Int} (h : readyE l legs s m = 0) :
    1 ≤ legs ∧ legs ≤ 7 ∧ (l.length : Int) = legs ∧ l.all soulsB = true ∧ 0 ≤ s.frm ∧ s.frm < s.upto ∧ s.upto ≤ legs ∧ 0 ≤ m ∧ m ≤ 60 := by
  unfold readyE at h
  by_cases h1 : countE l legs = 0
  · rw [if_neg (by simp [h1])] at h
    by_cases h2 : spanE s legs = 0
    · rw [if_neg (by simp [h2])] at h
      have h3 : soulsB m = true := by
        cases e : soulsB m with
        | true => rfl
        | false => rw [e] at h; simp at h
      unfold countE at h1
      by_cases c1 : legsB legs = false
      · rw [if_pos c1] at h1; omega
      · rw [if_neg c1] at h1
        by_cases c2 : (l.length : Int) ≠ legs
        · rw [if_pos c2] at h1; omega
        · rw [if_neg c2] at h1
          have c3 : l.any (fun x => !soulsB x) = false := by
            cases e : l.any (fun x => !soulsB x) with
            | false => rfl
            | true => rw [e] at h1; simp at h1
          have c4 : legsB legs = true := by cases e : legsB legs <;> simp_all
          unfold legsB at c4
          have c5 := betB_iff.1 c4
          have c6 := betB_iff.1 h3
          unfold spanE at h2
          by_cases d1 : legsB legs = false ∨ s.frm < 0 ∨ legs < s.upto
          · rw [if_pos d1] at h2; omega
          · rw [if_neg d1] at h2
            by_cases d2 : s.upto ≤ s.frm
            · rw [if_pos d2] at h2; omega
            · refine ⟨c5.1, c5.2, by omega, ?_, by omega, by omega, by omega, c6.1, c6.2⟩
              rw [List.all_eq_true]
              intro x hx
              have := List.any_eq_false.1 c3 x hx
              simpa using this
    · rw [if_pos h2] at h; exact absurd h h2
  · rw [if_pos h1] at h; exact absurd h h1

/-- What Add and Take answer. -/
def moreE (l : List Int) (legs : Int) (s : Span) (m d why : Int) : Int :=
  if readyE l legs s m ≠ 0 then readyE l legs s m else if (addAt l s.frm s.upto d).all soulsB then 0 else why

theorem soulsB_iff {x : Int} : soulsB x = true ↔ 0 ≤ x ∧ x ≤ 60 := betB_iff

set_option maxHeartbeats 4000000 in
theorem more_any (A : Option Addr) (n cap : Nat) (l : List Int) (legs a b m y why : Int) (w : World) (h : Sl intC 1 w All A n cap l) (hy : y = 1 ∨ y = -1) (hwhy : why ≠ 0) :
    Calls Try.prog 62 #[.slice A n cap, .int .i64 legs, .agg #[.int .i64 a, .int .i64 b], .int .i64 m, .int .i64 y, .int .i64 why] w fun e w' => ∃ v xs, e = .returned (.tuple #[v, .int .i64 (moreE l legs ⟨a, b⟩ m (y * m) why)]) ∧
      Own intC 1 3 w' w.heap.size v (okL (moreE l legs ⟨a, b⟩ m (y * m) why) (addAt l a b (y * m))) xs ∧ Below w.heap.size w w' := by
  have hb0 : Below w.heap.size w (w.alloc (.cells #[.int .i64 a, .int .i64 b] 40)) := (Below.refl _ _).alloc (Nat.le_refl _) _
  have hck := ready_any A n cap l legs a b m _ (h.below intC_good (by omega) hb0)
  obtain ⟨r, hr⟩ : ∃ r, r = readyE l legs ⟨a, b⟩ m := ⟨_, rfl⟩
  obtain ⟨d, hd⟩ : ∃ d, d = y * m := ⟨_, rfl⟩
  obtain ⟨ra, hra⟩ : ∃ ra, ra = moreE l legs ⟨a, b⟩ m d why := ⟨_, rfl⟩
  rw [← hd, ← hra]
  rw [← hr] at hck
  have HK := Lib.hid hck
  clear hck
  have hlen := h.len
  by_cases hr0 : r = 0
  · subst hr0
    obtain ⟨g1, g2, g3, g4, g5, g6, g7, g8, g9⟩ := ready_ok hr.symm
    simp only at g5 g6 g7
    have HRA := Lib.hid (show ra = if (addAt l a b d).all soulsB then 0 else why by rw [hra]; unfold moreE; rw [if_neg (by rw [← hr]; simp)])
    obtain ⟨f, rfl⟩ := Int.eq_ofNat_of_zero_le g5
    obtain ⟨t, rfl⟩ := Int.eq_ofNat_of_zero_le (show 0 ≤ b by omega)
    have hn7 : n ≤ 7 := by omega
    have htn : t ≤ n := by omega
    have hft : f < t := by omega
    have hdb : -60 ≤ d ∧ d ≤ 60 := by rcases hy with rfl | rfl <;> omega
    have HL := Lib.hid hlen
    have HG4 := Lib.hid g4
    have HD := Lib.hid hd
    have HW := Lib.hid hwhy
    have hmul : IntKind.i64.wrap (y * m) = d := by rw [← hd]; exact IntWalk.i64_in _ (by omega)
    clear hr hra hlen g1 g2 g3 g4 g5 g6 g7 hd hwhy
    go_enter Try.func62, Try.ntmps62
    go_wp2_with fail
    refine HK.out.mono ?_
    rintro e w1 ⟨rfl, hb1⟩
    have hx0 : w1.cell? ⟨w.heap.size, 0, none⟩ = some (.int .i64 f) := (hb1.cell (p := ⟨w.heap.size, 0, none⟩) (by simp)).trans (by simp)
    have hx1 : w1.cell? ⟨w.heap.size, 1, none⟩ = some (.int .i64 t) := (hb1.cell (p := ⟨w.heap.size, 1, none⟩) (by simp)).trans (by simp)
    have hlt0 : w.heap.size < w1.heap.size := cell_lt hx0
    replace hb1 := hb0.trans (hb1.mono hb0.size)
    go_wp2_with fail
    refine (Clone_int _ _ _ l _ (h.below intC_good (by omega) hb1) (by omega)).mono ?_
    rintro e w2 ⟨v, xs, rfl, hown, hb2⟩
    obtain ⟨g, cap2, rfl, hg1, hg2⟩ := hown.form (by have := HL.out; omega)
    rw [HL.out] at hown ⊢
    have hx0' : w2.cell? ⟨w.heap.size, 0, none⟩ = some (.int .i64 f) := (hb2.cell (p := ⟨w.heap.size, 0, none⟩) hlt0).trans hx0
    go_wp2_with fail
    go_loopg [16] t (fun gk i wr => ∃ k : Nat, f ≤ k ∧ k ≤ t ∧ t - k ≤ gk ∧ i = .int .i64 k ∧ Aside ((addAt l f k d).all soulsB = true) ∧ (∃ xs, Own intC 1 3 wr w1.heap.size (.slice (some ⟨g, 0, none⟩) n cap2) (addAt l f k d) xs) ∧ Below w1.heap.size w1 wr)
    case atStart => exact ⟨f, Nat.le_refl _, by omega, by omega, rfl, by show _ = _; rw [addAt_self]; exact HG4.out, ⟨xs, by rw [addAt_self]; exact hown⟩, hb2⟩
    case round =>
      obtain ⟨k, hfk, hk, hgk, rfl, HA, ⟨xs3, hown3⟩, hb3⟩ := hrel
      have hx3 : wr.cell? ⟨w.heap.size, 1, none⟩ = some (.int .i64 t) := (hb3.cell (p := ⟨w.heap.size, 1, none⟩) hlt0).trans hx1
      by_cases hlt : k < t
      · obtain ⟨x, hx⟩ : ∃ x, l[k]? = some x := ⟨_, List.getElem?_eq_getElem (by have := HL.out; omega)⟩
        obtain ⟨cs, ⟨hc, hxi⟩, _, hcell, hfr⟩ := hown3.cells (addAt_next (f := f) (d := d) hx)
        subst hc
        have c0 := hcell 0 _ rfl
        simp only [Nat.mul_one, Nat.add_zero] at c0
        have f0 := hfr k
        have hxb := soulsB_iff.1 (all_at HG4.out hx)
        have hgw := cell_lt c0
        have HP := Lib.hid (hown3.put intC_flat (j := 0) (x' := x + d) (u := .int .i64 (x + d)) (addAt_next (f := f) (d := d) hx) (by omega) (fun w S cs hc => ⟨by rw [hc.1]; rfl, .of (by omega) (by omega)⟩))
        have HX := Lib.hid hx
        clear hx hcell hfr hown3
        have hso := fun W => souls_any (x + d) W
        cases hq : soulsB (x + d)
        · rw [hq] at hso
          have HQ := Lib.hid hq
          clear hq
          go_wp2_with (go_at_call 64; refine (hso _).mono ?_; rintro e w' ⟨rfl, rfl⟩)
          go_ret2
          have hra : ra = why := by rw [HRA.out, not_all (i := k) (x := x + d) (by rw [addAt_at, HX.out, Option.map_some, if_pos (by omega)]) HQ.out]; rfl
          subst hra
          exact ⟨_, _, rfl, by rw [okL_ne HW.out]; exact Own.nil _ _ _ _ _, hb1.trans ((hb3.setCell (p := ⟨g, k, none⟩) hg1 _).mono hb1.size)⟩
        · rw [hq] at hso
          have HQ := Lib.hid hq
          clear hq
          go_wp2_with (go_at_call 64; refine (hso _).mono ?_; rintro e w' ⟨rfl, rfl⟩)
          go_roundg (t - (k + 1))
          case measure => omega
          case rel => exact ⟨k + 1, by omega, by omega, by omega, by go_num, all_succ HX.out (by omega) HA HQ.out, ⟨_, by rw [← addAt_set HX.out (by omega)]; simpa using HP.out⟩, hb3.setCell (p := ⟨g, k, none⟩) hg1 _⟩
      · have : k = t := by omega
        subst this
        go_wp2_with fail
        go_ret2
        have hra : ra = 0 := by rw [HRA.out, HA]; rfl
        subst hra
        exact ⟨_, _, rfl, hown3.mono intC_good hb1.size, hb1.trans (hb3.mono hb1.size)⟩
  · have hr' : (r != 0) = true := by simpa using hr0
    have he : ra = r := by rw [hra]; unfold moreE; rw [if_pos (by rw [← hr]; exact hr0)]; exact hr.symm
    subst he
    have HR := Lib.hid hr0
    clear hr hra hr0 hlen
    go_enter Try.func62, Try.ntmps62
    go_wp2_with fail
    refine HK.out.mono ?_
    rintro e w1 ⟨rfl, hb1⟩
    go_wp2_with fail
    go_ret2
    exact ⟨_, _, rfl, by rw [okL_ne HR.out]; exact Own.nil _ _ _ _ _, hb0.trans (hb1.mono hb0.size)⟩

theorem countAdd_any (A : Option Addr) (n cap : Nat) (l : List Int) (legs a b m : Int) (w : World) (h : Sl intC 1 w All A n cap l) :
    Calls Try.prog 23 #[.slice A n cap, .int .i64 legs, .agg #[.int .i64 a, .int .i64 b], .int .i64 m] w fun e w' => ∃ v xs, e = .returned (.tuple #[v, .int .i64 (moreE l legs ⟨a, b⟩ m m 2)]) ∧
      Own intC 1 3 w' w.heap.size v (okL (moreE l legs ⟨a, b⟩ m m 2) (addAt l a b m)) xs ∧ Below w.heap.size w w' := by
  have hb0 : Below w.heap.size w (w.alloc (.cells #[.int .i64 a, .int .i64 b] 40)) := (Below.refl _ _).alloc (Nat.le_refl _) _
  have hm := more_any A n cap l legs a b m (1) 2 _ (h.below intC_good (by omega) hb0) (by decide) (by decide)
  rw [show (1) * m = m by omega] at hm
  have HM := Lib.hid hm
  clear hm
  go_enter Try.func23, Try.ntmps23
  go_wp2_with fail
  refine HM.out.mono ?_
  rintro e w1 ⟨v, xs, rfl, hown, hb1⟩
  go_wp2_with fail
  go_ret2
  exact ⟨_, _, rfl, hown.mono intC_good hb0.size, hb0.trans (hb1.mono hb0.size)⟩
theorem countTake_any (A : Option Addr) (n cap : Nat) (l : List Int) (legs a b m : Int) (w : World) (h : Sl intC 1 w All A n cap l) :
    Calls Try.prog 24 #[.slice A n cap, .int .i64 legs, .agg #[.int .i64 a, .int .i64 b], .int .i64 m] w fun e w' => ∃ v xs, e = .returned (.tuple #[v, .int .i64 (moreE l legs ⟨a, b⟩ m (-m) 4)]) ∧
      Own intC 1 3 w' w.heap.size v (okL (moreE l legs ⟨a, b⟩ m (-m) 4) (addAt l a b (-m))) xs ∧ Below w.heap.size w w' := by
  have hb0 : Below w.heap.size w (w.alloc (.cells #[.int .i64 a, .int .i64 b] 40)) := (Below.refl _ _).alloc (Nat.le_refl _) _
  have hm := more_any A n cap l legs a b m (-1) 4 _ (h.below intC_good (by omega) hb0) (by decide) (by decide)
  rw [show (-1) * m = (-m) by omega] at hm
  have HM := Lib.hid hm
  clear hm
  go_enter Try.func24, Try.ntmps24
  go_wp2_with fail
  refine HM.out.mono ?_
  rintro e w1 ⟨v, xs, rfl, hown, hb1⟩
  go_wp2_with fail
  go_ret2
  exact ⟨_, _, rfl, hown.mono intC_good hb0.size, hb0.trans (hb1.mono hb0.size)⟩
end Go.Proofs.Ytehebngkjfjkbaa
