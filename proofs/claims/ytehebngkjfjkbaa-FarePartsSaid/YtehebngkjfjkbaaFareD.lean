/-
  Fares: Check, price, Price, Down, Penalty.
-/
import Derived.Test.YtehebngkjfjkbaaFareC
namespace Go.Proofs.Ytehebngkjfjkbaa
open Go.RowKit Go.Shelf

/-- A block that holds fares. -/
def FareAt (w : World) (b : Nat) (A : Option Addr) (n cap : Nat) (x : Fares) (B : Option Addr) (m cap2 : Nat) : Prop :=
  w.heap[b]? = some (.cells #[.slice A n cap, .int .i64 x.alone, .int .i64 x.third, .slice B m cap2, .int .i64 x.down] 68 (0, 0))
section
variable {w w' : World} {b : Nat} {A : Option Addr} {n cap : Nat} {x : Fares} {B : Option Addr} {m cap2 : Nat}
theorem FareAt.c0 (h : FareAt w b A n cap x B m cap2) : w.cell? ⟨b, 0, none⟩ = some (.slice A n cap) := cell_of_blk h rfl
theorem FareAt.c1 (h : FareAt w b A n cap x B m cap2) : w.cell? ⟨b, 1, none⟩ = some (.int .i64 x.alone) := cell_of_blk h rfl
theorem FareAt.c2 (h : FareAt w b A n cap x B m cap2) : w.cell? ⟨b, 2, none⟩ = some (.int .i64 x.third) := cell_of_blk h rfl
theorem FareAt.c3 (h : FareAt w b A n cap x B m cap2) : w.cell? ⟨b, 3, none⟩ = some (.slice B m cap2) := cell_of_blk h rfl
theorem FareAt.c4 (h : FareAt w b A n cap x B m cap2) : w.cell? ⟨b, 4, none⟩ = some (.int .i64 x.down) := cell_of_blk h rfl
theorem FareAt.below (h : FareAt w b A n cap x B m cap2) (hb : Below w.heap.size w w') : FareAt w' b A n cap x B m cap2 := (hb.block _ (lt_of_block h)).trans h
theorem FareAt.new (w : World) : FareAt (w.alloc (.cells #[.slice A n cap, .int .i64 x.alone, .int .i64 x.third, .slice B m cap2, .int .i64 x.down] 68)) w.heap.size A n cap x B m cap2 := blk1 _ _
end

/-- What a fare's slices are. -/
structure FareR (w : World) (A : Option Addr) (n cap : Nat) (x : Fares) (B : Option Addr) (m cap2 : Nat) : Prop where
  leg : Sl (slC intC 1) 1 w All A n cap x.leg
  bands : Sl bandC 2 w All B m cap2 x.bands
  a : InI x.alone
  t : InI x.third
  d : InI x.down
theorem FareR.below {w w' : World} {A : Option Addr} {n cap : Nat} {x : Fares} {B : Option Addr} {m cap2 : Nat} (h : FareR w A n cap x B m cap2) (hb : Below w.heap.size w w') : FareR w' A n cap x B m cap2 :=
  ⟨h.leg.below (slC_good intC_good (by omega)) (by omega) hb, h.bands.below bandC_good (by omega) hb, h.a, h.t, h.d⟩

set_option maxHeartbeats 4000000 in
theorem fareCheck_any (A : Option Addr) (n cap : Nat) (x : Fares) (B : Option Addr) (m cap2 : Nat) (c many : Int) (w : World) (h : FareR w A n cap x B m cap2) :
    Calls Try.prog 51 #[.agg #[.slice A n cap, .int .i64 x.alone, .int .i64 x.third, .slice B m cap2, .int .i64 x.down], .int .i64 c, .int .i64 many] w fun e w' => e = .returned (.int .i64 (fareE x c many)) ∧ Below w.heap.size w w' := by
  have hb0 : Below w.heap.size w (w.alloc (.cells #[.slice A n cap, .int .i64 x.alone, .int .i64 x.third, .slice B m cap2, .int .i64 x.down] 68)) := (Below.refl _ _).alloc (Nat.le_refl _) _
  have hF : FareAt (w.alloc (.cells #[.slice A n cap, .int .i64 x.alone, .int .i64 x.third, .slice B m cap2, .int .i64 x.down] 68)) w.heap.size A n cap x B m cap2 := FareAt.new w
  obtain ⟨r, hr⟩ : ∃ r, r = fareE x c many := ⟨_, rfl⟩
  rw [← hr]
  have HR := Lib.hid hr
  clear hr
  have hw1 := fun W => within_any c 1 5 W
  have hw2 := fun W => legs_any many W
  cases hq1 : betB c 1 5
  · have hr : r = 3 := by rw [HR.out]; unfold fareE; rw [if_pos (.inl hq1)]
    subst hr
    rw [hq1] at hw1
    clear hq1
    go_enter Try.func51, Try.ntmps51
    go_wp2_with fail
    refine (hw1 _).mono ?_
    rintro e w1 ⟨rfl, rfl⟩
    go_wp2_with fail
    go_ret
    exact ⟨rfl, hb0⟩
  · rw [hq1] at hw1
    cases hq2 : legsB many
    · have hr : r = 3 := by rw [HR.out]; unfold fareE; rw [if_pos (.inr hq2)]
      subst hr
      rw [hq2] at hw2
      clear hq1 hq2
      go_enter Try.func51, Try.ntmps51
      go_wp2_with fail
      refine (hw1 _).mono ?_
      rintro e w1 ⟨rfl, rfl⟩
      go_wp2_with fail
      refine (hw2 _).mono ?_
      rintro e w1 ⟨rfl, rfl⟩
      go_wp2_with fail
      go_ret
      exact ⟨rfl, hb0⟩
    · rw [hq2] at hw2
      have HV := Lib.hid (show r = if legsE x.leg c many ≠ 0 then legsE x.leg c many else if betB x.alone 0 200 = false ∨ betB x.third 0 100 = false ∨ betB x.down 0 100 = false then 3 else bandsE x.bands by rw [HR.out]; unfold fareE; rw [if_neg (by rw [hq1, hq2]; simp)])
      have hl := legs_any' A n cap x.leg c many _ (h.leg.below (slC_good intC_good (by omega)) (by omega) hb0) (betB_iff.1 hq1).2 (betB_iff.1 hq2).2
      obtain ⟨q, hq⟩ : ∃ q, q = legsE x.leg c many := ⟨_, rfl⟩
      rw [← hq] at hl HV
      have HL := Lib.hid hl
      clear hl hq hq1 hq2 HR
      by_cases hq0 : q = 0
      · subst hq0
        have HV2 := Lib.hid (show r = if betB x.alone 0 200 = false ∨ betB x.third 0 100 = false ∨ betB x.down 0 100 = false then 3 else bandsE x.bands by rw [HV.out]; rw [if_neg (by simp)])
        clear HV
        have hwa := fun W => within_any x.alone 0 200 W
        have hwt := fun W => within_any x.third 0 100 W
        have hwd := fun W => within_any x.down 0 100 W
        cases qa : betB x.alone 0 200
        · have hr : r = 3 := by rw [HV2.out, if_pos (.inl qa)]
          subst hr
          rw [qa] at hwa
          clear qa
          go_enter Try.func51, Try.ntmps51
          go_wp2_with fail
          refine (hw1 _).mono ?_
          rintro e w1 ⟨rfl, rfl⟩
          go_wp2_with fail
          refine (hw2 _).mono ?_
          rintro e w1 ⟨rfl, rfl⟩
          go_wp2_with fail
          refine HL.out.mono ?_
          rintro e w1 ⟨rfl, hb1⟩
          have k1 := (hF.below hb1).c1
          go_wp2_with fail
          refine (hwa _).mono ?_
          rintro e w2 ⟨rfl, rfl⟩
          go_wp2_with fail
          go_ret
          exact ⟨rfl, hb0.trans (hb1.mono hb0.size)⟩
        · rw [qa] at hwa
          cases qt : betB x.third 0 100
          · have hr : r = 3 := by rw [HV2.out, if_pos (.inr (.inl qt))]
            subst hr
            rw [qt] at hwt
            clear qa qt
            go_enter Try.func51, Try.ntmps51
            go_wp2_with fail
            refine (hw1 _).mono ?_
            rintro e w1 ⟨rfl, rfl⟩
            go_wp2_with fail
            refine (hw2 _).mono ?_
            rintro e w1 ⟨rfl, rfl⟩
            go_wp2_with fail
            refine HL.out.mono ?_
            rintro e w1 ⟨rfl, hb1⟩
            have k1 := (hF.below hb1).c1
            have k2 := (hF.below hb1).c2
            go_wp2_with fail
            refine (hwa _).mono ?_
            rintro e w2 ⟨rfl, rfl⟩
            go_wp2_with fail
            refine (hwt _).mono ?_
            rintro e w2 ⟨rfl, rfl⟩
            go_wp2_with fail
            go_ret
            exact ⟨rfl, hb0.trans (hb1.mono hb0.size)⟩
          · rw [qt] at hwt
            cases qd : betB x.down 0 100
            · have hr : r = 3 := by rw [HV2.out, if_pos (.inr (.inr qd))]
              subst hr
              rw [qd] at hwd
              clear qa qt qd
              go_enter Try.func51, Try.ntmps51
              go_wp2_with fail
              refine (hw1 _).mono ?_
              rintro e w1 ⟨rfl, rfl⟩
              go_wp2_with fail
              refine (hw2 _).mono ?_
              rintro e w1 ⟨rfl, rfl⟩
              go_wp2_with fail
              refine HL.out.mono ?_
              rintro e w1 ⟨rfl, hb1⟩
              have k1 := (hF.below hb1).c1
              have k2 := (hF.below hb1).c2
              have k4 := (hF.below hb1).c4
              go_wp2_with fail
              refine (hwa _).mono ?_
              rintro e w2 ⟨rfl, rfl⟩
              go_wp2_with fail
              refine (hwt _).mono ?_
              rintro e w2 ⟨rfl, rfl⟩
              go_wp2_with fail
              refine (hwd _).mono ?_
              rintro e w2 ⟨rfl, rfl⟩
              go_wp2_with fail
              go_ret
              exact ⟨rfl, hb0.trans (hb1.mono hb0.size)⟩
            · have HV3 := Lib.hid (show r = bandsE x.bands by rw [HV2.out, if_neg (by rw [qa, qt, qd]; simp)])
              rw [qd] at hwd
              clear qa qt qd
              go_enter Try.func51, Try.ntmps51
              go_wp2_with fail
              refine (hw1 _).mono ?_
              rintro e w1 ⟨rfl, rfl⟩
              go_wp2_with fail
              refine (hw2 _).mono ?_
              rintro e w1 ⟨rfl, rfl⟩
              go_wp2_with fail
              refine HL.out.mono ?_
              rintro e w1 ⟨rfl, hb1⟩
              have k1 := (hF.below hb1).c1
              have k2 := (hF.below hb1).c2
              have k3 := (hF.below hb1).c3
              have k4 := (hF.below hb1).c4
              replace hb1 := hb0.trans (hb1.mono hb0.size)
              go_wp2_with fail
              refine (hwa _).mono ?_
              rintro e w2 ⟨rfl, rfl⟩
              go_wp2_with fail
              refine (hwt _).mono ?_
              rintro e w2 ⟨rfl, rfl⟩
              go_wp2_with fail
              refine (hwd _).mono ?_
              rintro e w2 ⟨rfl, rfl⟩
              go_wp2_with fail
              have hbd := bands_any _ _ _ _ _ (h.bands.below bandC_good (by omega) hb1)
              rw [← HV3.out] at hbd
              refine hbd.mono ?_
              rintro e w3 ⟨rfl, hb3⟩
              go_wp2_with fail
              go_ret
              exact ⟨rfl, hb1.trans (hb3.mono hb1.size)⟩
      · have hq1 : (q != 0) = true := by simpa using hq0
        have hr : r = q := by rw [HV.out, if_pos hq0]
        subst hr
        clear hq0 HV
        go_enter Try.func51, Try.ntmps51
        go_wp2_with fail
        refine (hw1 _).mono ?_
        rintro e w1 ⟨rfl, rfl⟩
        go_wp2_with fail
        refine (hw2 _).mono ?_
        rintro e w1 ⟨rfl, rfl⟩
        go_wp2_with fail
        refine HL.out.mono ?_
        rintro e w1 ⟨rfl, hb1⟩
        go_wp2_with fail
        go_ret
        exact ⟨rfl, hb0.trans (hb1.mono hb0.size)⟩
end Go.Proofs.Ytehebngkjfjkbaa
