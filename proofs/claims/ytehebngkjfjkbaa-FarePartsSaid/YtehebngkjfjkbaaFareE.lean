/-
  Fares: price, Down, Late, Penalty.
-/
import Derived.Test.YtehebngkjfjkbaaFareD
namespace Go.Proofs.Ytehebngkjfjkbaa
open Go.RowKit Go.Shelf

def payE (x : Fares) (c many n : Int) : Int := if fareE x c many ≠ 0 then fareE x c many else if betB n 0 100000000 then 0 else 3
def penE (x : Fares) (c many n days : Int) : Int := if payE x c many n ≠ 0 then payE x c many n else if days < 0 then 3 else 0
/-- The penalty of who cancels so many days ahead. -/
def lateI (x : Fares) (days : Int) : Int := idxF (fun b : Band => decide (days ≤ b.days)) x.bands
def lateV (x : Fares) (n days : Int) : Int := if lateI x days < 0 then 0 else partV n (x.bands[(lateI x days).toNat]?.getD default).part

theorem firstErr_zero {f : Nat → Int} : ∀ {n : Nat}, firstErr f n = 0 → ∀ i, i < n → f i = 0 := by
  intro n
  induction n with
  | zero => intro _ i hi; omega
  | succ n ih =>
    intro h i hi
    simp only [firstErr] at h
    by_cases e : firstErr f n = 0
    · rw [if_pos e] at h
      by_cases e2 : i = n
      · rw [e2]; exact h
      · exact ih e i (by omega)
    · rw [if_neg e] at h; exact absurd h e

/-- What is so of fares that are right. -/
structure FareOk (x : Fares) (c many : Int) : Prop where
  cr : 1 ≤ c ∧ c ≤ 5
  mr : 1 ≤ many ∧ many ≤ 7
  len : (x.leg.length : Int) = c
  lens : ∀ y ∈ x.leg, (y.length : Int) = many
  leg : ∀ y ∈ x.leg, ∀ v ∈ y, 0 ≤ v ∧ v ≤ 100000
  a : 0 ≤ x.alone ∧ x.alone ≤ 200
  t : 0 ≤ x.third ∧ x.third ≤ 100
  d : 0 ≤ x.down ∧ x.down ≤ 100
  four : x.bands.length ≤ 4
  band : ∀ b ∈ x.bands, 0 ≤ b.days ∧ b.days ≤ 999 ∧ 0 ≤ b.part ∧ b.part ≤ 100
  ord : ∀ i y z, x.bands[i]? = some y → x.bands[i + 1]? = some z → y.days < z.days ∧ z.part ≤ y.part

theorem bool_true {b : Bool} (h : ¬ b = false) : b = true := by cases b <;> simp_all

theorem bands_ok {l : List Band} (h : bandsE l = 0) : l.length ≤ 4 ∧ (∀ b ∈ l, 0 ≤ b.days ∧ b.days ≤ 999 ∧ 0 ≤ b.part ∧ b.part ≤ 100) ∧ ∀ i y z, l[i]? = some y → l[i + 1]? = some z → y.days < z.days ∧ z.part ≤ y.part := by
  unfold bandsE at h
  by_cases h4 : 4 < l.length
  · rw [if_pos h4] at h; omega
  · rw [if_neg h4] at h
    have hall := firstErr_zero h
    have one : ∀ i y, l[i]? = some y → betB y.days 0 999 = true ∧ betB y.part 0 100 = true ∧ ¬ (0 < i ∧ (y.days ≤ (l[i - 1]?.getD default).days ∨ (l[i - 1]?.getD default).part < y.part)) := by
      intro i y hy
      have hi := hall i (List.getElem?_eq_some_iff.1 hy).1
      unfold bandErr at hi
      rw [hy, Option.getD_some] at hi
      by_cases e1 : betB y.days 0 999 = false ∨ betB y.part 0 100 = false
      · rw [if_pos e1] at hi; omega
      · rw [if_neg e1] at hi
        by_cases e2 : 0 < i ∧ (y.days ≤ (l[i - 1]?.getD default).days ∨ (l[i - 1]?.getD default).part < y.part)
        · rw [if_pos e2] at hi; omega
        · exact ⟨bool_true fun e => e1 (.inl e), bool_true fun e => e1 (.inr e), e2⟩
    refine ⟨by omega, fun b hb => ?_, fun i y z hy hz => ?_⟩
    · obtain ⟨i, hi⟩ := List.getElem?_of_mem hb
      obtain ⟨h1, h2, _⟩ := one i b hi
      have := betB_iff.1 h1
      have := betB_iff.1 h2
      omega
    · obtain ⟨_, _, h3⟩ := one (i + 1) z hz
      rw [show i + 1 - 1 = i by omega, hy, Option.getD_some] at h3
      omega

theorem legs_ok {L : List (List Int)} {c many : Int} (h : legsE L c many = 0) : (L.length : Int) = c ∧ (∀ y ∈ L, (y.length : Int) = many) ∧ ∀ y ∈ L, ∀ v ∈ y, 0 ≤ v ∧ v ≤ 100000 := by
  unfold legsE at h
  by_cases e1 : (L.length : Int) ≠ c ∨ L.any (fun x => ((x.length : Int) != many)) = true
  · rw [if_pos e1] at h; omega
  · rw [if_neg e1] at h
    have e2 : L.any (fun x => ((x.length : Int) != many)) = false := by
      cases e : L.any (fun x => ((x.length : Int) != many)) with
      | false => rfl
      | true => exact absurd (.inr e) e1
    have e3 : L.flatten.any (fun x => !betB x 0 100000) = false := by
      cases e : L.flatten.any (fun x => !betB x 0 100000) with
      | false => rfl
      | true => rw [e] at h; simp at h
    refine ⟨by omega, fun y hy => ?_, fun y hy v hv => ?_⟩
    · have := List.any_eq_false.1 e2 y hy
      simpa using this
    · have := List.any_eq_false.1 e3 v (List.mem_flatten.2 ⟨y, hy, hv⟩)
      exact betB_iff.1 (by simpa using this)

theorem fare_ok {x : Fares} {c many : Int} (h : fareE x c many = 0) : FareOk x c many := by
  unfold fareE at h
  by_cases e1 : betB c 1 5 = false ∨ legsB many = false
  · rw [if_pos e1] at h; omega
  · rw [if_neg e1] at h
    by_cases e2 : legsE x.leg c many = 0
    · rw [if_neg (by simp [e2])] at h
      by_cases e3 : betB x.alone 0 200 = false ∨ betB x.third 0 100 = false ∨ betB x.down 0 100 = false
      · rw [if_pos e3] at h; omega
      · rw [if_neg e3] at h
        obtain ⟨l1, l2, l3⟩ := legs_ok e2
        obtain ⟨b1, b2, b3⟩ := bands_ok h
        exact ⟨betB_iff.1 (bool_true fun e => e1 (.inl e)), betB_iff.1 (bool_true fun e => e1 (.inr e)), l1, l2, l3, betB_iff.1 (bool_true fun e => e3 (.inl e)), betB_iff.1 (bool_true fun e => e3 (.inr (.inl e))), betB_iff.1 (bool_true fun e => e3 (.inr (.inr e))), b1, b2, b3⟩
    · rw [if_pos e2] at h; exact absurd h e2

theorem pay_ok {x : Fares} {c many n : Int} (h : payE x c many n = 0) : FareOk x c many ∧ 0 ≤ n ∧ n ≤ 100000000 := by
  unfold payE at h
  by_cases e : fareE x c many = 0
  · rw [if_neg (by simp [e])] at h
    have : betB n 0 100000000 = true := by
      cases e : betB n 0 100000000 with
      | true => rfl
      | false => rw [e] at h; simp at h
    exact ⟨fare_ok e, betB_iff.1 this⟩
  · rw [if_pos e] at h; exact absurd h e

set_option maxHeartbeats 2000000 in
theorem pay_any (A : Option Addr) (n cap : Nat) (x : Fares) (B : Option Addr) (m cap2 : Nat) (c many p : Int) (w : World) (h : FareR w A n cap x B m cap2) :
    Calls Try.prog 82 #[.agg #[.slice A n cap, .int .i64 x.alone, .int .i64 x.third, .slice B m cap2, .int .i64 x.down], .int .i64 c, .int .i64 many, .int .i64 p] w fun e w' => e = .returned (.int .i64 (payE x c many p)) ∧ Below w.heap.size w w' := by
  have hb0 : Below w.heap.size w (w.alloc (.cells #[.slice A n cap, .int .i64 x.alone, .int .i64 x.third, .slice B m cap2, .int .i64 x.down] 68)) := (Below.refl _ _).alloc (Nat.le_refl _) _
  have hck := fareCheck_any A n cap x B m cap2 c many _ (h.below hb0)
  obtain ⟨r, hr⟩ : ∃ r, r = payE x c many p := ⟨_, rfl⟩
  obtain ⟨q, hq⟩ : ∃ q, q = fareE x c many := ⟨_, rfl⟩
  rw [← hr]
  rw [← hq] at hck
  have HR := Lib.hid (show r = if q ≠ 0 then q else if betB p 0 100000000 then 0 else 3 by rw [hr, hq]; rfl)
  have HK := Lib.hid hck
  clear hr hq hck
  have hw := fun W => within_any p 0 100000000 W
  by_cases h0 : q = 0
  · subst h0
    cases hp : betB p 0 100000000
    all_goals
      rw [hp] at hw
      have HV := Lib.hid hp
      clear hp
      go_enter Try.func82, Try.ntmps82
      go_wp2_with fail
      refine HK.out.mono ?_
      rintro e w1 ⟨rfl, hb1⟩
      replace hb1 := hb0.trans (hb1.mono hb0.size)
      go_wp2_with fail
      refine (hw _).mono ?_
      rintro e w2 ⟨rfl, rfl⟩
      go_wp2_with fail
      go_ret
      exact ⟨retI (by rw [HR.out, if_neg (by simp), HV.out]; rfl), hb1⟩
  · have h1 : (q == 0) = false := by simpa using h0
    have hr : r = q := by rw [HR.out, if_pos h0]
    subst hr
    clear h0
    go_enter Try.func82, Try.ntmps82
    go_wp2_with fail
    refine HK.out.mono ?_
    rintro e w1 ⟨rfl, hb1⟩
    go_wp2_with fail
    go_ret
    exact ⟨rfl, hb0.trans (hb1.mono hb0.size)⟩

set_option maxHeartbeats 2000000 in
theorem Down_any (A : Option Addr) (n cap : Nat) (x : Fares) (B : Option Addr) (m cap2 : Nat) (c many p : Int) (w : World) (h : FareR w A n cap x B m cap2) :
    Calls Try.prog 43 #[.agg #[.slice A n cap, .int .i64 x.alone, .int .i64 x.third, .slice B m cap2, .int .i64 x.down], .int .i64 c, .int .i64 many, .int .i64 p] w fun e w' => e = .returned (.tuple #[.int .i64 (okI (payE x c many p) (partV p x.down)), .int .i64 (payE x c many p)]) ∧ Below w.heap.size w w' := by
  have hb0 : Below w.heap.size w (w.alloc (.cells #[.slice A n cap, .int .i64 x.alone, .int .i64 x.third, .slice B m cap2, .int .i64 x.down] 68)) := (Below.refl _ _).alloc (Nat.le_refl _) _
  have hF : FareAt (w.alloc (.cells #[.slice A n cap, .int .i64 x.alone, .int .i64 x.third, .slice B m cap2, .int .i64 x.down] 68)) w.heap.size A n cap x B m cap2 := FareAt.new w
  have hck := pay_any A n cap x B m cap2 c many p _ (h.below hb0)
  obtain ⟨q, hq⟩ : ∃ q, q = payE x c many p := ⟨_, rfl⟩
  rw [← hq] at hck ⊢
  have HK := Lib.hid hck
  have HQ := Lib.hid hq
  clear hq hck
  by_cases h0 : q = 0
  · subst h0
    obtain ⟨hok, p0, p1⟩ := pay_ok HQ.out.symm
    have hd := hok.d
    have hpt := fun W => part_any p x.down W p0 (by omega) hd.1 (by omega)
    go_enter Try.func43, Try.ntmps43
    go_wp2_with fail
    refine HK.out.mono ?_
    rintro e w1 ⟨rfl, hb1⟩
    have k4 := (hF.below hb1).c4
    go_wp2_with fail
    refine (hpt _).mono ?_
    rintro e w2 ⟨rfl, rfl⟩
    go_wp2_with fail
    go_ret2
    exact ⟨rfl, hb0.trans (hb1.mono hb0.size)⟩
  · have h1 : (q != 0) = true := by simpa using h0
    have H0 := Lib.hid h0
    clear h0
    go_enter Try.func43, Try.ntmps43
    go_wp2_with fail
    refine HK.out.mono ?_
    rintro e w1 ⟨rfl, hb1⟩
    go_wp2_with fail
    go_ret2
    exact ⟨by rw [okI_ne H0.out]; rfl, hb0.trans (hb1.mono hb0.size)⟩

theorem late1_any (x : Band) (days : Int) (b : Nat) (w : World) (hb : w.cell? ⟨b, 0, none⟩ = some (.int .i64 days)) :
    Calls Try.prog 97 #[.agg #[.int .i64 x.days, .int .i64 x.part], .pointer (some ⟨b, 0, none⟩)] w fun e w' => e = .returned (.bool (decide (days ≤ x.days))) ∧ Below w.heap.size w w' := by
  have hlt := cell_lt hb
  go_enter Try.func97, Try.ntmps97
  go_wp2_with fail
  go_ret
  exact ⟨rfl, (Below.refl _ _).alloc (Nat.le_refl _) _⟩

set_option maxHeartbeats 2000000 in
theorem Late_any (A : Option Addr) (n cap : Nat) (x : Fares) (B : Option Addr) (m cap2 : Nat) (p days : Int) (w : World) (h : FareR w A n cap x B m cap2) (p0 : 0 ≤ p) (p1 : p ≤ 100000000) (hbp : ∀ b ∈ x.bands, 0 ≤ b.part ∧ b.part ≤ 100) :
    Calls Try.prog 84 #[.agg #[.slice A n cap, .int .i64 x.alone, .int .i64 x.third, .slice B m cap2, .int .i64 x.down], .int .i64 p, .int .i64 days] w fun e w' => e = .returned (.int .i64 (lateV x p days)) ∧ Below w.heap.size w w' := by
  have hb0 : Below w.heap.size w ((w.alloc (.cells #[.slice A n cap, .int .i64 x.alone, .int .i64 x.third, .slice B m cap2, .int .i64 x.down] 68)).alloc (.cells #[.int .i64 days] 3)) := ((Below.refl _ _).alloc (Nat.le_refl _) _).alloc (by simp) _
  have hF : FareAt ((w.alloc (.cells #[.slice A n cap, .int .i64 x.alone, .int .i64 x.third, .slice B m cap2, .int .i64 x.down] 68)).alloc (.cells #[.int .i64 days] 3)) w.heap.size A n cap x B m cap2 := blk2_0 _ _ _
  have hD : ((w.alloc (.cells #[.slice A n cap, .int .i64 x.alone, .int .i64 x.third, .slice B m cap2, .int .i64 x.down] 68)).alloc (.cells #[.int .i64 days] 3)).heap[w.heap.size + 1]? = some (.cells #[.int .i64 days] 3 (0, 0)) := blk2_1 _ _ _
  have hix := IndexFunc_band B m cap2 x.bands 97 #[.pointer (some ⟨w.heap.size + 1, 0, none⟩)] (fun b => decide (days ≤ b.days)) _ (h.bands.below bandC_good (by omega) hb0) (enters_of Try.func97 (by kernel_rfl) rfl)
    (fun y w1 _ hb => by simpa using late1_any y days (w.heap.size + 1) w1 (cell_of_one ((hb.block _ (by simp)).trans hD)))
  have hlen := h.bands.len
  obtain ⟨r, hr⟩ : ∃ r, r = lateV x p days := ⟨_, rfl⟩
  rw [← hr]
  obtain ⟨q, hq⟩ : ∃ q, q = lateI x days := ⟨_, rfl⟩
  rw [show idxF (fun b : Band => decide (days ≤ b.days)) x.bands = lateI x days from rfl, ← hq] at hix
  have HV := Lib.hid (show r = if q < 0 then 0 else partV p (x.bands[q.toNat]?.getD default).part by rw [hr, hq]; rfl)
  have HI := Lib.hid hix
  cases ha : x.bands.any (fun b => decide (days ≤ b.days))
  · have hq1 : q = -1 := by rw [hq]; exact idxF_none ha
    subst hq1
    have hr0 : r = 0 := by rw [HV.out, if_pos (by decide)]
    subst hr0
    clear hr hq hix ha hlen
    go_enter Try.func84, Try.ntmps84
    go_wp2_with fail
    refine HI.out.mono ?_
    rintro e w1 ⟨rfl, hb1⟩
    go_wp2_with fail
    go_ret
    exact ⟨rfl, hb0.trans (hb1.mono hb0.size)⟩
  · have hlt := idxF_lt ha
    rw [show idxF (fun b : Band => decide (days ≤ b.days)) x.bands = q from hq.symm] at hlt
    obtain ⟨k, rfl⟩ := Int.eq_ofNat_of_zero_le hlt.1
    have hkm : k < m := by omega
    have hbd := h.bands.bd
    clear hr hq hix ha hlen
    go_enter Try.func84, Try.ntmps84
    go_wp2_with fail
    refine HI.out.mono ?_
    rintro e w1 ⟨rfl, hb1⟩
    have k3 := (hF.below hb1).c3
    replace hb1 := hb0.trans (hb1.mono hb0.size)
    obtain ⟨bb, off, y, c0, c1, rfl, hy, ⟨hc, y0, y1⟩, g0, g1⟩ := (h.bands.below bandC_good (by omega) hb1).at2 hkm
    simp only [List.cons.injEq, and_true] at hc
    obtain ⟨rfl, rfl⟩ := hc
    have hyp := hbp y (List.mem_of_getElem? hy)
    have hr : r = partV p y.part := by rw [HV.out, if_neg (by omega)]; simp [hy]
    subst hr
    clear hy
    have hpt := fun W => part_any p y.part W p0 (by omega) hyp.1 (by omega)
    go_wp2_with fail
    refine (hpt _).mono ?_
    rintro e w2 ⟨rfl, rfl⟩
    go_wp2_with fail
    go_ret
    exact ⟨rfl, hb1⟩

set_option maxHeartbeats 2000000 in
theorem Penalty_any (A : Option Addr) (n cap : Nat) (x : Fares) (B : Option Addr) (m cap2 : Nat) (c many p days : Int) (w : World) (h : FareR w A n cap x B m cap2) :
    Calls Try.prog 44 #[.agg #[.slice A n cap, .int .i64 x.alone, .int .i64 x.third, .slice B m cap2, .int .i64 x.down], .int .i64 c, .int .i64 many, .int .i64 p, .int .i64 days] w fun e w' => e = .returned (.tuple #[.int .i64 (okI (penE x c many p days) (lateV x p days)), .int .i64 (penE x c many p days)]) ∧ Below w.heap.size w w' := by
  have hb0 : Below w.heap.size w (w.alloc (.cells #[.slice A n cap, .int .i64 x.alone, .int .i64 x.third, .slice B m cap2, .int .i64 x.down] 68)) := (Below.refl _ _).alloc (Nat.le_refl _) _
  have hF : FareAt (w.alloc (.cells #[.slice A n cap, .int .i64 x.alone, .int .i64 x.third, .slice B m cap2, .int .i64 x.down] 68)) w.heap.size A n cap x B m cap2 := FareAt.new w
  have hck := pay_any A n cap x B m cap2 c many p _ (h.below hb0)
  obtain ⟨r, hr⟩ : ∃ r, r = penE x c many p days := ⟨_, rfl⟩
  obtain ⟨q, hq⟩ : ∃ q, q = payE x c many p := ⟨_, rfl⟩
  rw [← hr]
  rw [← hq] at hck
  have HR := Lib.hid (show r = if q ≠ 0 then q else if days < 0 then 3 else 0 by rw [hr, hq]; rfl)
  have HK := Lib.hid hck
  have HQ := Lib.hid hq
  clear hr hq hck
  by_cases h0 : q = 0
  · subst h0
    obtain ⟨hok, p0, p1⟩ := pay_ok HQ.out.symm
    by_cases hd : days < 0
    · have hr : r = 3 := by rw [HR.out, if_neg (by simp), if_pos hd]
      subst hr
      go_enter Try.func44, Try.ntmps44
      go_wp2_with fail
      refine HK.out.mono ?_
      rintro e w1 ⟨rfl, hb1⟩
      go_wp2_with fail
      go_ret2
      exact ⟨rfl, hb0.trans (hb1.mono hb0.size)⟩
    · have hr : r = 0 := by rw [HR.out, if_neg (by simp), if_neg hd]
      subst hr
      have hbp : ∀ b ∈ x.bands, 0 ≤ b.part ∧ b.part ≤ 100 := fun b hb => by have := hok.band b hb; omega
      have HBP := Lib.hid hbp
      clear hbp
      go_enter Try.func44, Try.ntmps44
      go_wp2_with fail
      refine HK.out.mono ?_
      rintro e w1 ⟨rfl, hb1⟩
      have k0 := (hF.below hb1).c0
      have k1 := (hF.below hb1).c1
      have k2 := (hF.below hb1).c2
      have k3 := (hF.below hb1).c3
      have k4 := (hF.below hb1).c4
      replace hb1 := hb0.trans (hb1.mono hb0.size)
      go_wp2_with fail
      refine (Late_any A n cap x B m cap2 p days _ (h.below hb1) p0 p1 HBP.out).mono ?_
      rintro e w2 ⟨rfl, hb2⟩
      go_wp2_with fail
      go_ret2
      exact ⟨rfl, hb1.trans (hb2.mono hb1.size)⟩
  · have h1 : (q == 0) = false := by simpa using h0
    have h2 : (q != 0) = true := by simpa using h0
    have hr : r = q := by rw [HR.out, if_pos h0]
    subst hr
    have H0 := Lib.hid h0
    clear h0
    go_enter Try.func44, Try.ntmps44
    go_wp2_with fail
    refine HK.out.mono ?_
    rintro e w1 ⟨rfl, hb1⟩
    go_wp2_with fail
    go_ret2
    exact ⟨by rw [okI_ne H0.out]; rfl, hb0.trans (hb1.mono hb0.size)⟩
end Go.Proofs.Ytehebngkjfjkbaa
