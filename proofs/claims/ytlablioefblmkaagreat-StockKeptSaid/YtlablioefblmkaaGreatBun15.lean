/-
  Words, laws and contracts: FareE, FareF, FareG, FareJ, Raw, StockA.
-/
import Derived.Test.YtlablioefblmkaaGreatBun14
/-
  Fares: price, Down, Late, Penalty.
-/
namespace Go.Proofs.YtlablioefblmkaaGreat
open Go.RowKit Go.Shelf

def payE (x : Fares) (c many n : Int) : Int := if fareE x c many ≠ 0 then fareE x c many else if betB n 0 100000000 then 0 else 3
def penE (x : Fares) (c many n days : Int) : Int := if payE x c many n ≠ 0 then payE x c many n else if days < 0 then 3 else 0
/-- The penalty of who cancels so many days ahead. -/
def lateI (x : Fares) (days : Int) : Int := idxF (fun b : Band => decide (days ≤ b.days)) x.bands
def lateV (x : Fares) (n days : Int) : Int := if lateI x days < 0 then 0 else partV n (x.bands[(lateI x days).toNat]?.getD default).part

theorem firstErr_zero {f : Nat → Int} : ∀ {n : Nat}, firstErr f n = 0 → ∀ i, i < n → f i = 0 := by
  intro n
  induction n with
  | zero => intro _ i hi; omega
  | succ n ih =>
    intro h i hi
    simp only [firstErr] at h
    by_cases e : firstErr f n = 0
    · rw [if_pos e] at h
      by_cases e2 : i = n
      · rw [e2]; exact h
      · exact ih e i (by omega)
    · rw [if_neg e] at h; exact absurd h e

/-- What is so of fares that are right. -/
structure FareOk (x : Fares) (c many : Int) : Prop where
  cr : 1 ≤ c ∧ c ≤ 5
  mr : 1 ≤ many ∧ many ≤ 7
  len : (x.leg.length : Int) = c
  lens : ∀ y ∈ x.leg, (y.length : Int) = many
  leg : ∀ y ∈ x.leg, ∀ v ∈ y, 0 ≤ v ∧ v ≤ 100000
  a : 0 ≤ x.alone ∧ x.alone ≤ 200
  t : 0 ≤ x.third ∧ x.third ≤ 100
  d : 0 ≤ x.down ∧ x.down ≤ 100
  four : x.bands.length ≤ 4
  band : ∀ b ∈ x.bands, 0 ≤ b.days ∧ b.days ≤ 999 ∧ 0 ≤ b.part ∧ b.part ≤ 100
  ord : ∀ i y z, x.bands[i]? = some y → x.bands[i + 1]? = some z → y.days < z.days ∧ z.part ≤ y.part

theorem bool_true {b : Bool} (h : ¬ b = false) : b = true := by cases b <;> simp_all

theorem bands_ok {l : List Band} (h : bandsE l = 0) : l.length ≤ 4 ∧ (∀ b ∈ l, 0 ≤ b.days ∧ b.days ≤ 999 ∧ 0 ≤ b.part ∧ b.part ≤ 100) ∧ ∀ i y z, l[i]? = some y → l[i + 1]? = some z → y.days < z.days ∧ z.part ≤ y.part := by
  unfold bandsE at h
  by_cases h4 : 4 < l.length
  · rw [if_pos h4] at h; omega
  · rw [if_neg h4] at h
    have hall := firstErr_zero h
    have one : ∀ i y, l[i]? = some y → betB y.days 0 999 = true ∧ betB y.part 0 100 = true ∧ ¬ (0 < i ∧ (y.days ≤ (l[i - 1]?.getD default).days ∨ (l[i - 1]?.getD default).part < y.part)) := by
      intro i y hy
      have hi := hall i (List.getElem?_eq_some_iff.1 hy).1
      unfold bandErr at hi
      rw [hy, Option.getD_some] at hi
      by_cases e1 : betB y.days 0 999 = false ∨ betB y.part 0 100 = false
      · rw [if_pos e1] at hi; omega
      · rw [if_neg e1] at hi
        by_cases e2 : 0 < i ∧ (y.days ≤ (l[i - 1]?.getD default).days ∨ (l[i - 1]?.getD default).part < y.part)
        · rw [if_pos e2] at hi; omega
        · exact ⟨bool_true fun e => e1 (.inl e), bool_true fun e => e1 (.inr e), e2⟩
    refine ⟨by omega, fun b hb => ?_, fun i y z hy hz => ?_⟩
    · obtain ⟨i, hi⟩ := List.getElem?_of_mem hb
      obtain ⟨h1, h2, _⟩ := one i b hi
      have := betB_iff.1 h1
      have := betB_iff.1 h2
      omega
    · obtain ⟨_, _, h3⟩ := one (i + 1) z hz
      rw [show i + 1 - 1 = i by omega, hy, Option.getD_some] at h3
      omega

theorem legs_ok {L : List (List Int)} {c many : Int} (h : legsE L c many = 0) : (L.length : Int) = c ∧ (∀ y ∈ L, (y.length : Int) = many) ∧ ∀ y ∈ L, ∀ v ∈ y, 0 ≤ v ∧ v ≤ 100000 := by
  unfold legsE at h
  by_cases e1 : (L.length : Int) ≠ c ∨ L.any (fun x => ((x.length : Int) != many)) = true
  · rw [if_pos e1] at h; omega
  · rw [if_neg e1] at h
    have e2 : L.any (fun x => ((x.length : Int) != many)) = false := by
      cases e : L.any (fun x => ((x.length : Int) != many)) with
      | false => rfl
      | true => exact absurd (.inr e) e1
    have e3 : L.flatten.any (fun x => !betB x 0 100000) = false := by
      cases e : L.flatten.any (fun x => !betB x 0 100000) with
      | false => rfl
      | true => rw [e] at h; simp at h
    refine ⟨by omega, fun y hy => ?_, fun y hy v hv => ?_⟩
    · have := List.any_eq_false.1 e2 y hy
      simpa using this
    · have := List.any_eq_false.1 e3 v (List.mem_flatten.2 ⟨y, hy, hv⟩)
      exact betB_iff.1 (by simpa using this)

theorem fare_ok {x : Fares} {c many : Int} (h : fareE x c many = 0) : FareOk x c many := by
  unfold fareE at h
  by_cases e1 : betB c 1 5 = false ∨ legsB many = false
  · rw [if_pos e1] at h; omega
  · rw [if_neg e1] at h
    by_cases e2 : legsE x.leg c many = 0
    · rw [if_neg (by simp [e2])] at h
      by_cases e3 : betB x.alone 0 200 = false ∨ betB x.third 0 100 = false ∨ betB x.down 0 100 = false
      · rw [if_pos e3] at h; omega
      · rw [if_neg e3] at h
        obtain ⟨l1, l2, l3⟩ := legs_ok e2
        obtain ⟨b1, b2, b3⟩ := bands_ok h
        exact ⟨betB_iff.1 (bool_true fun e => e1 (.inl e)), betB_iff.1 (bool_true fun e => e1 (.inr e)), l1, l2, l3, betB_iff.1 (bool_true fun e => e3 (.inl e)), betB_iff.1 (bool_true fun e => e3 (.inr (.inl e))), betB_iff.1 (bool_true fun e => e3 (.inr (.inr e))), b1, b2, b3⟩
    · rw [if_pos e2] at h; exact absurd h e2

theorem pay_ok {x : Fares} {c many n : Int} (h : payE x c many n = 0) : FareOk x c many ∧ 0 ≤ n ∧ n ≤ 100000000 := by
  unfold payE at h
  by_cases e : fareE x c many = 0
  · rw [if_neg (by simp [e])] at h
    have : betB n 0 100000000 = true := by
      cases e : betB n 0 100000000 with
      | true => rfl
      | false => rw [e] at h; simp at h
    exact ⟨fare_ok e, betB_iff.1 this⟩
  · rw [if_pos e] at h; exact absurd h e

set_option maxHeartbeats 2000000 in
theorem pay_any (A : Option Addr) (n cap : Nat) (x : Fares) (B : Option Addr) (m cap2 : Nat) (c many p : Int) (w : World) (h : FareR w A n cap x B m cap2) :
    Calls Tryz.prog 198 #[.agg #[.slice A n cap, .int .i64 x.alone, .int .i64 x.third, .slice B m cap2, .int .i64 x.down], .int .i64 c, .int .i64 many, .int .i64 p] w fun e w' => e = .returned (.int .i64 (payE x c many p)) ∧ Below w.heap.size w w' := by
  have hb0 : Below w.heap.size w (w.alloc (.cells #[.slice A n cap, .int .i64 x.alone, .int .i64 x.third, .slice B m cap2, .int .i64 x.down] 29)) := (Below.refl _ _).alloc (Nat.le_refl _) _
  have hck := fareCheck_any A n cap x B m cap2 c many _ (h.below hb0)
  obtain ⟨r, hr⟩ : ∃ r, r = payE x c many p := ⟨_, rfl⟩
  obtain ⟨q, hq⟩ : ∃ q, q = fareE x c many := ⟨_, rfl⟩
  rw [← hr]
  rw [← hq] at hck
  have HR := Lib.hid (show r = if q ≠ 0 then q else if betB p 0 100000000 then 0 else 3 by rw [hr, hq]; rfl)
  have HK := Lib.hid hck
  clear hr hq hck
  have hw := fun W => within_any p 0 100000000 W
  by_cases h0 : q = 0
  · subst h0
    cases hp : betB p 0 100000000
    all_goals
      rw [hp] at hw
      have HV := Lib.hid hp
      clear hp
      go_enter Tryz.func198, Tryz.ntmps198
      go_wp2_with fail
      refine HK.out.mono ?_
      rintro e w1 ⟨rfl, hb1⟩
      replace hb1 := hb0.trans (hb1.mono hb0.size)
      go_wp2_with fail
      refine (hw _).mono ?_
      rintro e w2 ⟨rfl, rfl⟩
      go_wp2_with fail
      go_ret
      exact ⟨retI (by rw [HR.out, if_neg (by simp), HV.out]; rfl), hb1⟩
  · have h1 : (q == 0) = false := by simpa using h0
    have hr : r = q := by rw [HR.out, if_pos h0]
    subst hr
    clear h0
    go_enter Tryz.func198, Tryz.ntmps198
    go_wp2_with fail
    refine HK.out.mono ?_
    rintro e w1 ⟨rfl, hb1⟩
    go_wp2_with fail
    go_ret
    exact ⟨rfl, hb0.trans (hb1.mono hb0.size)⟩

theorem late1_any (x : Band) (days : Int) (b : Nat) (w : World) (hb : w.cell? ⟨b, 0, none⟩ = some (.int .i64 days)) :
    Calls Tryz.prog 238 #[.agg #[.int .i64 x.days, .int .i64 x.part], .pointer (some ⟨b, 0, none⟩)] w fun e w' => e = .returned (.bool (decide (days ≤ x.days))) ∧ Below w.heap.size w w' := by
  have hlt := cell_lt hb
  go_enter Tryz.func238, Tryz.ntmps238
  go_wp2_with fail
  go_ret
  exact ⟨rfl, (Below.refl _ _).alloc (Nat.le_refl _) _⟩

set_option maxHeartbeats 2000000 in
theorem Late_any (A : Option Addr) (n cap : Nat) (x : Fares) (B : Option Addr) (m cap2 : Nat) (p days : Int) (w : World) (h : FareR w A n cap x B m cap2) (p0 : 0 ≤ p) (p1 : p ≤ 100000000) (hbp : ∀ b ∈ x.bands, 0 ≤ b.part ∧ b.part ≤ 100) :
    Calls Tryz.prog 199 #[.agg #[.slice A n cap, .int .i64 x.alone, .int .i64 x.third, .slice B m cap2, .int .i64 x.down], .int .i64 p, .int .i64 days] w fun e w' => e = .returned (.int .i64 (lateV x p days)) ∧ Below w.heap.size w w' := by
  have hb0 : Below w.heap.size w ((w.alloc (.cells #[.slice A n cap, .int .i64 x.alone, .int .i64 x.third, .slice B m cap2, .int .i64 x.down] 29)).alloc (.cells #[.int .i64 days] 3)) := ((Below.refl _ _).alloc (Nat.le_refl _) _).alloc (by simp) _
  have hF : FareAt ((w.alloc (.cells #[.slice A n cap, .int .i64 x.alone, .int .i64 x.third, .slice B m cap2, .int .i64 x.down] 29)).alloc (.cells #[.int .i64 days] 3)) w.heap.size A n cap x B m cap2 := blk2_0 _ _ _
  have hD : ((w.alloc (.cells #[.slice A n cap, .int .i64 x.alone, .int .i64 x.third, .slice B m cap2, .int .i64 x.down] 29)).alloc (.cells #[.int .i64 days] 3)).heap[w.heap.size + 1]? = some (.cells #[.int .i64 days] 3 (0, 0)) := blk2_1 _ _ _
  have hix := IndexFunc_band B m cap2 x.bands 238 #[.pointer (some ⟨w.heap.size + 1, 0, none⟩)] (fun b => decide (days ≤ b.days)) _ (h.bands.below bandC_good (by omega) hb0) (enters_of Tryz.func238 (by kernel_rfl) rfl)
    (fun y w1 _ hb => by simpa using late1_any y days (w.heap.size + 1) w1 (cell_of_one ((hb.block _ (by simp)).trans hD)))
  have hlen := h.bands.len
  obtain ⟨r, hr⟩ : ∃ r, r = lateV x p days := ⟨_, rfl⟩
  rw [← hr]
  obtain ⟨q, hq⟩ : ∃ q, q = lateI x days := ⟨_, rfl⟩
  rw [show idxF (fun b : Band => decide (days ≤ b.days)) x.bands = lateI x days from rfl, ← hq] at hix
  have HV := Lib.hid (show r = if q < 0 then 0 else partV p (x.bands[q.toNat]?.getD default).part by rw [hr, hq]; rfl)
  have HI := Lib.hid hix
  cases ha : x.bands.any (fun b => decide (days ≤ b.days))
  · have hq1 : q = -1 := by rw [hq]; exact idxF_none ha
    subst hq1
    have hr0 : r = 0 := by rw [HV.out, if_pos (by decide)]
    subst hr0
    clear hr hq hix ha hlen
    go_enter Tryz.func199, Tryz.ntmps199
    go_wp2_with fail
    refine HI.out.mono ?_
    rintro e w1 ⟨rfl, hb1⟩
    go_wp2_with fail
    go_ret
    exact ⟨rfl, hb0.trans (hb1.mono hb0.size)⟩
  · have hlt := idxF_lt ha
    rw [show idxF (fun b : Band => decide (days ≤ b.days)) x.bands = q from hq.symm] at hlt
    obtain ⟨k, rfl⟩ := Int.eq_ofNat_of_zero_le hlt.1
    have hkm : k < m := by omega
    have hbd := h.bands.bd
    clear hr hq hix ha hlen
    go_enter Tryz.func199, Tryz.ntmps199
    go_wp2_with fail
    refine HI.out.mono ?_
    rintro e w1 ⟨rfl, hb1⟩
    have k3 := (hF.below hb1).c3
    replace hb1 := hb0.trans (hb1.mono hb0.size)
    obtain ⟨bb, off, y, c0, c1, rfl, hy, ⟨hc, y0, y1⟩, g0, g1⟩ := (h.bands.below bandC_good (by omega) hb1).at2 hkm
    simp only [List.cons.injEq, and_true] at hc
    obtain ⟨rfl, rfl⟩ := hc
    have hyp := hbp y (List.mem_of_getElem? hy)
    have hr : r = partV p y.part := by rw [HV.out, if_neg (by omega)]; simp [hy]
    subst hr
    clear hy
    have hpt := fun W => part_any p y.part W p0 (by omega) hyp.1 (by omega)
    go_wp2_with fail
    refine (hpt _).mono ?_
    rintro e w2 ⟨rfl, rfl⟩
    go_wp2_with fail
    go_ret
    exact ⟨rfl, hb1⟩

set_option maxHeartbeats 2000000 in
theorem Penalty_any (A : Option Addr) (n cap : Nat) (x : Fares) (B : Option Addr) (m cap2 : Nat) (c many p days : Int) (w : World) (h : FareR w A n cap x B m cap2) :
    Calls Tryz.prog 165 #[.agg #[.slice A n cap, .int .i64 x.alone, .int .i64 x.third, .slice B m cap2, .int .i64 x.down], .int .i64 c, .int .i64 many, .int .i64 p, .int .i64 days] w fun e w' => e = .returned (.tuple #[.int .i64 (okI (penE x c many p days) (lateV x p days)), .int .i64 (penE x c many p days)]) ∧ Below w.heap.size w w' := by
  have hb0 : Below w.heap.size w (w.alloc (.cells #[.slice A n cap, .int .i64 x.alone, .int .i64 x.third, .slice B m cap2, .int .i64 x.down] 29)) := (Below.refl _ _).alloc (Nat.le_refl _) _
  have hF : FareAt (w.alloc (.cells #[.slice A n cap, .int .i64 x.alone, .int .i64 x.third, .slice B m cap2, .int .i64 x.down] 29)) w.heap.size A n cap x B m cap2 := FareAt.new w
  have hck := pay_any A n cap x B m cap2 c many p _ (h.below hb0)
  obtain ⟨r, hr⟩ : ∃ r, r = penE x c many p days := ⟨_, rfl⟩
  obtain ⟨q, hq⟩ : ∃ q, q = payE x c many p := ⟨_, rfl⟩
  rw [← hr]
  rw [← hq] at hck
  have HR := Lib.hid (show r = if q ≠ 0 then q else if days < 0 then 3 else 0 by rw [hr, hq]; rfl)
  have HK := Lib.hid hck
  have HQ := Lib.hid hq
  clear hr hq hck
  by_cases h0 : q = 0
  · subst h0
    obtain ⟨hok, p0, p1⟩ := pay_ok HQ.out.symm
    by_cases hd : days < 0
    · have hr : r = 3 := by rw [HR.out, if_neg (by simp), if_pos hd]
      subst hr
      go_enter Tryz.func165, Tryz.ntmps165
      go_wp2_with fail
      refine HK.out.mono ?_
      rintro e w1 ⟨rfl, hb1⟩
      go_wp2_with fail
      go_ret2
      exact ⟨rfl, hb0.trans (hb1.mono hb0.size)⟩
    · have hr : r = 0 := by rw [HR.out, if_neg (by simp), if_neg hd]
      subst hr
      have hbp : ∀ b ∈ x.bands, 0 ≤ b.part ∧ b.part ≤ 100 := fun b hb => by have := hok.band b hb; omega
      have HBP := Lib.hid hbp
      clear hbp
      go_enter Tryz.func165, Tryz.ntmps165
      go_wp2_with fail
      refine HK.out.mono ?_
      rintro e w1 ⟨rfl, hb1⟩
      have k0 := (hF.below hb1).c0
      have k1 := (hF.below hb1).c1
      have k2 := (hF.below hb1).c2
      have k3 := (hF.below hb1).c3
      have k4 := (hF.below hb1).c4
      replace hb1 := hb0.trans (hb1.mono hb0.size)
      go_wp2_with fail
      refine (Late_any A n cap x B m cap2 p days _ (h.below hb1) p0 p1 HBP.out).mono ?_
      rintro e w2 ⟨rfl, hb2⟩
      go_wp2_with fail
      go_ret2
      exact ⟨rfl, hb1.trans (hb2.mono hb1.size)⟩
  · have h1 : (q == 0) = false := by simpa using h0
    have h2 : (q != 0) = true := by simpa using h0
    have hr : r = q := by rw [HR.out, if_pos h0]
    subst hr
    have H0 := Lib.hid h0
    clear h0
    go_enter Tryz.func165, Tryz.ntmps165
    go_wp2_with fail
    refine HK.out.mono ?_
    rintro e w1 ⟨rfl, hb1⟩
    go_wp2_with fail
    go_ret2
    exact ⟨by rw [okI_ne H0.out]; rfl, hb0.trans (hb1.mono hb0.size)⟩
end Go.Proofs.YtlablioefblmkaaGreat
/-
  Fares: Of, Price.
-/
namespace Go.Proofs.YtlablioefblmkaaGreat
open Go.RowKit Go.Shelf

/-- What so many guests pay, of a sum of legs. -/
def paysV (x : Fares) (s g : Int) : Int := if g = 1 then s + partV s x.alone else 2 * s + (g - 2) * partV s x.third
/-- The price of a span. -/
def ofV (x : Fares) (cat : Int) (s : Span) (g : Int) : Int := paysV x (seg (x.leg[cat.toNat]?.getD []) s.frm s.upto).sum g
def priceE (x : Fares) (c many cat : Int) (s : Span) (g : Int) : Int :=
  if fareE x c many ≠ 0 then fareE x c many else if betB cat 0 (c - 1) = false then 3 else if spanE s many ≠ 0 then spanE s many else if betB g 1 4 then 0 else 3

theorem sum_bd {l : List Int} {M : Nat} (h : ∀ v ∈ l, 0 ≤ v ∧ v ≤ (M : Int)) : 0 ≤ l.sum ∧ l.sum ≤ ((l.length * M : Nat) : Int) := by
  induction l with
  | nil => simp
  | cons y l ih =>
    have h1 := h y (by simp)
    have h2 := ih fun v hv => h v (by simp [hv])
    rw [List.sum_cons, List.length_cons, Nat.add_mul]
    omega
theorem sum_take_succ {l : List Int} {k : Nat} {y : Int} (h : l[k]? = some y) : (l.take (k + 1)).sum = (l.take k).sum + y := by rw [take_snoc h]; simp
theorem partV_bd {s h : Int} (h0 : 0 ≤ s) (h1 : s ≤ 1000000) (h2 : 0 ≤ h) (h3 : h ≤ 200) : 0 ≤ partV s h ∧ partV s h ≤ 2000001 := by
  have := mul_bd (N := 1000000) (H := 200) h0 h1 h2 h3
  unfold partV
  omega

set_option maxHeartbeats 4000000 in
theorem Of_any (A : Option Addr) (n cap : Nat) (x : Fares) (B : Option Addr) (m cap2 : Nat) (k f t : Nat) (g : Int) (L : List Int) (w : World) (h : FareR w A n cap x B m cap2) (hL : x.leg[k]? = some L) (hft : f < t) (ht : t ≤ L.length) (h7 : L.length ≤ 7)
    (hv : ∀ v ∈ L, 0 ≤ v ∧ v ≤ 100000) (ha : 0 ≤ x.alone ∧ x.alone ≤ 200) (hth : 0 ≤ x.third ∧ x.third ≤ 100) (hg : 1 ≤ g ∧ g ≤ 4) :
    Calls Tryz.prog 202 #[.agg #[.slice A n cap, .int .i64 x.alone, .int .i64 x.third, .slice B m cap2, .int .i64 x.down], .int .i64 k, .agg #[.int .i64 f, .int .i64 t], .int .i64 g] w fun e w' => e = .returned (.int .i64 (paysV x (seg L f t).sum g)) ∧ Below w.heap.size w w' := by
  have hb0 : Below w.heap.size w ((w.alloc (.cells #[.slice A n cap, .int .i64 x.alone, .int .i64 x.third, .slice B m cap2, .int .i64 x.down] 29)).alloc (.cells #[.int .i64 f, .int .i64 t] 39)) := ((Below.refl _ _).alloc (Nat.le_refl _) _).alloc (by simp) _
  have hF : FareAt ((w.alloc (.cells #[.slice A n cap, .int .i64 x.alone, .int .i64 x.third, .slice B m cap2, .int .i64 x.down] 29)).alloc (.cells #[.int .i64 f, .int .i64 t] 39)) w.heap.size A n cap x B m cap2 := blk2_0 _ _ _
  have hS : SpanAt ((w.alloc (.cells #[.slice A n cap, .int .i64 x.alone, .int .i64 x.third, .slice B m cap2, .int .i64 x.down] 29)).alloc (.cells #[.int .i64 f, .int .i64 t] 39)) (w.heap.size + 1) f t := blk2_1 _ _ _
  have hkn : k < n := by have := (List.getElem?_eq_some_iff.1 hL).1; have := h.leg.len; omega
  have hbd := h.leg.bd
  obtain ⟨b, off, L', c0, hA, hL', ⟨B', q, c2, hc, hsl⟩, g0⟩ := ((h.below hb0).leg).at1 hkn
  obtain rfl : L' = L := by rw [hL] at hL'; injection hL' with e; exact e.symm
  simp only [List.cons.injEq, and_true] at hc
  subst hc
  subst hA
  have hq := hsl.len
  have hqc := hsl.le
  have hqb := hsl.max
  have htq : t ≤ q := by omega
  have hsg := hsl.segm hft htq
  have hsb : ∀ j, 0 ≤ ((seg L' f t).take j).sum ∧ ((seg L' f t).take j).sum ≤ 700000 := fun j => by
    have h1 := sum_bd (l := (seg L' f t).take j) (M := 100000) fun v hv' => hv v (seg_mem (List.mem_of_mem_take hv'))
    have h2 : ((seg L' f t).take j).length ≤ 7 := by rw [List.length_take]; have := hsg.len; omega
    omega
  have HV := Lib.hid (fun v (hv' : v ∈ seg L' f t) => hv v (seg_mem hv'))
  have HSB := Lib.hid hsb
  have HLEN := Lib.hid hsg.len
  have hlf : (f : Int) ≤ (t : Int) := by omega
  have htc : (t : Int) ≤ (c2 : Int) := by omega
  have hkz : (k : Int) < (n : Int) := by omega
  have j0 := hF.c0
  have j1 := hF.c1
  have j2 := hF.c2
  have s0 := hS.c0
  have s1 := hS.c1
  have hc63 : c2 ≤ 9223372036854775807 := by unfold maxLen at hqb; omega
  clear hL hL' hv hsb hq hqb
  go_enter Tryz.func202, Tryz.ntmps202
  go_upto_region 2 with (fail)
  go_quiet (fail)
  go_wp2_with fail
  obtain ⟨b3, off3, hA3⟩ : ∃ b3 off3, Option.map (fun a : Addr => a.add f) B' = some ⟨b3, off3, none⟩ := by
    obtain ⟨b3, off3, _, _, h3, _⟩ := hsg.at1 (k := 0) (by omega)
    exact ⟨b3, off3, h3⟩
  rw [hA3] at hsg ⊢
  go_loopg [9, 23] (t - f) (fun gk s i wr => ∃ j : Nat, j ≤ t - f ∧ (t - f) - j ≤ gk ∧ i = .int .i64 j ∧ s = .int .i64 ((seg L' f t).take j).sum ∧ wr = ((w.alloc (.cells #[.slice (some ⟨b, off, none⟩) n cap, .int .i64 x.alone, .int .i64 x.third, .slice B m cap2, .int .i64 x.down] 29)).alloc (.cells #[.int .i64 f, .int .i64 t] 39)).drewN nq)
  case atStart => exact ⟨0, Nat.zero_le _, by omega, rfl, rfl, rfl⟩
  case round =>
    obtain ⟨j, hj, hgj, rfl, rfl, rfl⟩ := hrel
    by_cases hlt : j < t - f
    · obtain ⟨b4, off4, v, d0, hA4, hv, ⟨hd, v0⟩, e0⟩ := (hsg.below intC_good (by omega) (below_drewN (Below.refl _ _) nq)).at1 hlt
      simp only [List.cons.injEq, and_true] at hd
      subst hd
      have hvb := HV.out v (List.mem_of_getElem? hv)
      have HS := Lib.hid (sum_take_succ hv)
      have hs0 := HSB.out j
      injection hA4 with hA4
      injection hA4 with e1 e2 _
      subst e1 e2
      clear hv
      go_wp2_with fail
      go_roundg ((t - f) - (j + 1))
      case measure => omega
      case rel => exact ⟨j + 1, by omega, by omega, by go_num, by rw [HS.out], rfl⟩
    · have : j = t - f := by omega
      subst this
      have hs0 := HSB.out (t - f)
      have HT := Lib.hid (List.take_of_length_le (Nat.le_of_eq HLEN.out))
      rw [HT.out] at hs0
      obtain ⟨S, hS'⟩ : ∃ S, S = (seg L' f t).sum := ⟨_, rfl⟩
      rw [HT.out]
      rw [← hS'] at hs0 ⊢
      have HP := Lib.hid (show paysV x (seg L' f t).sum g = if g = 1 then S + partV S x.alone else 2 * S + (g - 2) * partV S x.third by rw [← hS']; rfl)
      clear hS'
      have hpa := fun W => part_any S x.alone W hs0.1 (by omega) ha.1 (by omega)
      have hpt := fun W => part_any S x.third W hs0.1 (by omega) hth.1 (by omega)
      have ba := partV_bd hs0.1 (by omega) ha.1 ha.2
      have bt := partV_bd hs0.1 (by omega) hth.1 (show x.third ≤ 200 by omega)
      generalize partV S x.alone = pa at *
      generalize partV S x.third = pt at *
      rcases (show g = 1 ∨ g = 2 ∨ g = 3 ∨ g = 4 by omega) with rfl | rfl | rfl | rfl
      · go_wp2_with fail
        refine (hpa _).mono ?_
        rintro e w2 ⟨rfl, rfl⟩
        go_wp2_with fail
        go_ret
        exact ⟨retI (by rw [HP.out]; simp), below_drewN hb0 _⟩
      all_goals
        go_wp2_with fail
        refine (hpt _).mono ?_
        rintro e w2 ⟨rfl, rfl⟩
        go_wp2_with fail
        go_ret
        exact ⟨retI (by rw [HP.out, if_neg (by omega)]; try omega), below_drewN hb0 _⟩

/-- What may be asked of a price that is right. -/
theorem price_ok {x : Fares} {c many cat : Int} {s : Span} {g : Int} (h : priceE x c many cat s g = 0) :
    FareOk x c many ∧ 0 ≤ cat ∧ cat < c ∧ 0 ≤ s.frm ∧ s.frm < s.upto ∧ s.upto ≤ many ∧ 1 ≤ g ∧ g ≤ 4 := by
  unfold priceE at h
  by_cases e1 : fareE x c many = 0
  · rw [if_neg (by simp [e1])] at h
    by_cases e2 : betB cat 0 (c - 1) = false
    · rw [if_pos e2] at h; omega
    · rw [if_neg e2] at h
      by_cases e3 : spanE s many = 0
      · rw [if_neg (by simp [e3])] at h
        have e4 : betB g 1 4 = true := by
          cases e : betB g 1 4 with
          | true => rfl
          | false => rw [e] at h; simp at h
        have h2 := betB_iff.1 (bool_true e2)
        have h4 := betB_iff.1 e4
        unfold spanE at e3
        by_cases d1 : legsB many = false ∨ s.frm < 0 ∨ many < s.upto
        · rw [if_pos d1] at e3; omega
        · rw [if_neg d1] at e3
          by_cases d2 : s.upto ≤ s.frm
          · rw [if_pos d2] at e3; omega
          · exact ⟨fare_ok e1, by omega, by omega, by omega, by omega, by omega, h4.1, h4.2⟩
      · rw [if_pos e3] at h; exact absurd h e3
  · rw [if_pos e1] at h; exact absurd h e1

end Go.Proofs.YtlablioefblmkaaGreat
/-
  Fares: the references PartOf, PenaltyOf, PriceOf.
-/
namespace Go.Proofs.YtlablioefblmkaaGreat
open Go.RowKit Go.Shelf

theorem PartOf_any (n h : Int) (w : World) (h0 : 0 ≤ n) (h1 : n ≤ 1000000000) (h2 : 0 ≤ h) (h3 : h ≤ 1000) : Calls Tryz.prog 174 #[.int .i64 n, .int .i64 h] w fun e w' => e = .returned (.int .i64 (partV n h)) ∧ w' = w := by
  have hm := mul_bd (N := 1000000000) (H := 1000) h0 h1 h2 h3
  obtain ⟨q, hq⟩ : ∃ q, q = n * h := ⟨_, rfl⟩
  have hp : partV n h = (q + 50) / 100 := by rw [hq]; rfl
  rw [hp]
  rw [← hq] at hm
  have hw : wrap64 (n * h) = q := by rw [← hq]; unfold wrap64; omega
  have hw2 : IntKind.i64.wrap (n * h) = q := by rw [← hq]; exact IntWalk.i64_in _ (by omega)
  have t1 : q.tdiv 100 = q / 100 := Int.tdiv_eq_ediv_of_nonneg hm.1
  have t2 : q.tmod 100 = q % 100 := Int.tmod_eq_emod_of_nonneg hm.1
  clear hq hp
  go_enter Tryz.func174, Tryz.ntmps174
  go_wp2
  all_goals go_ret
  all_goals exact ⟨retI (by omega), rfl⟩

set_option maxHeartbeats 2000000 in
theorem PenaltyOf_any (A : Option Addr) (n cap : Nat) (x : Fares) (B : Option Addr) (m cap2 : Nat) (p days : Int) (w : World) (h : FareR w A n cap x B m cap2) (p0 : 0 ≤ p) (p1 : p ≤ 100000000) (hbp : ∀ b ∈ x.bands, 0 ≤ b.part ∧ b.part ≤ 100) :
    Calls Tryz.prog 166 #[.agg #[.slice A n cap, .int .i64 x.alone, .int .i64 x.third, .slice B m cap2, .int .i64 x.down], .int .i64 p, .int .i64 days] w fun e w' => e = .returned (.int .i64 (lateV x p days)) ∧ Below w.heap.size w w' := by
  have hb0 : Below w.heap.size w (w.alloc (.cells #[.slice A n cap, .int .i64 x.alone, .int .i64 x.third, .slice B m cap2, .int .i64 x.down] 29)) := (Below.refl _ _).alloc (Nat.le_refl _) _
  have hbd := h.bands.bd
  have HL := Lib.hid h.bands.len
  have HBP := Lib.hid hbp
  clear hbp
  go_enter Tryz.func166, Tryz.ntmps166
  go_wp2_with fail
  go_loopg [7] m (fun gk i wr => ∃ k : Nat, k ≤ m ∧ m - k ≤ gk ∧ i = .int .i64 k ∧ Aside ((x.bands.take k).any (fun b => decide (days ≤ b.days)) = false) ∧ wr = w.alloc (.cells #[.slice A n cap, .int .i64 x.alone, .int .i64 x.third, .slice B m cap2, .int .i64 x.down] 29))
  case atStart => exact ⟨0, Nat.zero_le _, by omega, rfl, rfl, rfl⟩
  case round =>
    obtain ⟨k, hk, hgk, rfl, HA, rfl⟩ := hrel
    by_cases hlt : k < m
    · obtain ⟨b, off, y, c0, c1, rfl, hy, ⟨hc, b0, b1⟩, g0, g1⟩ := (h.bands.below bandC_good (by omega) hb0).at2 hlt
      simp only [List.cons.injEq, and_true] at hc
      obtain ⟨rfl, rfl⟩ := hc
      have hyp := HBP.out y (List.mem_of_getElem? hy)
      have HY := Lib.hid hy
      clear hy
      have hpt := fun W => PartOf_any p y.part W p0 (by omega) hyp.1 (by omega)
      by_cases hd : days ≤ y.days
      · have HI := Lib.hid (show lateI x days = (k : Int) from idxF_at (p := fun b : Band => decide (days ≤ b.days)) HA HY.out (decide_eq_true hd))
        go_wp2_with fail
        refine (hpt _).mono ?_
        rintro e w2 ⟨rfl, rfl⟩
        go_wp2_with fail
        go_ret
        refine ⟨retI ?_, hb0⟩
        unfold lateV
        rw [HI.out, if_neg (by omega)]
        simp [HY.out]
      · have HD := Lib.hid (decide_eq_false hd)
        go_wp2_with fail
        go_roundg (m - (k + 1))
        case measure => omega
        case rel => exact ⟨k + 1, by omega, by omega, by go_num, by show _ = _; rw [any_take_succ HY.out, HA, HD.out]; rfl, rfl⟩
    · have : k = m := by omega
      subst this
      have HT := Lib.hid (List.take_of_length_le (Nat.le_of_eq HL.out))
      have HI := Lib.hid (show lateI x days = -1 from idxF_none (by rw [← HT.out]; exact HA))
      go_wp2_with fail
      go_ret
      exact ⟨retI (by unfold lateV; rw [HI.out]; rfl), hb0⟩

/-- What the first j - 1 guests pay together. -/
def upto (s pt : Int) (j : Nat) : Int := if j ≤ 1 then 0 else if j = 2 then s else if j = 3 then 2 * s else if j = 4 then 2 * s + pt else 2 * s + 2 * pt

set_option maxHeartbeats 4000000 in
theorem PriceOf_any (A : Option Addr) (n cap : Nat) (x : Fares) (B : Option Addr) (m cap2 : Nat) (k f t g : Nat) (L : List Int) (w : World) (h : FareR w A n cap x B m cap2) (hL : x.leg[k]? = some L) (hft : f < t) (ht : t ≤ L.length) (h7 : L.length ≤ 7)
    (hv : ∀ v ∈ L, 0 ≤ v ∧ v ≤ 100000) (ha : 0 ≤ x.alone ∧ x.alone ≤ 200) (hth : 0 ≤ x.third ∧ x.third ≤ 100) (hg1 : 1 ≤ g) (hg4 : g ≤ 4) :
    Calls Tryz.prog 112 #[.agg #[.slice A n cap, .int .i64 x.alone, .int .i64 x.third, .slice B m cap2, .int .i64 x.down], .int .i64 k, .agg #[.int .i64 f, .int .i64 t], .int .i64 g] w fun e w' => e = .returned (.int .i64 (paysV x (seg L f t).sum g)) ∧ Below w.heap.size w w' := by
  have hb0 : Below w.heap.size w ((w.alloc (.cells #[.slice A n cap, .int .i64 x.alone, .int .i64 x.third, .slice B m cap2, .int .i64 x.down] 29)).alloc (.cells #[.int .i64 f, .int .i64 t] 39)) := ((Below.refl _ _).alloc (Nat.le_refl _) _).alloc (by simp) _
  have hF : FareAt ((w.alloc (.cells #[.slice A n cap, .int .i64 x.alone, .int .i64 x.third, .slice B m cap2, .int .i64 x.down] 29)).alloc (.cells #[.int .i64 f, .int .i64 t] 39)) w.heap.size A n cap x B m cap2 := blk2_0 _ _ _
  have hS : SpanAt ((w.alloc (.cells #[.slice A n cap, .int .i64 x.alone, .int .i64 x.third, .slice B m cap2, .int .i64 x.down] 29)).alloc (.cells #[.int .i64 f, .int .i64 t] 39)) (w.heap.size + 1) f t := blk2_1 _ _ _
  have hkn : k < n := by have := (List.getElem?_eq_some_iff.1 hL).1; have := h.leg.len; omega
  have hbd := h.leg.bd
  obtain ⟨b, off, L', c0, hA, hL', ⟨B', q, c2, hc, hsl⟩, g0⟩ := ((h.below hb0).leg).at1 hkn
  obtain rfl : L' = L := by rw [hL] at hL'; injection hL' with e; exact e.symm
  simp only [List.cons.injEq, and_true] at hc
  subst hc
  subst hA
  have hq := hsl.len
  have hqb := hsl.bd
  have htq : t ≤ q := by omega
  have hseg := seg_length (l := L') (f := f) (t := t) ht
  have hsb : ∀ j, 0 ≤ ((seg L' f t).take j).sum ∧ ((seg L' f t).take j).sum ≤ 700000 := fun j => by
    have h1 := sum_bd (l := (seg L' f t).take j) (M := 100000) fun v hv' => hv v (seg_mem (List.mem_of_mem_take hv'))
    have h2 : ((seg L' f t).take j).length ≤ 7 := by rw [List.length_take]; omega
    omega
  have HV := Lib.hid hv
  have HSB := Lib.hid hsb
  have HLEN := Lib.hid hseg
  have j0 := hF.c0
  have j1 := hF.c1
  have j2 := hF.c2
  have s0 := hS.c0
  have s1 := hS.c1
  clear hL hL' hv hsb hq hseg
  go_enter Tryz.func112, Tryz.ntmps112
  go_wp2_with fail
  go_loopg [9, 10] (t - f) (fun gk s i wr => ∃ j : Nat, f ≤ j ∧ j ≤ t ∧ t - j ≤ gk ∧ i = .int .i64 j ∧ s = .int .i64 ((seg L' f t).take (j - f)).sum ∧ wr = ((w.alloc (.cells #[.slice (some ⟨b, off, none⟩) n cap, .int .i64 x.alone, .int .i64 x.third, .slice B m cap2, .int .i64 x.down] 29)).alloc (.cells #[.int .i64 f, .int .i64 t] 39)))
  case atStart => exact ⟨f, Nat.le_refl _, by omega, by omega, rfl, by simp, rfl⟩
  case round =>
    obtain ⟨j, hfj, hj, hgj, rfl, rfl, rfl⟩ := hrel
    by_cases hlt : j < t
    · obtain ⟨b4, off4, v, d0, rfl, hv, ⟨hd, v0⟩, e0⟩ := hsl.at1 (k := j) (by omega)
      simp only [List.cons.injEq, and_true] at hd
      subst hd
      have hvb := HV.out v (List.mem_of_getElem? hv)
      have HS := Lib.hid (sum_take_succ (seg_at hv hfj hlt))
      have hs0 := HSB.out (j - f)
      clear hv
      go_wp2_with fail
      go_roundg (t - (j + 1))
      case measure => omega
      case rel => exact ⟨j + 1, by omega, by omega, by omega, by go_num, by rw [show j + 1 - f = j - f + 1 by omega, HS.out], rfl⟩
    · have : j = t := by omega
      subst this
      have hs0 := HSB.out (j - f)
      have HT := Lib.hid (List.take_of_length_le (Nat.le_of_eq HLEN.out))
      rw [HT.out] at hs0
      obtain ⟨S, hS'⟩ : ∃ S, S = (seg L' f j).sum := ⟨_, rfl⟩
      rw [HT.out]
      rw [← hS'] at hs0 ⊢
      have HP := Lib.hid (show paysV x (seg L' f j).sum (g : Int) = if (g : Int) = 1 then S + partV S x.alone else 2 * S + ((g : Int) - 2) * partV S x.third by rw [← hS']; rfl)
      clear hS'
      have hpa := fun W => PartOf_any S x.alone W hs0.1 (by omega) ha.1 (by omega)
      have hpt := fun W => PartOf_any S x.third W hs0.1 (by omega) hth.1 (by omega)
      have ba := partV_bd hs0.1 (by omega) ha.1 ha.2
      have bt := partV_bd hs0.1 (by omega) hth.1 (show x.third ≤ 200 by omega)
      generalize partV S x.alone = pa at *
      generalize partV S x.third = pt at *
      go_wp2_with fail
      go_loopg [11, 12] g (fun gk o i wr => ∃ q : Nat, 1 ≤ q ∧ q ≤ g + 1 ∧ g + 1 - q ≤ gk ∧ i = .int .i64 q ∧ (∃ u, o = .int .i64 u ∧ Aside (u = upto S pt q) ∧ 0 ≤ u ∧ u ≤ 10000000) ∧ wr = ((w.alloc (.cells #[.slice (some ⟨b, off, none⟩) n cap, .int .i64 x.alone, .int .i64 x.third, .slice B m cap2, .int .i64 x.down] 29)).alloc (.cells #[.int .i64 f, .int .i64 j] 39)))
      case atStart => exact ⟨1, Nat.le_refl _, by omega, by omega, rfl, ⟨0, rfl, rfl, by omega, by omega⟩, rfl⟩
      case round =>
        obtain ⟨q', hq1, hq2, hgq, rfl, ⟨u, rfl, HU, u0, u1⟩, rfl⟩ := hrel
        by_cases hqg : q' ≤ g
        · have hU : u = upto S pt q' := HU
          by_cases h2 : q' ≤ 2
          · have HN := Lib.hid (show u + S = upto S pt (q' + 1) by rw [hU]; unfold upto; rcases (show q' = 1 ∨ q' = 2 by omega) with rfl | rfl <;> simp <;> omega)
            have hub : u + S ≤ 10000000 := by rw [hU]; unfold upto; rcases (show q' = 1 ∨ q' = 2 by omega) with rfl | rfl <;> simp <;> omega
            clear hU
            go_wp2_with fail
            go_roundg (g + 1 - (q' + 1))
            case measure => omega
            case rel => exact ⟨q' + 1, by omega, by omega, by omega, by go_num, ⟨u + S, rfl, HN.out, by omega, hub⟩, rfl⟩
          · have HN := Lib.hid (show u + pt = upto S pt (q' + 1) by rw [hU]; unfold upto; rcases (show q' = 3 ∨ q' = 4 by omega) with rfl | rfl <;> simp <;> omega)
            have hub : u + pt ≤ 10000000 := by rw [hU]; unfold upto; rcases (show q' = 3 ∨ q' = 4 by omega) with rfl | rfl <;> simp <;> omega
            clear hU
            go_wp2_with fail
            refine (hpt _).mono ?_
            rintro e w2 ⟨rfl, rfl⟩
            go_wp2_with fail
            go_roundg (g + 1 - (q' + 1))
            case measure => omega
            case rel => exact ⟨q' + 1, by omega, by omega, by omega, by go_num, ⟨u + pt, rfl, HN.out, by omega, hub⟩, rfl⟩
        · have : q' = g + 1 := by omega
          subst this
          have HU' : Hid (u = upto S pt (g + 1)) := Lib.hid HU
          by_cases h1 : g = 1
          · subst h1
            go_wp2_with fail
            refine (hpa _).mono ?_
            rintro e w2 ⟨rfl, rfl⟩
            go_wp2_with fail
            go_ret
            exact ⟨retI (by rw [HP.out, HU'.out]; simp [upto]), hb0⟩
          · have h1' : ((g : Int) == 1) = false := by simp; omega
            go_wp2_with fail
            go_ret
            refine ⟨retI ?_, hb0⟩
            rw [HP.out, HU'.out, if_neg (by omega)]
            rcases (show g = 2 ∨ g = 3 ∨ g = 4 by omega) with rfl | rfl | rfl <;> simp [upto] <;> omega
end Go.Proofs.YtlablioefblmkaaGreat
/-
  Fares: plain laws: a penalty is never more than the price, and never more the earlier one cancels; of two guests the price of a span is that of its two parts.
-/
namespace Go.Proofs.YtlablioefblmkaaGreat
open Go.RowKit Go.Shelf

theorem idxF_found {α : Type} {p : α → Bool} {l : List α} {i : Nat} {x : α} (h : l[i]? = some x) (hp : p x = true) : ∃ (k : Nat) (y : α), idxF p l = (k : Int) ∧ k ≤ i ∧ l[k]? = some y ∧ p y = true := by
  have ha := any_at h hp
  have hlt : l.findIdx p < l.length := List.findIdx_lt_length.2 (by simpa using ha)
  refine ⟨l.findIdx p, l[l.findIdx p], ?_, ?_, List.getElem?_eq_getElem hlt, List.findIdx_getElem⟩
  · unfold idxF; rw [ha]; rfl
  · rcases Nat.lt_or_ge i (l.findIdx p) with h1 | h1
    · have h2 := List.not_of_lt_findIdx h1
      have hi := (List.getElem?_eq_some_iff.1 h)
      obtain ⟨hi1, hi2⟩ := hi
      rw [hi2, hp] at h2
      simp at h2
    · exact h1
theorem idxF_nat {α : Type} {p : α → Bool} {l : List α} (h : ¬ idxF p l < 0) : ∃ (k : Nat) (y : α), idxF p l = (k : Int) ∧ l[k]? = some y ∧ p y = true := by
  cases ha : l.any p
  · rw [idxF_none ha] at h; omega
  · obtain ⟨x, hx, hp⟩ := List.any_eq_true.1 ha
    obtain ⟨i, hi⟩ := List.getElem?_of_mem hx
    obtain ⟨k, y, h1, _, h2, h3⟩ := idxF_found hi hp
    exact ⟨k, y, h1, h2, h3⟩

theorem partV_le {n h k : Int} (h0 : 0 ≤ n) (hk : h ≤ k) : partV n h ≤ partV n k := by
  have := Int.mul_le_mul_of_nonneg_left hk h0
  unfold partV; omega
theorem partV_pos {n h : Int} (h0 : 0 ≤ n) (h1 : 0 ≤ h) : 0 ≤ partV n h := by
  have := Int.mul_nonneg h0 h1
  unfold partV; omega
theorem partV_all {n h : Int} (h0 : 0 ≤ n) (h1 : h ≤ 100) : partV n h ≤ n := by
  have := partV_le h0 h1
  unfold partV at this ⊢; omega

section
variable {x : Fares} {c many p : Int} (hok : FareOk x c many) (hp : 0 ≤ p)
include hok
theorem band_part : ∀ {i j : Nat} {y z : Band}, i ≤ j → x.bands[i]? = some y → x.bands[j]? = some z → z.part ≤ y.part := by
  intro i j y z hij
  induction j generalizing z with
  | zero => intro hy hz; obtain rfl : i = 0 := by omega
            rw [hy] at hz; injection hz with hz; rw [hz]; exact Int.le_refl _
  | succ j ih =>
    intro hy hz
    by_cases e : i = j + 1
    · subst e; rw [hy] at hz; injection hz with hz; rw [hz]; exact Int.le_refl _
    · have hj : j < x.bands.length := by have := (List.getElem?_eq_some_iff.1 hz).1; omega
      have h1 := ih (z := x.bands[j]) (by omega) hy (List.getElem?_eq_getElem hj)
      have h2 := (hok.ord j _ _ (List.getElem?_eq_getElem hj) hz).2
      omega
include hp
theorem late_bd (d : Int) : 0 ≤ lateV x p d ∧ lateV x p d ≤ p := by
  unfold lateV
  by_cases h : lateI x d < 0
  · rw [if_pos h]; omega
  · rw [if_neg h]
    obtain ⟨k, y, h1, h2, _⟩ := idxF_nat h
    rw [show lateI x d = (k : Int) from h1, Int.toNat_natCast, h2, Option.getD_some]
    have hb := hok.band y (List.mem_of_getElem? h2)
    exact ⟨partV_pos hp hb.2.2.1, partV_all hp hb.2.2.2⟩
theorem late_mono {d e : Int} (hde : d ≤ e) : lateV x p e ≤ lateV x p d := by
  by_cases h : lateI x e < 0
  · have := (late_bd hok hp d).1
    rw [lateV, if_pos h]; exact this
  · obtain ⟨j, z, h1, h2, h3⟩ := idxF_nat h
    obtain ⟨i, y, g1, g2, g3, _⟩ := idxF_found (p := fun b : Band => decide (d ≤ b.days)) h2 (by simp at h3 ⊢; omega)
    unfold lateV
    rw [show lateI x e = (j : Int) from h1, show lateI x d = (i : Int) from g1, if_neg (by omega), if_neg (by omega), Int.toNat_natCast, Int.toNat_natCast, h2, g3]
    exact partV_le hp (band_part hok g2 g3 h2)
end

theorem pen_ok {x : Fares} {c g p d : Int} (h : penE x c g p d = 0) : payE x c g p = 0 ∧ 0 ≤ d := by
  unfold penE at h
  by_cases e : payE x c g p = 0
  · rw [if_neg (by simp [e])] at h
    refine ⟨e, ?_⟩
    by_cases q : d < 0
    · rw [if_pos q] at h; omega
    · omega
  · rw [if_pos e] at h; exact absurd h e
theorem pen_zero {x : Fares} {c g p d : Int} (h : payE x c g p = 0) (hd : 0 ≤ d) : penE x c g p d = 0 := by
  unfold penE; rw [if_neg (by simp [h]), if_neg (by omega)]

theorem price_zero {x : Fares} {c many cat : Int} {s s' : Span} {g g' : Int} (h : priceE x c many cat s g = 0) (h1 : 0 ≤ s'.frm) (h2 : s'.frm < s'.upto) (h3 : s'.upto ≤ many) (h4 : 1 ≤ g') (h5 : g' ≤ 4) : priceE x c many cat s' g' = 0 := by
  obtain ⟨hok, c0, c1, _⟩ := price_ok h
  have hf : fareE x c many = 0 := by
    by_cases e : fareE x c many = 0
    · exact e
    · unfold priceE at h; rw [if_pos e] at h; exact h
  have hm := hok.mr
  have hl : legsB many = true := betB_true hm.1 hm.2
  unfold priceE
  rw [if_neg (by simp [hf]), if_neg (by rw [betB_true c0 (by omega)]; simp)]
  have : spanE s' many = 0 := by
    unfold spanE
    rw [if_neg (by rw [hl]; simp; omega), if_neg (by omega)]
  rw [if_neg (by simp [this]), betB_true h4 h5]; rfl

theorem seg_split {l : List Int} {a b c : Nat} (h : a ≤ b) (h2 : b ≤ c) : seg l a c = seg l a b ++ seg l b c := by
  unfold seg
  simp only [Int.toNat_natCast]
  rw [show c - a = (b - a) + (c - b) by omega, List.take_add, List.drop_drop, show a + (b - a) = b by omega]
end Go.Proofs.YtlablioefblmkaaGreat
/-
  Rows by their cells alone: copies that share what their elements lead to.
-/
namespace Go.Proofs.YtlablioefblmkaaGreat
open Go.RowKit Go.Shelf

/-- An element by its cells alone. -/
def rawC (n : Nat) : Cod (List Value) := fun _ _ x cs => cs = x ∧ x.length = n ∧ ∀ u ∈ x, u.oneCell' = true
theorem rawC_flat (n : Nat) : Flat (rawC n) := fun _ _ _ _ _ _ h => h
theorem rawC_good (n : Nat) : Good (rawC n) := .of_flat (rawC_flat n) fun h u hu => by obtain ⟨rfl, _, h⟩ := h; exact h u hu
instance rawK11 : CodK (rawC 11) 11 := ⟨rawC_good 11, by omega⟩
instance rawK2 : CodK (rawC 2) 2 := ⟨rawC_good 2, by omega⟩
instance rawK1 : CodK (rawC 1) 1 := ⟨rawC_good 1, by omega⟩

/-- What the cells of a row lead to. -/
structure Pts {α : Type} (c : Cod α) (w : World) (L : List (List Value)) (l : List α) : Prop where
  len : L.length = l.length
  el : ∀ (i : Nat) (cs : List Value) (x : α), L[i]? = some cs → l[i]? = some x → c w All x cs

section
variable {α : Type} {c : Cod α} {size : Nat} {w w' : World} {A : Option Addr} {n cap : Nat} {l l2 : List α} {L L2 : List (List Value)}

theorem Sl.raw (h : Sl c size w All A n cap l) (hg : Good c) : ∃ L, Sl (rawC size) size w All A n cap L ∧ Pts c w L l := by
  have key : ∀ i : Fin l.length, ∃ cs : List Value, ∃ b off, A = some ⟨b, off, none⟩ ∧ c w All l[i] cs ∧ cs.length = size ∧ ∀ j u, cs[j]? = some u → w.cell? ⟨b, off + i.1 * size + j, none⟩ = some u := fun i => by
    obtain ⟨b, off, cs, hA, _, hc, hl, hcell⟩ := h.rd i.1 l[i] (List.getElem?_eq_getElem i.2)
    exact ⟨cs, b, off, hA, hc, hl, hcell⟩
  refine ⟨List.ofFn fun i => Classical.choose (key i), ⟨by simp [h.len], h.le, h.max, fun i y hy => ?_⟩, ⟨by simp, fun i cs x hcs hx => ?_⟩⟩
  · have hi : i < l.length := by have := (List.getElem?_eq_some_iff.1 hy).1; simpa using this
    rw [List.getElem?_eq_getElem (by simpa using hi)] at hy
    simp only [List.getElem_ofFn, Option.some.injEq] at hy
    obtain ⟨b, off, hA, hc, hl, hcell⟩ := Classical.choose_spec (key ⟨i, hi⟩)
    rw [hy] at hc hl hcell
    exact ⟨b, off, y, hA, trivial, ⟨rfl, hl, fun u hu => hg.one hc u hu⟩, hl, hcell⟩
  · have hi : i < l.length := (List.getElem?_eq_some_iff.1 hx).1
    rw [List.getElem?_eq_getElem (by simpa using hi)] at hcs
    simp only [List.getElem_ofFn, Option.some.injEq] at hcs
    obtain ⟨b, off, hA, hc, hl, hcell⟩ := Classical.choose_spec (key ⟨i, hi⟩)
    rw [hcs] at hc
    have hxi : l[i] = x := (List.getElem?_eq_some_iff.1 hx).2
    subst hxi
    exact hc
theorem Sl.unraw (h : Sl (rawC size) size w All A n cap L) (hp : Pts c w L l) : Sl c size w All A n cap l := by
  refine ⟨by rw [← hp.len]; exact h.len, h.le, h.max, fun i x hx => ?_⟩
  have hi : i < L.length := by rw [hp.len]; exact (List.getElem?_eq_some_iff.1 hx).1
  obtain ⟨b, off, cs, hA, _, hc, hcl, hcell⟩ := h.rd i L[i] (List.getElem?_eq_getElem hi)
  obtain ⟨rfl, _, _⟩ := hc
  exact ⟨b, off, _, hA, trivial, hp.el i _ x (List.getElem?_eq_getElem hi) hx, hcl, hcell⟩
theorem Pts.bel [k : CodK c size] (h : Pts c w L l) (hb : Below w.heap.size w w') : Pts c w' L l :=
  ⟨h.len, fun i cs x h1 h2 => k.good.keep (h.el i cs x h1 h2) fun b _ hlt => ⟨hb.block b hlt, trivial⟩⟩
theorem Pts.nil (c : Cod α) (w : World) : Pts c w [] [] := ⟨rfl, fun i cs x h => by simp at h⟩
theorem Pts.one {cs : List Value} {x : α} (h : c w All x cs) : Pts c w [cs] [x] := ⟨rfl, fun i a y h1 h2 => by
  rcases i with _ | i
  · simp at h1 h2; subst h1 h2; exact h
  · simp at h1⟩
theorem Pts.take (h : Pts c w L l) (k : Nat) : Pts c w (L.take k) (l.take k) :=
  ⟨by rw [List.length_take, List.length_take, h.len], fun i cs x h1 h2 => by
    rw [List.getElem?_take] at h1 h2
    by_cases hi : i < k
    · rw [if_pos hi] at h1 h2; exact h.el i cs x h1 h2
    · rw [if_neg hi] at h1; cases h1⟩
theorem Pts.drop (h : Pts c w L l) (k : Nat) : Pts c w (L.drop k) (l.drop k) :=
  ⟨by rw [List.length_drop, List.length_drop, h.len], fun i cs x h1 h2 => by
    rw [List.getElem?_drop] at h1 h2
    exact h.el _ cs x h1 h2⟩
theorem Pts.append (h : Pts c w L l) (h2 : Pts c w L2 l2) : Pts c w (L ++ L2) (l ++ l2) :=
  ⟨by rw [List.length_append, List.length_append, h.len, h2.len], fun i cs x h3 h4 => by
    by_cases hi : i < L.length
    · rw [List.getElem?_append_left hi] at h3
      rw [List.getElem?_append_left (by rw [← h.len]; exact hi)] at h4
      exact h.el i cs x h3 h4
    · rw [List.getElem?_append_right (by omega)] at h3
      rw [List.getElem?_append_right (by rw [← h.len]; omega), ← h.len] at h4
      exact h2.el _ cs x h3 h4⟩
theorem Pts.set (h : Pts c w L l) (k : Nat) {cs : List Value} {x : α} (hx : c w All x cs) : Pts c w (L.set k cs) (l.set k x) :=
  ⟨by rw [List.length_set, List.length_set, h.len], fun i a y h3 h4 => by
    rw [List.getElem?_set] at h3 h4
    by_cases hi : k = i
    · rw [if_pos hi] at h3 h4
      subst hi
      by_cases hl : k < L.length
      · rw [if_pos hl] at h3
        rw [if_pos (by rw [← h.len]; exact hl)] at h4
        injection h3 with h3
        injection h4 with h4
        subst h3 h4
        exact hx
      · rw [if_neg hl] at h3; cases h3
    · rw [if_neg hi] at h3 h4
      exact h.el i a y h3 h4⟩

/-- 's[:k]'. -/
theorem Sl.fst {S : Nat → Prop} (h : Sl c size w S A n cap l) {k : Nat} (hk : k ≤ n) : Sl c size w S A k cap (l.take k) :=
  ⟨by rw [List.length_take, h.len]; omega, Nat.le_trans hk h.le, h.max, fun i x hx => by
    rw [List.getElem?_take] at hx
    by_cases hi : i < k
    · rw [if_pos hi] at hx; exact h.rd i x hx
    · rw [if_neg hi] at hx; cases hx⟩
/-- 's[k:]', where room is behind. -/
theorem Sl.suf {S : Nat → Prop} {b off : Nat} (h : Sl c size w S (some ⟨b, off, none⟩) n cap l) {k : Nat} (hk : k ≤ n) : Sl c size w S (some ⟨b, off + k * size, none⟩) (n - k) (cap - k) (l.drop k) :=
  ⟨by rw [List.length_drop, h.len], by have := h.le; omega, Nat.le_trans (Nat.sub_le _ _) h.max, fun i x hx => by
    rw [List.getElem?_drop] at hx
    obtain ⟨b', off', cs, hA, hS, hc, hl, hcell⟩ := h.rd _ x hx
    injection hA with hA
    injection hA with h1 h2
    subst h1 h2
    refine ⟨b, off + k * size, cs, rfl, hS, hc, hl, fun j u hu => ?_⟩
    have := hcell j u hu
    rw [show off + k * size + i * size + j = off + (k + i) * size + j by rw [Nat.add_mul]; omega]
    exact this⟩
/-- 's[k:]', where none is. -/
theorem Sl.suf0 {S : Nat → Prop} (h : Sl c size w S A n cap l) (hk : cap = n) : Sl c size w S A (n - n) (cap - n) (l.drop n) :=
  ⟨by rw [List.length_drop, h.len], by omega, Nat.le_trans (Nat.sub_le _ _) h.max, fun i x hx => by
    rw [List.getElem?_drop] at hx
    have := (List.getElem?_eq_some_iff.1 hx).1
    rw [h.len] at this
    omega⟩
end
end Go.Proofs.YtlablioefblmkaaGreat
/-
  Sailings: data; what is wrong with one.
-/
namespace Go.Proofs.YtlablioefblmkaaGreat
open Go.RowKit Go.Shelf

structure Sai where
  ship : Shp
  fares : Fares
  day : Int
  leaves : Int
  bks : List Bkg
  closed : Bool
/-- Where a sailing's rows lie. -/
structure SaiV where
  A : Option Addr
  n : Nat
  cap : Nat
  B : Option Addr
  m : Nat
  cap2 : Nat
  D : Option Addr
  nd : Nat
  cd : Nat
  E : Option Addr
  ne : Nat
  ce : Nat
  C : Option Addr
  nb : Nat
  cb : Nat
abbrev saiA (x : Sai) (p : SaiV) : Array Value := #[.int .i64 x.ship.legs, .int .i64 x.ship.souls, .slice p.A p.n p.cap, .slice p.B p.m p.cap2, .slice p.D p.nd p.cd, .int .i64 x.fares.alone, .int .i64 x.fares.third, .slice p.E p.ne p.ce, .int .i64 x.fares.down,
  .int .i64 x.day, .int .i64 x.leaves, .slice p.C p.nb p.cb, .bool x.closed]
structure SaiR (w : World) (x : Sai) (p : SaiV) : Prop where
  cats : Sl catC 2 w All p.A p.n p.cap x.ship.cats
  cabs : Sl cabC 4 w All p.B p.m p.cap2 x.ship.cabs
  fares : FareR w p.D p.nd p.cd x.fares p.E p.ne p.ce
  bks : Sl bkgC 11 w All p.C p.nb p.cb x.bks
theorem SaiR.bel {w w' : World} {x : Sai} {p : SaiV} (h : SaiR w x p) (hb : Below w.heap.size w w') : SaiR w' x p := ⟨h.cats.bel hb, h.cabs.bel hb, h.fares.below hb, h.bks.bel hb⟩

/-- Is a booking a live promise without a cabin? -/
def openB (b : Bkg) : Bool := decide (b.kind = 2) && (liveB b && decide (b.cab < 0))
def badB (closed : Bool) (b : Bkg) : Bool := decide (b.kind = 2) && (liveB b && (decide (b.cab < 0) == closed))
def bkE1 (x : Sai) (i : Nat) : Int := if ofE x.ship (x.bks.getD i default) ≠ 0 then ofE x.ship (x.bks.getD i default) else if 0 < i ∧ (x.bks.getD i default).id ≤ (x.bks.getD (i - 1) default).id then 4 else 0
def bksE (x : Sai) : Int := if 16 < x.bks.length then 2 else if firstE (bkE1 x) x.bks.length ≠ 0 then firstE (bkE1 x) x.bks.length else if x.bks.any (badB x.closed) = true then 4 else 0
/-- Has a cabin no live booking? -/
def emptyB (l : List Bkg) (c : Nat) : Bool := !l.any (hasB c)
/-- Whom an open promise may have. -/
def mayL (x : Sai) (b : Bkg) : List Int := ((List.range x.ship.cabs.length).filter (fun c : Nat => eligB x.ship b (c : Int) && emptyB x.bks c)).map Int.ofNat
def openL (x : Sai) : List Bkg := x.bks.filter openB
def idsL (x : Sai) : List Int := (openL x).map (·.id)
def edgF (x : Sai) : List Bkg → Nat → List Edg
  | [], _ => []
  | b :: l, i => (mayL x b).map (fun c => ⟨i, c⟩) ++ edgF x l (i + 1)
def edgL (x : Sai) : List Edg := edgF x (openL x) 0
/-- Can all left ones be matched? -/
def AllM (n : Nat) (l : List Edg) : Prop := ∃ M, IsM (nbrs l) M ∧ M.length = n
noncomputable def allB (n : Nat) (l : List Edg) : Bool := @decide (AllM n l) (Classical.propDecidable _)
theorem allB_iff {n : Nat} {l : List Edg} : allB n l = true ↔ AllM n l := by
  unfold allB
  exact @decide_eq_true_iff _ (Classical.propDecidable _)
theorem allB_true {n : Nat} {l : List Edg} (h : AllM n l) : allB n l = true := allB_iff.2 h
/-- Have two bookings one cabin on one leg? -/
def twiceB (x : Sai) : Bool := (List.range x.ship.cabs.length).any (fun c => !takB x.bks (c : Int))
noncomputable def roomE (x : Sai) : Int :=
  if twiceB x = true then 6 else if x.ship.souls < mx (soulL x.bks x.ship.legs.toNat) then 8 else if allB (idsL x).length (edgL x) = true then 0 else 9
noncomputable def saiE (x : Sai) : Int := if shipE x.ship ≠ 0 then shipE x.ship else if fareE x.fares x.ship.cats.length x.ship.legs ≠ 0 then fareE x.fares x.ship.cats.length x.ship.legs
  else if (betB x.day 0 9999 && betB x.leaves 0 9999) = false then 3 else if bksE x ≠ 0 then bksE x else if roomE x = 8 then 2 else roomE x
/-- What is so of a sailing whose bookings are right, one by one. -/
structure OkBs (x : Sai) : Prop where
  ship : OkShp x.ship
  bk : ∀ b ∈ x.bks, OkBk x.ship b
  len : x.bks.length ≤ 16
  rise : ∀ i, i + 1 < x.bks.length → (x.bks.getD i default).id < (x.bks.getD (i + 1) default).id
  bad : x.bks.any (badB x.closed) = false
end Go.Proofs.YtlablioefblmkaaGreat
