/-
  Fares: Of, Price.
-/
import Derived.Test.YtehebngkjfjkbaaFareE
namespace Go.Proofs.Ytehebngkjfjkbaa
open Go.RowKit Go.Shelf

/-- What so many guests pay, of a sum of legs. -/
def paysV (x : Fares) (s g : Int) : Int := if g = 1 then s + partV s x.alone else 2 * s + (g - 2) * partV s x.third
/-- The price of a span. -/
def ofV (x : Fares) (cat : Int) (s : Span) (g : Int) : Int := paysV x (seg (x.leg[cat.toNat]?.getD []) s.frm s.upto).sum g
def priceE (x : Fares) (c many cat : Int) (s : Span) (g : Int) : Int :=
  if fareE x c many ≠ 0 then fareE x c many else if betB cat 0 (c - 1) = false then 3 else if spanE s many ≠ 0 then spanE s many else if betB g 1 4 then 0 else 3

theorem sum_bd {l : List Int} {M : Nat} (h : ∀ v ∈ l, 0 ≤ v ∧ v ≤ (M : Int)) : 0 ≤ l.sum ∧ l.sum ≤ ((l.length * M : Nat) : Int) := by
  induction l with
  | nil => simp
  | cons y l ih =>
    have h1 := h y (by simp)
    have h2 := ih fun v hv => h v (by simp [hv])
    rw [List.sum_cons, List.length_cons, Nat.add_mul]
    omega
theorem sum_take_succ {l : List Int} {k : Nat} {y : Int} (h : l[k]? = some y) : (l.take (k + 1)).sum = (l.take k).sum + y := by rw [take_snoc h]; simp
theorem partV_bd {s h : Int} (h0 : 0 ≤ s) (h1 : s ≤ 1000000) (h2 : 0 ≤ h) (h3 : h ≤ 200) : 0 ≤ partV s h ∧ partV s h ≤ 2000001 := by
  have := mul_bd (N := 1000000) (H := 200) h0 h1 h2 h3
  unfold partV
  omega

set_option maxHeartbeats 4000000 in
theorem Of_any (A : Option Addr) (n cap : Nat) (x : Fares) (B : Option Addr) (m cap2 : Nat) (k f t : Nat) (g : Int) (L : List Int) (w : World) (h : FareR w A n cap x B m cap2) (hL : x.leg[k]? = some L) (hft : f < t) (ht : t ≤ L.length) (h7 : L.length ≤ 7)
    (hv : ∀ v ∈ L, 0 ≤ v ∧ v ≤ 100000) (ha : 0 ≤ x.alone ∧ x.alone ≤ 200) (hth : 0 ≤ x.third ∧ x.third ≤ 100) (hg : 1 ≤ g ∧ g ≤ 4) :
    Calls Try.prog 81 #[.agg #[.slice A n cap, .int .i64 x.alone, .int .i64 x.third, .slice B m cap2, .int .i64 x.down], .int .i64 k, .agg #[.int .i64 f, .int .i64 t], .int .i64 g] w fun e w' => e = .returned (.int .i64 (paysV x (seg L f t).sum g)) ∧ Below w.heap.size w w' := by
  have hb0 : Below w.heap.size w ((w.alloc (.cells #[.slice A n cap, .int .i64 x.alone, .int .i64 x.third, .slice B m cap2, .int .i64 x.down] 68)).alloc (.cells #[.int .i64 f, .int .i64 t] 40)) := ((Below.refl _ _).alloc (Nat.le_refl _) _).alloc (by simp) _
  have hF : FareAt ((w.alloc (.cells #[.slice A n cap, .int .i64 x.alone, .int .i64 x.third, .slice B m cap2, .int .i64 x.down] 68)).alloc (.cells #[.int .i64 f, .int .i64 t] 40)) w.heap.size A n cap x B m cap2 := blk2_0 _ _ _
  have hS : SpanAt ((w.alloc (.cells #[.slice A n cap, .int .i64 x.alone, .int .i64 x.third, .slice B m cap2, .int .i64 x.down] 68)).alloc (.cells #[.int .i64 f, .int .i64 t] 40)) (w.heap.size + 1) f t := blk2_1 _ _ _
  have hkn : k < n := by have := (List.getElem?_eq_some_iff.1 hL).1; have := h.leg.len; omega
  have hbd := h.leg.bd
  obtain ⟨b, off, L', c0, hA, hL', ⟨B', q, c2, hc, hsl⟩, g0⟩ := ((h.below hb0).leg).at1 hkn
  obtain rfl : L' = L := by rw [hL] at hL'; injection hL' with e; exact e.symm
  simp only [List.cons.injEq, and_true] at hc
  subst hc
  subst hA
  have hq := hsl.len
  have hqc := hsl.le
  have hqb := hsl.max
  have htq : t ≤ q := by omega
  have hsg := hsl.segm hft htq
  have hsb : ∀ j, 0 ≤ ((seg L' f t).take j).sum ∧ ((seg L' f t).take j).sum ≤ 700000 := fun j => by
    have h1 := sum_bd (l := (seg L' f t).take j) (M := 100000) fun v hv' => hv v (seg_mem (List.mem_of_mem_take hv'))
    have h2 : ((seg L' f t).take j).length ≤ 7 := by rw [List.length_take]; have := hsg.len; omega
    omega
  have HV := Lib.hid (fun v (hv' : v ∈ seg L' f t) => hv v (seg_mem hv'))
  have HSB := Lib.hid hsb
  have HLEN := Lib.hid hsg.len
  have hlf : (f : Int) ≤ (t : Int) := by omega
  have htc : (t : Int) ≤ (c2 : Int) := by omega
  have hkz : (k : Int) < (n : Int) := by omega
  have j0 := hF.c0
  have j1 := hF.c1
  have j2 := hF.c2
  have s0 := hS.c0
  have s1 := hS.c1
  have hc63 : c2 ≤ 9223372036854775807 := by unfold maxLen at hqb; omega
  clear hL hL' hv hsb hq hqb
  go_enter Try.func81, Try.ntmps81
  go_upto_region 2 with (fail)
  go_quiet (fail)
  go_wp2_with fail
  obtain ⟨b3, off3, hA3⟩ : ∃ b3 off3, Option.map (fun a : Addr => a.add f) B' = some ⟨b3, off3, none⟩ := by
    obtain ⟨b3, off3, _, _, h3, _⟩ := hsg.at1 (k := 0) (by omega)
    exact ⟨b3, off3, h3⟩
  rw [hA3] at hsg ⊢
  go_loopg [9, 23] (t - f) (fun gk s i wr => ∃ j : Nat, j ≤ t - f ∧ (t - f) - j ≤ gk ∧ i = .int .i64 j ∧ s = .int .i64 ((seg L' f t).take j).sum ∧ wr = ((w.alloc (.cells #[.slice (some ⟨b, off, none⟩) n cap, .int .i64 x.alone, .int .i64 x.third, .slice B m cap2, .int .i64 x.down] 68)).alloc (.cells #[.int .i64 f, .int .i64 t] 40)).drewN nq)
  case atStart => exact ⟨0, Nat.zero_le _, by omega, rfl, rfl, rfl⟩
  case round =>
    obtain ⟨j, hj, hgj, rfl, rfl, rfl⟩ := hrel
    by_cases hlt : j < t - f
    · obtain ⟨b4, off4, v, d0, hA4, hv, ⟨hd, v0⟩, e0⟩ := (hsg.below intC_good (by omega) (below_drewN (Below.refl _ _) nq)).at1 hlt
      simp only [List.cons.injEq, and_true] at hd
      subst hd
      have hvb := HV.out v (List.mem_of_getElem? hv)
      have HS := Lib.hid (sum_take_succ hv)
      have hs0 := HSB.out j
      injection hA4 with hA4
      injection hA4 with e1 e2 _
      subst e1 e2
      clear hv
      go_wp2_with fail
      go_roundg ((t - f) - (j + 1))
      case measure => omega
      case rel => exact ⟨j + 1, by omega, by omega, by go_num, by rw [HS.out], rfl⟩
    · have : j = t - f := by omega
      subst this
      have hs0 := HSB.out (t - f)
      have HT := Lib.hid (List.take_of_length_le (Nat.le_of_eq HLEN.out))
      rw [HT.out] at hs0
      obtain ⟨S, hS'⟩ : ∃ S, S = (seg L' f t).sum := ⟨_, rfl⟩
      rw [HT.out]
      rw [← hS'] at hs0 ⊢
      have HP := Lib.hid (show paysV x (seg L' f t).sum g = if g = 1 then S + partV S x.alone else 2 * S + (g - 2) * partV S x.third by rw [← hS']; rfl)
      clear hS'
      have hpa := fun W => part_any S x.alone W hs0.1 (by omega) ha.1 (by omega)
      have hpt := fun W => part_any S x.third W hs0.1 (by omega) hth.1 (by omega)
      have ba := partV_bd hs0.1 (by omega) ha.1 ha.2
      have bt := partV_bd hs0.1 (by omega) hth.1 (show x.third ≤ 200 by omega)
      generalize partV S x.alone = pa at *
      generalize partV S x.third = pt at *
      rcases (show g = 1 ∨ g = 2 ∨ g = 3 ∨ g = 4 by omega) with rfl | rfl | rfl | rfl
      · go_wp2_with fail
        refine (hpa _).mono ?_
        rintro e w2 ⟨rfl, rfl⟩
        go_wp2_with fail
        go_ret
        exact ⟨retI (by rw [HP.out]; simp), below_drewN hb0 _⟩
      all_goals
        go_wp2_with fail
        refine (hpt _).mono ?_
        rintro e w2 ⟨rfl, rfl⟩
        go_wp2_with fail
        go_ret
        exact ⟨retI (by rw [HP.out, if_neg (by omega)]; try omega), below_drewN hb0 _⟩

/-- What may be asked of a price that is right. -/
theorem price_ok {x : Fares} {c many cat : Int} {s : Span} {g : Int} (h : priceE x c many cat s g = 0) :
    FareOk x c many ∧ 0 ≤ cat ∧ cat < c ∧ 0 ≤ s.frm ∧ s.frm < s.upto ∧ s.upto ≤ many ∧ 1 ≤ g ∧ g ≤ 4 := by
  unfold priceE at h
  by_cases e1 : fareE x c many = 0
  · rw [if_neg (by simp [e1])] at h
    by_cases e2 : betB cat 0 (c - 1) = false
    · rw [if_pos e2] at h; omega
    · rw [if_neg e2] at h
      by_cases e3 : spanE s many = 0
      · rw [if_neg (by simp [e3])] at h
        have e4 : betB g 1 4 = true := by
          cases e : betB g 1 4 with
          | true => rfl
          | false => rw [e] at h; simp at h
        have h2 := betB_iff.1 (bool_true e2)
        have h4 := betB_iff.1 e4
        unfold spanE at e3
        by_cases d1 : legsB many = false ∨ s.frm < 0 ∨ many < s.upto
        · rw [if_pos d1] at e3; omega
        · rw [if_neg d1] at e3
          by_cases d2 : s.upto ≤ s.frm
          · rw [if_pos d2] at e3; omega
          · exact ⟨fare_ok e1, by omega, by omega, by omega, by omega, by omega, h4.1, h4.2⟩
      · rw [if_pos e3] at h; exact absurd h e3
  · rw [if_pos e1] at h; exact absurd h e1

set_option maxHeartbeats 4000000 in
theorem Price_any (A : Option Addr) (n cap : Nat) (x : Fares) (B : Option Addr) (m cap2 : Nat) (c many cat a b g : Int) (w : World) (h : FareR w A n cap x B m cap2) :
    Calls Try.prog 42 #[.agg #[.slice A n cap, .int .i64 x.alone, .int .i64 x.third, .slice B m cap2, .int .i64 x.down], .int .i64 c, .int .i64 many, .int .i64 cat, .agg #[.int .i64 a, .int .i64 b], .int .i64 g] w fun e w' =>
      e = .returned (.tuple #[.int .i64 (okI (priceE x c many cat ⟨a, b⟩ g) (ofV x cat ⟨a, b⟩ g)), .int .i64 (priceE x c many cat ⟨a, b⟩ g)]) ∧ Below w.heap.size w w' := by
  have hb0 : Below w.heap.size w ((w.alloc (.cells #[.slice A n cap, .int .i64 x.alone, .int .i64 x.third, .slice B m cap2, .int .i64 x.down] 68)).alloc (.cells #[.int .i64 a, .int .i64 b] 40)) := ((Below.refl _ _).alloc (Nat.le_refl _) _).alloc (by simp) _
  have hF : FareAt ((w.alloc (.cells #[.slice A n cap, .int .i64 x.alone, .int .i64 x.third, .slice B m cap2, .int .i64 x.down] 68)).alloc (.cells #[.int .i64 a, .int .i64 b] 40)) w.heap.size A n cap x B m cap2 := blk2_0 _ _ _
  have hS : SpanAt ((w.alloc (.cells #[.slice A n cap, .int .i64 x.alone, .int .i64 x.third, .slice B m cap2, .int .i64 x.down] 68)).alloc (.cells #[.int .i64 a, .int .i64 b] 40)) (w.heap.size + 1) a b := blk2_1 _ _ _
  have hck := fareCheck_any A n cap x B m cap2 c many _ (h.below hb0)
  have hsp := fun W => spanCheck_any a b many W
  obtain ⟨r, hr⟩ : ∃ r, r = priceE x c many cat ⟨a, b⟩ g := ⟨_, rfl⟩
  obtain ⟨q, hq⟩ : ∃ q, q = fareE x c many := ⟨_, rfl⟩
  obtain ⟨p, hp⟩ : ∃ p, p = spanE ⟨a, b⟩ many := ⟨_, rfl⟩
  rw [← hr]
  rw [← hq] at hck
  rw [← hp] at hsp
  have HR := Lib.hid (show r = if q ≠ 0 then q else if betB cat 0 (c - 1) = false then 3 else if p ≠ 0 then p else if betB g 1 4 then 0 else 3 by rw [hr, hq, hp]; rfl)
  have HK := Lib.hid hck
  have HS := Lib.hid hsp
  have HE := Lib.hid hr
  have HQ := Lib.hid hq
  have hw1 := fun W => within_any cat 0 (c - 1) W
  have hw2 := fun W => within_any g 1 4 W
  clear hr hq hp hck hsp
  by_cases h0 : q = 0
  · subst h0
    have hok := fare_ok HQ.out.symm
    have hcr := hok.cr
    clear hok
    cases q1 : betB cat 0 (c - 1)
    · have hr : r = 3 := by rw [HR.out, if_neg (by simp), if_pos q1]
      subst hr
      rw [q1] at hw1
      clear q1
      go_enter Try.func42, Try.ntmps42
      go_wp2_with fail
      refine HK.out.mono ?_
      rintro e w1 ⟨rfl, hb1⟩
      go_wp2_with fail
      refine (hw1 _).mono ?_
      rintro e w2 ⟨rfl, rfl⟩
      go_wp2_with fail
      go_ret2
      exact ⟨rfl, hb0.trans (hb1.mono hb0.size)⟩
    · have hV := Lib.hid (show r = if p ≠ 0 then p else if betB g 1 4 then 0 else 3 by rw [HR.out, if_neg (by simp), if_neg (by rw [q1]; simp)])
      rw [q1] at hw1
      clear q1
      by_cases p0 : p = 0
      · subst p0
        cases q2 : betB g 1 4
        · have hr : r = 3 := by rw [hV.out, if_neg (by simp), q2]; rfl
          subst hr
          rw [q2] at hw2
          clear q2
          go_enter Try.func42, Try.ntmps42
          go_wp2_with fail
          refine HK.out.mono ?_
          rintro e w1 ⟨rfl, hb1⟩
          have s0 := (hS.below hb1).c0
          have s1 := (hS.below hb1).c1
          replace hb1 := hb0.trans (hb1.mono hb0.size)
          go_wp2_with fail
          refine (hw1 _).mono ?_
          rintro e w2 ⟨rfl, rfl⟩
          go_wp2_with fail
          refine (HS.out _).mono ?_
          rintro e w3 ⟨rfl, hb3⟩
          go_wp2_with fail
          refine (hw2 _).mono ?_
          rintro e w4 ⟨rfl, rfl⟩
          go_wp2_with fail
          go_ret2
          exact ⟨rfl, hb1.trans (hb3.mono hb1.size)⟩
        · have hr : r = 0 := by rw [hV.out, if_neg (by simp), q2]; rfl
          subst hr
          rw [q2] at hw2
          clear q2
          obtain ⟨hok, o1, o2, o3, o4, o5, o6, o7⟩ := price_ok HE.out.symm
          simp only at o3 o4 o5
          obtain ⟨f, rfl⟩ := Int.eq_ofNat_of_zero_le o3
          obtain ⟨t, rfl⟩ := Int.eq_ofNat_of_zero_le (show 0 ≤ b by omega)
          obtain ⟨k, rfl⟩ := Int.eq_ofNat_of_zero_le o1
          obtain ⟨L, hL⟩ : ∃ L, x.leg[k]? = some L := ⟨_, List.getElem?_eq_getElem (by have := hok.len; omega)⟩
          have hLm := List.mem_of_getElem? hL
          have hlen := hok.lens L hLm
          have hmr := hok.mr
          have hof := fun W hh => Of_any A n cap x B m cap2 k f t g L W hh hL (by omega) (by omega) (by omega) (hok.leg L hLm) hok.a hok.t ⟨o6, o7⟩
          rw [show paysV x (seg L f t).sum g = ofV x k ⟨f, t⟩ g by unfold ofV; simp [hL]] at hof
          have HO := Lib.hid hof
          clear hof hL hok hlen
          go_enter Try.func42, Try.ntmps42
          go_wp2_with fail
          refine HK.out.mono ?_
          rintro e w1 ⟨rfl, hb1⟩
          have hF1 := hF.below hb1
          have hS1 := hS.below hb1
          have s0 := hS1.c0
          have s1 := hS1.c1
          replace hb1 := hb0.trans (hb1.mono hb0.size)
          go_wp2_with fail
          refine (hw1 _).mono ?_
          rintro e w2 ⟨rfl, rfl⟩
          go_wp2_with fail
          refine (HS.out _).mono ?_
          rintro e w3 ⟨rfl, hb3⟩
          have z0 := (hS1.below hb3).c0
          have z1 := (hS1.below hb3).c1
          have j0 := (hF1.below hb3).c0
          have j1 := (hF1.below hb3).c1
          have j2 := (hF1.below hb3).c2
          have j3 := (hF1.below hb3).c3
          have j4 := (hF1.below hb3).c4
          replace hb1 := hb1.trans (hb3.mono hb1.size)
          go_wp2_with fail
          refine (hw2 _).mono ?_
          rintro e w4 ⟨rfl, rfl⟩
          go_wp2_with fail
          refine (HO.out _ (h.below hb1)).mono ?_
          rintro e w5 ⟨rfl, hb5⟩
          go_wp2_with fail
          go_ret2
          exact ⟨rfl, hb1.trans (hb5.mono hb1.size)⟩
      · have p1 : (p == 0) = false := by simpa using p0
        have p2 : (p != 0) = true := by simpa using p0
        have hr : r = p := by rw [hV.out, if_pos p0]
        subst hr
        have P0 := Lib.hid p0
        clear p0
        go_enter Try.func42, Try.ntmps42
        go_wp2_with fail
        refine HK.out.mono ?_
        rintro e w1 ⟨rfl, hb1⟩
        have s0 := (hS.below hb1).c0
        have s1 := (hS.below hb1).c1
        replace hb1 := hb0.trans (hb1.mono hb0.size)
        go_wp2_with fail
        refine (hw1 _).mono ?_
        rintro e w2 ⟨rfl, rfl⟩
        go_wp2_with fail
        refine (HS.out _).mono ?_
        rintro e w3 ⟨rfl, hb3⟩
        go_wp2_with fail
        go_ret2
        exact ⟨by rw [okI_ne P0.out]; rfl, hb1.trans (hb3.mono hb1.size)⟩
  · have q1 : (q == 0) = false := by simpa using h0
    have q2 : (q != 0) = true := by simpa using h0
    have hr : r = q := by rw [HR.out, if_pos h0]
    subst hr
    have P0 := Lib.hid h0
    clear h0
    go_enter Try.func42, Try.ntmps42
    go_wp2_with fail
    refine HK.out.mono ?_
    rintro e w1 ⟨rfl, hb1⟩
    go_wp2_with fail
    go_ret2
    exact ⟨by rw [okI_ne P0.out]; rfl, hb0.trans (hb1.mono hb0.size)⟩
end Go.Proofs.Ytehebngkjfjkbaa
