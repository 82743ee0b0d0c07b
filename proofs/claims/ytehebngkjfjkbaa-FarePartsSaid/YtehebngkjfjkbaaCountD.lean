/-
  Counts: Fits, Peak.
-/
import Derived.Test.YtehebngkjfjkbaaCountC
import Derived.Deep.DeepCutAuto
namespace Go.Proofs.Ytehebngkjfjkbaa
open Go.RowKit Go.Shelf

/-- The elements from a to b. -/
def seg (l : List Int) (a b : Int) : List Int := (l.drop a.toNat).take (b.toNat - a.toNat)
def fitsE (l : List Int) (legs : Int) (s : Span) (m most : Int) : Int := if readyE l legs s m ≠ 0 then readyE l legs s m else if soulsB most then 0 else 3
def fitsB (l : List Int) (s : Span) (m most : Int) : Bool := !(seg l s.frm s.upto).any fun k => decide (most < k + m)

theorem Sl.segm {w : World} {A : Option Addr} {n cap f t : Nat} {l : List Int} (h : Sl intC 1 w All A n cap l) (hft : f < t) (ht : t ≤ n) : Sl intC 1 w All (A.map fun x => x.add f) (t - f) (cap - f) (seg l f t) := by
  have hc := h.cut (k := f) (m := t) (by omega) ht
  rw [if_neg (by have := h.le; omega)] at hc
  unfold seg
  simpa using hc
theorem seg_mem {l : List Int} {a b x : Int} (h : x ∈ seg l a b) : x ∈ l := List.mem_of_mem_drop (List.mem_of_mem_take h)

theorem fits1_any (x m most : Int) (B C : Nat) (w : World) (hB : w.cell? ⟨B, 0, none⟩ = some (.int .i64 m)) (hC : w.cell? ⟨C, 0, none⟩ = some (.int .i64 most)) (hx : 0 ≤ x) (hx1 : x ≤ 60) (hm : 0 ≤ m) (hm1 : m ≤ 60) :
    Calls Try.prog 66 #[.int .i64 x, .pointer (some ⟨B, 0, none⟩), .pointer (some ⟨C, 0, none⟩)] w fun e w' => e = .returned (.bool (decide (most < x + m))) ∧ Below w.heap.size w w' := by
  go_enter Try.func66, Try.ntmps66
  go_wp2_with fail
  go_ret
  exact ⟨rfl, Below.refl _ _⟩

set_option maxHeartbeats 2000000 in
theorem Fits_any (A : Option Addr) (n cap : Nat) (l : List Int) (legs a b m most : Int) (w : World) (h : Sl intC 1 w All A n cap l) :
    Calls Try.prog 25 #[.slice A n cap, .int .i64 legs, .agg #[.int .i64 a, .int .i64 b], .int .i64 m, .int .i64 most] w fun e w' =>
      e = .returned (.tuple #[.bool (okB (fitsE l legs ⟨a, b⟩ m most) (fitsB l ⟨a, b⟩ m most)), .int .i64 (fitsE l legs ⟨a, b⟩ m most)]) ∧ Below w.heap.size w w' := by
  have hb0 : Below w.heap.size w (((w.alloc (.cells #[.int .i64 a, .int .i64 b] 40)).alloc (.cells #[.int .i64 m] 3)).alloc (.cells #[.int .i64 most] 3)) := (((Below.refl _ _).alloc (Nat.le_refl _) _).alloc (by simp) _).alloc (by simp; omega) _
  have hck := ready_any A n cap l legs a b m _ (h.below intC_good (by omega) hb0)
  have hso := fun W => souls_any most W
  obtain ⟨r, hr⟩ : ∃ r, r = readyE l legs ⟨a, b⟩ m := ⟨_, rfl⟩
  obtain ⟨ra, hra⟩ : ∃ ra, ra = fitsE l legs ⟨a, b⟩ m most := ⟨_, rfl⟩
  rw [← hra]
  rw [← hr] at hck
  have HK := Lib.hid hck
  clear hck
  have hlen := h.len
  by_cases hr0 : r = 0
  · subst hr0
    obtain ⟨g1, g2, g3, g4, g5, g6, g7, g8, g9⟩ := ready_ok hr.symm
    simp only at g5 g6 g7
    have HRA := Lib.hid (show ra = if soulsB most then 0 else 3 by rw [hra]; unfold fitsE; rw [if_neg (by rw [← hr]; simp)])
    have HG4 := Lib.hid g4
    cases hq : soulsB most
    · rw [hq] at hso
      have hra' : ra = 3 := by rw [HRA.out, hq]; rfl
      subst hra'
      clear hq hr hra g4 hlen
      go_enter Try.func25, Try.ntmps25
      go_wp2_with fail
      refine HK.out.mono ?_
      rintro e w1 ⟨rfl, hb1⟩
      have hx2 : w1.cell? ⟨w.heap.size + 1 + 1, 0, none⟩ = some (.int .i64 most) := cell_of_one ((hb1.block _ (by simp)).trans (blk3_2 _ _ _ _))
      replace hb1 := hb0.trans (hb1.mono hb0.size)
      go_wp2_with (go_at_call 64; refine (hso _).mono ?_; rintro e w' ⟨rfl, rfl⟩)
      go_ret2
      exact ⟨rfl, hb1⟩
    · rw [hq] at hso
      have hra' : ra = 0 := by rw [HRA.out, hq]; rfl
      subst hra'
      obtain ⟨f, rfl⟩ := Int.eq_ofNat_of_zero_le g5
      obtain ⟨t, rfl⟩ := Int.eq_ofNat_of_zero_le (show 0 ≤ b by omega)
      have hn7 : n ≤ 7 := by omega
      have htn : t ≤ n := by omega
      have hft : f < t := by omega
      have hle := h.le
      clear hq hr hra g4 hlen
      go_enter Try.func25, Try.ntmps25
      go_wp2_with fail
      refine HK.out.mono ?_
      rintro e w1 ⟨rfl, hb1⟩
      have hx0 : w1.cell? ⟨w.heap.size, 0, none⟩ = some (.int .i64 f) := cell_of_blk ((hb1.block _ (by simp; omega)).trans (blk3_0 _ _ _ _)) rfl
      have hx1 : w1.cell? ⟨w.heap.size, 1, none⟩ = some (.int .i64 t) := cell_of_blk ((hb1.block _ (by simp; omega)).trans (blk3_0 _ _ _ _)) rfl
      have hx3 : w1.cell? ⟨w.heap.size + 1, 0, none⟩ = some (.int .i64 m) := cell_of_one ((hb1.block _ (by simp)).trans (blk3_1 _ _ _ _))
      have hx2 : w1.cell? ⟨w.heap.size + 1 + 1, 0, none⟩ = some (.int .i64 most) := cell_of_one ((hb1.block _ (by simp)).trans (blk3_2 _ _ _ _))
      have hb1' := hb0.trans (hb1.mono hb0.size)
      have hsl := (h.below intC_good (by omega) hb1').segm hft htn
      have hcf := ContainsFunc_int _ _ _ _ 66 #[.pointer (some ⟨w.heap.size + 1, 0, none⟩), .pointer (some ⟨w.heap.size + 1 + 1, 0, none⟩)] (fun k => decide (most < k + m)) w1 hsl (enters_of Try.func66 (by kernel_rfl) rfl)
        (fun x w2 hx hb2 => by
          have := soulsB_iff.1 (List.all_eq_true.1 HG4.out x (seg_mem hx))
          simpa using fits1_any x m most (w.heap.size + 1) (w.heap.size + 1 + 1) w2 ((hb2.cell (p := ⟨w.heap.size + 1, 0, none⟩) (cell_lt hx3)).trans hx3) ((hb2.cell (p := ⟨w.heap.size + 1 + 1, 0, none⟩) (cell_lt hx2)).trans hx2) this.1 this.2 g8 g9)
      have HC := Lib.hid hcf
      clear hcf hsl
      go_wp2_with (go_at_call 64; refine (hso _).mono ?_; rintro e w' ⟨rfl, rfl⟩)
      refine HC.out.mono ?_
      rintro e w2 ⟨rfl, hb2⟩
      go_wp2_with fail
      go_ret2
      exact ⟨rfl, hb1'.trans (hb2.mono hb1'.size)⟩
  · have hr' : (r == 0) = false := by simpa using hr0
    have hr2 : (r != 0) = true := by simpa using hr0
    have he : ra = r := by rw [hra]; unfold fitsE; rw [if_pos (by rw [← hr]; exact hr0)]; exact hr.symm
    subst he
    have HR := Lib.hid hr0
    clear hr hra hr0 hlen
    go_enter Try.func25, Try.ntmps25
    go_wp2_with fail
    refine HK.out.mono ?_
    rintro e w1 ⟨rfl, hb1⟩
    go_wp2_with fail
    go_ret2
    exact ⟨by rw [okB_ne HR.out]; rfl, hb0.trans (hb1.mono hb0.size)⟩

def peakE (l : List Int) (legs : Int) (s : Span) : Int := readyE l legs s 0
def peakV (l : List Int) (s : Span) : Int := mx (seg l s.frm s.upto)
def peakI (l : List Int) (s : Span) : Int := s.frm + idxF (fun x => peakV l s == x) (seg l s.frm s.upto)

set_option maxHeartbeats 2000000 in
theorem Peak_any (A : Option Addr) (n cap : Nat) (l : List Int) (legs a b : Int) (w : World) (h : Sl intC 1 w All A n cap l) :
    Calls Try.prog 26 #[.slice A n cap, .int .i64 legs, .agg #[.int .i64 a, .int .i64 b]] w fun e w' =>
      e = .returned (.tuple #[.int .i64 (okI (peakE l legs ⟨a, b⟩) (peakV l ⟨a, b⟩)), .int .i64 (okI (peakE l legs ⟨a, b⟩) (peakI l ⟨a, b⟩)), .int .i64 (peakE l legs ⟨a, b⟩)]) ∧ Below w.heap.size w w' := by
  have hb0 : Below w.heap.size w (w.alloc (.cells #[.int .i64 a, .int .i64 b] 40)) := (Below.refl _ _).alloc (Nat.le_refl _) _
  have hck := ready_any A n cap l legs a b 0 _ (h.below intC_good (by omega) hb0)
  obtain ⟨r, hr⟩ : ∃ r, r = peakE l legs ⟨a, b⟩ := ⟨_, rfl⟩
  rw [show readyE l legs ⟨a, b⟩ 0 = peakE l legs ⟨a, b⟩ from rfl, ← hr] at hck
  rw [← hr]
  have HK := Lib.hid hck
  clear hck
  have hlen := h.len
  by_cases hr0 : r = 0
  · subst hr0
    obtain ⟨g1, g2, g3, g4, g5, g6, g7, g8, g9⟩ := ready_ok hr.symm
    simp only at g5 g6 g7
    have HG4 := Lib.hid g4
    obtain ⟨f, rfl⟩ := Int.eq_ofNat_of_zero_le g5
    obtain ⟨t, rfl⟩ := Int.eq_ofNat_of_zero_le (show 0 ≤ b by omega)
    have hn7 : n ≤ 7 := by omega
    have htn : t ≤ n := by omega
    have hft : f < t := by omega
    have hle := h.le
    obtain ⟨m, hm⟩ : ∃ m, m = peakV l ⟨f, t⟩ := ⟨_, rfl⟩
    have HI := Lib.hid (show peakI l ⟨f, t⟩ = (f : Int) + idxF (fun x => m == x) (seg l f t) by rw [hm]; rfl)
    have HM := Lib.hid hm
    have hi := idxF_bd (p := fun x => m == x) (l := seg l f t) (by have := (h.segm hft htn).len; omega)
    obtain ⟨q, hq⟩ : ∃ q, q = idxF (fun x => m == x) (seg l f t) := ⟨_, rfl⟩
    have hqb : q ≤ 1000 := by rw [hq]; unfold idxF; have h1 := (h.segm hft htn).len; have h2 := List.findIdx_le_length (p := fun x => m == x) (xs := seg l f t); split <;> omega
    rw [← hq] at hi HI
    have HQ := Lib.hid hq
    clear hr g4 hlen hm hq
    go_enter Try.func26, Try.ntmps26
    go_wp2_with fail
    refine HK.out.mono ?_
    rintro e w1 ⟨rfl, hb1⟩
    have hx0 : w1.cell? ⟨w.heap.size, 0, none⟩ = some (.int .i64 f) := cell_of_blk ((hb1.block _ (by simp)).trans (blk1 _ _)) rfl
    have hx1 : w1.cell? ⟨w.heap.size, 1, none⟩ = some (.int .i64 t) := cell_of_blk ((hb1.block _ (by simp)).trans (blk1 _ _)) rfl
    replace hb1 := hb0.trans (hb1.mono hb0.size)
    have hsl := (h.below intC_good (by omega) hb1).segm hft htn
    have hmax := Max_int _ _ _ _ w1 hsl (by omega) (fun x hx => (soulsB_iff.1 (List.all_eq_true.1 HG4.out x (seg_mem hx))).1)
    rw [show mx (seg l f t) = m from HM.out.symm] at hmax
    go_wp2_with fail
    refine hmax.mono ?_
    rintro e w2 ⟨rfl, rfl⟩
    clear hmax
    have hlf : (f : Int) ≤ (t : Int) := by omega
    have hidx := fun nq => Index_int _ _ _ _ m (w2.drewN nq) (hsl.below intC_good (by omega) (below_drewN (Below.refl _ _) nq))
    rw [← HQ.out] at hidx
    go_upto_region 5 with (fail)
    go_quiet (first | (go_at_call 68; refine Calls.quiet_of_same (hidx _)))
    go_wp2_with fail
    go_ret3
    exact ⟨by rw [HI.out, HM.out]; rfl, below_drewN hb1 _⟩
  · have hr2 : (r != 0) = true := by simpa using hr0
    have HR := Lib.hid hr0
    clear hr hr0 hlen
    go_enter Try.func26, Try.ntmps26
    go_wp2_with fail
    refine HK.out.mono ?_
    rintro e w1 ⟨rfl, hb1⟩
    go_wp2_with fail
    go_ret3
    exact ⟨by rw [okI_ne HR.out, okI_ne HR.out]; rfl, hb0.trans (hb1.mono hb0.size)⟩
end Go.Proofs.Ytehebngkjfjkbaa
