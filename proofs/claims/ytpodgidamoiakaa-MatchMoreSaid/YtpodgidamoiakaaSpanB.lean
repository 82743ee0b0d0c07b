/-
  Spans: Meet, Meets, calendar, ready, Gaps, Free.
-/
import Derived.Test.YtpodgidamoiakaaSpanA
import Derived.LoopN
namespace Go.Proofs.Ytpodgidamoiakaa
open Go.RowKit Go.Shelf

instance spanK : CodK spanC 2 := ⟨spanC_good, by omega⟩
theorem span_elem : ElemOf Try.prog 43 45 2 16 := .mk' Try.underlying43 (z := .agg #[.int .i64 0, .int .i64 0]) (by kernel_rfl) rfl (by omega)
theorem sl_span (w : World) (S : Nat → Prop) (a b : Int) (t : TypeId) (ha : InI a) (hb : InI b) (hS : S w.heap.size) : Sl spanC 2 (w.alloc (.cells #[.int .i64 a, .int .i64 b] t)) S (some ⟨w.heap.size, 0, none⟩) 1 1 [⟨a, b⟩] :=
  Sl.lit1 w S t (⟨a, b⟩ : Span) [.int .i64 a, .int .i64 b] ⟨rfl, ha, hb⟩ hS

/-- Have two spans a leg in common? -/
def meetB (a b : Span) : Bool := decide (a.frm < b.upto) && decide (b.frm < a.upto)
theorem Meet_any (a b c d : Int) (w : World) : Calls Try.prog 59 #[.agg #[.int .i64 a, .int .i64 b], .agg #[.int .i64 c, .int .i64 d]] w fun e w' => e = .returned (.bool (meetB ⟨a, b⟩ ⟨c, d⟩)) ∧ Below w.heap.size w w' := by
  by_cases h1 : a < d
  · by_cases h2 : c < b
    · have HM := Lib.hid (show meetB ⟨a, b⟩ ⟨c, d⟩ = true by simp [meetB, h1, h2])
      go_enter Try.func59, Try.ntmps59
      go_wp2_with fail
      go_ret
      exact ⟨retB (by rw [HM.out]), bel2 _ _ _⟩
    · have HM := Lib.hid (show meetB ⟨a, b⟩ ⟨c, d⟩ = false by simp [meetB]; omega)
      go_enter Try.func59, Try.ntmps59
      go_wp2_with fail
      go_ret
      exact ⟨retB (by rw [HM.out]), bel2 _ _ _⟩
  · have HM := Lib.hid (show meetB ⟨a, b⟩ ⟨c, d⟩ = false by simp [meetB]; omega)
    go_enter Try.func59, Try.ntmps59
    go_wp2_with fail
    go_ret
    exact ⟨retB (by rw [HM.out]), bel2 _ _ _⟩

/-- What is wrong with two spans of any voyage. -/
def meetsE (a b : Span) : Int := if spanE a 7 ≠ 0 then spanE a 7 else spanE b 7
set_option maxHeartbeats 2000000 in
theorem Meets_any (a b c d : Int) (w : World) (ia : InI a) (ib : InI b) (ic : InI c) (id : InI d) : Calls Try.prog 21 #[.agg #[.int .i64 a, .int .i64 b], .agg #[.int .i64 c, .int .i64 d]] w fun e w' =>
    e = .returned (.tuple #[.bool (okB (meetsE ⟨a, b⟩ ⟨c, d⟩) (meetB ⟨a, b⟩ ⟨c, d⟩)), .int .i64 (meetsE ⟨a, b⟩ ⟨c, d⟩)]) ∧ Below w.heap.size w w' := by
  obtain ⟨r, hr⟩ : ∃ r, r = meetsE ⟨a, b⟩ ⟨c, d⟩ := ⟨_, rfl⟩
  rw [← hr]
  obtain ⟨L, hL⟩ : ∃ L : List Span, L = [⟨a, b⟩, ⟨c, d⟩] := ⟨_, rfl⟩
  have HE := Lib.hid (show r = firstErr (fun i => spanE (L[i]?.getD default) 7) 2 by
    rw [hr, hL]; unfold meetsE; simp [firstErr])
  have HL := Lib.hid hL
  clear hL
  clear hr
  go_enter Try.func21, Try.ntmps21
  go_upto_region 0 with (fail)
  go_cut [2, 3] (fun x y wx => x = .pointer (some ⟨w.heap.size, 0, none⟩) ∧ y = .pointer (some ⟨w.heap.size + 1, 0, none⟩) ∧ SpanAt wx w.heap.size a b ∧ SpanAt wx (w.heap.size + 1) c d ∧ Below w.heap.size w wx)
  case first => as_aux_lemma =>
    go_wp2_with fail
    go_meet
    exact ⟨rfl, rfl, blk2_0 _ _ _, blk2_1 _ _ _, bel2 _ _ _⟩
  obtain ⟨rfl, rfl, hA, hB, hb0⟩ := hcut
  obtain ⟨W0, rfl⟩ : ∃ W0, W0 = wc := ⟨_, rfl⟩
  have a0 := hA.c0
  have a1 := hA.c1
  have b0 := hB.c0
  have b1 := hB.c1
  have hsl := Sl.ofBlk (c := spanC) (size := 2) (S := All) (Blk.new W0 #[.int .i64 a, .int .i64 b, .int .i64 c, .int .i64 d] 45) [⟨a, b⟩, ⟨c, d⟩] (by simp) trivial fun i x hx => by
    rcases i with _ | _ | i
    · simp at hx; subst hx
      exact ⟨_, ⟨rfl, ia, ib⟩, rfl, fun j u hu => by rcases j with _ | _ | j <;> simp_all⟩
    · simp at hx; subst hx
      exact ⟨_, ⟨rfl, ic, id⟩, rfl, fun j u hu => by rcases j with _ | _ | j <;> simp_all⟩
    · simp at hx
  simp only [List.length_cons, List.length_nil] at hsl
  rw [← HL.out] at hsl
  have hbl := bel1 W0 (.cells #[.int .i64 a, .int .i64 b, .int .i64 c, .int .i64 d] 45)
  go_wp2_with fail
  go_loopg [13] 2 (fun gk i wr => ∃ k : Nat, k ≤ 2 ∧ 2 - k ≤ gk ∧ i = .int .i64 k ∧ Aside (firstErr (fun i => spanE (L[i]?.getD default) 7) k = 0) ∧ Below (W0.alloc (.cells #[.int .i64 a, .int .i64 b, .int .i64 c, .int .i64 d] 45)).heap.size (W0.alloc (.cells #[.int .i64 a, .int .i64 b, .int .i64 c, .int .i64 d] 45)) wr)
  case atStart => exact ⟨0, Nat.zero_le _, by omega, rfl, rfl, Below.refl _ _⟩
  case round =>
    obtain ⟨k, hk, hgk, rfl, HZ, hb⟩ := hrel
    have hbw := hbl.trans (hb.mono hbl.size)
    by_cases hlt : k < 2
    · obtain ⟨b2, off, x, c0, c1, hAA, hx, ⟨hc, x0, x1⟩, g0, g1⟩ := (hsl.bel hb).at2 hlt
      injection hAA with hAA
      injection hAA with e1 e2 _
      subst e1 e2
      simp only [List.cons.injEq, and_true] at hc
      obtain ⟨rfl, rfl⟩ := hc
      have HX := Lib.hid hx
      clear hx
      simp only [Nat.zero_add] at g0 g1
      go_wp2_with fail
      refine (spanCheck_any x.frm x.upto 7 _).mono ?_
      rintro e w2 ⟨rfl, hb2⟩
      obtain ⟨q, hq⟩ : ∃ q, q = spanE ⟨x.frm, x.upto⟩ 7 := ⟨_, rfl⟩
      rw [← hq]
      have HQ := Lib.hid hq
      clear hq
      have hbA := (hbw.alloc hbw.size (.cells #[.int .i64 x.frm, .int .i64 x.upto] 45))
      have hbB := hb.alloc hb.size (.cells #[.int .i64 x.frm, .int .i64 x.upto] 45)
      replace hbB := hbB.trans (hb2.mono hbB.size)
      by_cases h0 : q = 0
      · subst h0
        go_wp2_with fail
        go_roundg (2 - (k + 1))
        case measure => omega
        case rel => exact ⟨k + 1, by omega, by omega, by go_num, (show Aside _ from (firstErr_succ HZ).trans (by rw [HX.out]; exact HQ.out.symm)), hbB⟩
      · have h0' : (q != 0) = true := by simpa using h0
        have hrq : r = q := by rw [HE.out, firstErr_at (n := 2) HZ (by rw [HX.out]; intro e; exact h0 (HQ.out.trans e)) hlt, HX.out]; exact HQ.out.symm
        subst hrq
        have H0 := Lib.hid h0
        clear h0
        go_wp2_with fail
        go_ret2
        exact ⟨by rw [okB_ne H0.out]; rfl, hb0.trans ((hbl.trans (hbB.mono hbl.size)).mono hb0.size)⟩
    · obtain rfl : k = 2 := by omega
      obtain rfl : r = 0 := by rw [HE.out]; exact HZ
      replace a0 := (hA.below hbw).c0
      replace a1 := (hA.below hbw).c1
      replace b0 := (hB.below hbw).c0
      replace b1 := (hB.below hbw).c1
      go_wp2_with fail
      refine (Meet_any a b c d _).mono ?_
      rintro e w2 ⟨rfl, hb2⟩
      go_wp2_with fail
      go_ret2
      exact ⟨rfl, hb0.trans ((hbw.trans (hb2.mono hbw.size)).mono hb0.size)⟩

/-- What is wrong with a calendar. -/
def calErr (l : List Span) (legs : Int) (i : Nat) : Int :=
  if spanE (l[i]?.getD default) legs ≠ 0 then spanE (l[i]?.getD default) legs else if 0 < i ∧ (l[i]?.getD default).frm < (l[i - 1]?.getD default).upto then 4 else 0
def calE (l : List Span) (legs : Int) : Int := if legsB legs = false then 3 else firstErr (calErr l legs) l.length

set_option maxHeartbeats 4000000 in
theorem calendar_any (A : Option Addr) (n cap : Nat) (l : List Span) (legs : Int) (w : World) (h : Sl spanC 2 w All A n cap l) :
    Calls Try.prog 60 #[.slice A n cap, .int .i64 legs] w fun e w' => e = .returned (.int .i64 (calE l legs)) ∧ Below w.heap.size w w' := by
  have hbd := h.bd
  have hlen := Lib.hid h.len
  obtain ⟨r, hr⟩ : ∃ r, r = calE l legs := ⟨_, rfl⟩
  rw [← hr]
  have HR := Lib.hid hr
  clear hr
  go_enter Try.func60, Try.ntmps60
  go_wp2_with fail
  refine (legs_any legs _).mono ?_
  rintro e w9 ⟨rfl, rfl⟩
  cases q_HG : legsB legs <;> have HG := Lib.hid q_HG <;> clear q_HG
  · obtain rfl : r = 3 := by rw [HR.out]; unfold calE; rw [if_pos HG.out]
    go_wp2_with fail
    go_ret
    exact ⟨rfl, Below.refl _ _⟩
  have HV := Lib.hid (show r = firstErr (calErr l legs) n by rw [HR.out]; unfold calE; rw [hlen.out, if_neg (by rw [HG.out]; simp)])
  go_wp2_with fail
  go_loopg [13] n (fun gk i wr => ∃ k : Nat, k ≤ n ∧ n - k ≤ gk ∧ i = .int .i64 k ∧ Aside (firstErr (calErr l legs) k = 0) ∧ Below w.heap.size w wr)
  case atStart => exact ⟨0, Nat.zero_le _, by omega, rfl, rfl, Below.refl _ _⟩
  case round =>
    obtain ⟨k, hk, hgk, rfl, HE, hb⟩ := hrel
    by_cases hlt : k < n
    · obtain ⟨b, off, x, c0, c1, rfl, hx, ⟨hc, b0, b1⟩, g0, g1⟩ := (h.bel hb).at2 hlt
      simp only [List.cons.injEq, and_true] at hc
      obtain ⟨rfl, rfl⟩ := hc
      have HX := Lib.hid hx
      clear hx
      have fin : ∀ q : Int, calErr l legs k = q → q ≠ 0 → r = q := fun q h1 h2 => by
        rw [HV.out, firstErr_at (n := n) HE (by rw [h1]; exact h2) hlt, h1]
      have Fin := Lib.hid fin
      clear fin
      have hbA := hb.alloc hb.size (.cells #[.int .i64 x.frm, .int .i64 x.upto] 45)
      have hxA : SpanAt (wr.alloc (.cells #[.int .i64 x.frm, .int .i64 x.upto] 45)) wr.heap.size x.frm x.upto := SpanAt.new _ _ _
      go_wp2_with fail
      refine (spanCheck_any x.frm x.upto legs _).mono ?_
      rintro e w2 ⟨rfl, hb2⟩
      replace hxA := hxA.below hb2
      replace hbA := hbA.trans (hb2.mono hbA.size)
      have x0 := hxA.c0
      obtain ⟨q, hq⟩ : ∃ q, q = spanE ⟨x.frm, x.upto⟩ legs := ⟨_, rfl⟩
      rw [← hq]
      have HQ := Lib.hid hq
      clear hq
      by_cases h0 : q = 0
      · subst h0
        have herr0 : k = 0 → calErr l legs k = 0 := fun h0 => by
          unfold calErr
          rw [HX.out, Option.getD_some, if_neg (by rw [show spanE x legs = 0 from HQ.out.symm]; simp), if_neg (by omega)]
        have herr : ∀ y, l[k - 1]? = some y → 0 < k → calErr l legs k = if x.frm < y.upto then 4 else 0 := fun y hy h0 => by
          unfold calErr
          rw [HX.out, Option.getD_some, if_neg (by rw [show spanE x legs = 0 from HQ.out.symm]; simp), hy, Option.getD_some]
          by_cases e : x.frm < y.upto
          · rw [if_pos ⟨h0, e⟩, if_pos e]
          · rw [if_neg (fun h => e h.2), if_neg e]
        have Herr := Lib.hid herr
        clear herr
        have Herr0 := Lib.hid herr0
        clear herr0
        rcases k with _ | k
        · go_wp2_with fail
          go_quiet (fail)
          go_wp2_with fail
          go_roundg (n - 1)
          case measure => omega
          case rel => exact ⟨1, by omega, by omega, rfl, (show Aside _ from (firstErr_succ HE).trans (Herr0.out (by trivial))), below_drewN hbA _⟩
        · obtain ⟨b2, off2, y, d0, d1, hA2, hy, ⟨hc2, y0, y1⟩, e0, e1⟩ := (h.bel hbA).at2 (show k < n by omega)
          injection hA2 with hA2
          injection hA2 with hb2 ho2 _
          subst hb2 ho2
          simp only [List.cons.injEq, and_true] at hc2
          obtain ⟨rfl, rfl⟩ := hc2
          have Hy := Lib.hid hy
          clear hy
          have hw : IntKind.i64.wrap (k : Int) = k := IntWalk.i64_in _ (by omega)
          have hgt : decide ((0 : Int) < (k : Int) + 1) = true := decide_eq_true (by omega)
          by_cases hd : x.frm < y.upto
          · obtain rfl : r = 4 := Fin.out 4 (by rw [Herr.out y (by simpa using Hy.out) (by omega), if_pos hd]) (by decide)
            have hd' : decide (x.frm < y.upto) = true := decide_eq_true hd
            go_wp2_with fail
            go_quiet (fail)
            go_wp2_with fail
            go_ret
            exact ⟨rfl, below_drewN hbA _⟩
          · have hd' : decide (x.frm < y.upto) = false := decide_eq_false hd
            have HD := Lib.hid hd
            go_wp2_with fail
            go_quiet (fail)
            go_wp2_with fail
            go_roundg (n - (k + 1 + 1))
            case measure => omega
            case rel => exact ⟨k + 1 + 1, by omega, by omega, by go_num, (show Aside _ from (firstErr_succ HE).trans (by rw [Herr.out y (by simpa using Hy.out) (by omega), if_neg (by have := HD.out; omega)])), below_drewN hbA _⟩
      · have h0' : (q != 0) = true := by simpa using h0
        obtain rfl : r = q := Fin.out q (by
          unfold calErr
          rw [HX.out, Option.getD_some, if_pos (by intro e; exact h0 (HQ.out.trans e))]; exact HQ.out.symm) h0
        clear h0
        go_wp2_with fail
        go_ret
        exact ⟨rfl, hbA⟩
    · obtain rfl : k = n := by omega
      obtain rfl : r = 0 := by rw [HV.out]; exact HE
      go_wp2_with fail
      go_ret
      exact ⟨rfl, hb⟩

def readySpE (l : List Span) (legs : Int) (s : Span) : Int := if calE l legs ≠ 0 then calE l legs else spanE s legs
theorem readySp_any (A : Option Addr) (n cap : Nat) (l : List Span) (legs a b : Int) (w : World) (h : Sl spanC 2 w All A n cap l) :
    Calls Try.prog 62 #[.slice A n cap, .int .i64 legs, .agg #[.int .i64 a, .int .i64 b]] w fun e w' => e = .returned (.int .i64 (readySpE l legs ⟨a, b⟩)) ∧ Below w.heap.size w w' := by
  obtain ⟨r, hr⟩ : ∃ r, r = readySpE l legs ⟨a, b⟩ := ⟨_, rfl⟩
  obtain ⟨q, hq⟩ : ∃ q, q = calE l legs := ⟨_, rfl⟩
  have hc := fun w h => calendar_any A n cap l legs w h
  rw [← hr]
  rw [← hq] at hc
  have HR := Lib.hid (show r = if q ≠ 0 then q else spanE ⟨a, b⟩ legs by rw [hr, hq]; rfl)
  have HC := Lib.hid hc
  clear hc
  clear hr hq
  have hb := bel1 w (.cells #[.int .i64 a, .int .i64 b] 45)
  have hS := SpanAt.new w a b
  go_enter Try.func62, Try.ntmps62
  go_wp2_with fail
  refine (HC.out _ (h.bel hb)).mono ?_
  rintro e w2 ⟨rfl, hb2⟩
  replace hS := hS.below hb2
  replace hb := hb.trans (hb2.mono hb.size)
  have s0 := hS.c0
  have s1 := hS.c1
  by_cases h0 : q = 0
  · subst h0
    have HR2 := Lib.hid (show r = spanE ⟨a, b⟩ legs by rw [HR.out]; rfl)
    go_wp2_with fail
    refine (spanCheck_any a b legs _).mono ?_
    rintro e w3 ⟨rfl, hb3⟩
    go_wp2_with fail
    go_ret
    exact ⟨retI HR2.out.symm, hb.trans (hb3.mono hb.size)⟩
  · have h0' : (q == 0) = false := by simpa using h0
    obtain rfl : r = q := by rw [HR.out, if_pos h0]
    clear h0
    go_wp2_with fail
    go_ret
    exact ⟨rfl, hb⟩
end Go.Proofs.Ytpodgidamoiakaa
