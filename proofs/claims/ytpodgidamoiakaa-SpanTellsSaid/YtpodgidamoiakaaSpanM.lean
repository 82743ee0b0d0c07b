/-
  Spans: the reference FreeOf: leg by leg.
-/
import Derived.Test.YtpodgidamoiakaaSpanL
namespace Go.Proofs.Ytpodgidamoiakaa
open Go.RowKit Go.Shelf

def takenB (l : List Span) (i : Int) : Bool := l.any (legB i)
def setLast (P : List Span) (u : Int) : List Span := P.set (P.length - 1) ⟨(P[P.length - 1]?.getD default).frm, u⟩
/-- What is free of the first legs; is the last one of them? -/
def frS (l : List Span) : Nat → List Span × Bool
  | 0 => ([], false)
  | i + 1 => if takenB l i then ((frS l i).1, false) else if (frS l i).2 then (setLast (frS l i).1 ((i : Int) + 1), true) else ((frS l i).1 ++ [⟨i, (i : Int) + 1⟩], true)
theorem frS_taken {l : List Span} {i : Nat} (h : takenB l i = true) : frS l (i + 1) = ((frS l i).1, false) := by rw [frS, if_pos h]
theorem frS_open {l : List Span} {i : Nat} (h : takenB l i = false) (ho : (frS l i).2 = true) : frS l (i + 1) = (setLast (frS l i).1 ((i : Int) + 1), true) := by rw [frS, if_neg (by simp [h]), if_pos ho]
theorem frS_shut {l : List Span} {i : Nat} (h : takenB l i = false) (ho : (frS l i).2 = false) : frS l (i + 1) = ((frS l i).1 ++ [⟨i, (i : Int) + 1⟩], true) := by rw [frS, if_neg (by simp [h]), if_neg (by simp [ho])]
theorem frS_len (l : List Span) (i : Nat) : (frS l i).1.length ≤ i ∧ ((frS l i).2 = true → 0 < (frS l i).1.length) := by
  induction i with
  | zero => exact ⟨Nat.le_refl _, by simp [frS]⟩
  | succ i ih =>
    cases h : takenB l i with
    | true => rw [frS_taken h]; exact ⟨by simp only; omega, by simp⟩
    | false =>
      cases ho : (frS l i).2 with
      | true => rw [frS_open h ho]; have := ih.2 ho; exact ⟨by simp [setLast]; omega, by simp [setLast]; exact this⟩
      | false => rw [frS_shut h ho]; exact ⟨by simp; omega, by simp⟩

set_option maxRecDepth 100000 in
set_option maxHeartbeats 8000000 in
theorem FreeOf_any (A : Option Addr) (n cap : Nat) (l : List Span) (N : Nat) (w : World) (h : Sl spanC 2 w All A n cap l) (hN : N ≤ 7) (hok : ∀ x ∈ l, OkSp x) :
    Calls Try.prog 27 #[.slice A n cap, .int .i64 N] w fun e w' => ∃ v xs, e = .returned v ∧ Own spanC 2 45 w' w.heap.size v (frS l N).1 xs ∧ Below w.heap.size w w' := by
  have hbd := h.bd
  have HLN := Lib.hid h.len
  have HOK := Lib.hid hok
  clear hok
  have HH := Lib.hid h
  clear h
  go_enter Try.func27, Try.ntmps27
  go_wp2_with fail
  go_loopg [5, 6, 7] N (fun gk o p i wr => ∃ k : Nat, k ≤ N ∧ N - k ≤ gk ∧ i = .int .i64 k ∧ p = .bool (frS l k).2 ∧ ∃ xs, Own spanC 2 45 wr w.heap.size o (frS l k).1 xs ∧ Below w.heap.size w wr)
  case atStart => exact ⟨0, Nat.zero_le _, by omega, rfl, rfl, [], Own.nil _ _ _ _ _, Below.refl _ _⟩
  case round =>
    obtain ⟨k, hk, hgk, rfl, rfl, xs, hO, hb⟩ := hrel
    obtain ⟨A2, n2, cap2, rfl, _⟩ := hO.sl spanC_good
    by_cases hlt : k < N
    · have HO := Lib.hid hO
      have HFS := Lib.hid (frS_len l k)
      obtain ⟨q, hq⟩ : ∃ q, q = (frS l k).2 := ⟨_, rfl⟩
      rw [← hq]
      have HQ := Lib.hid hq
      clear hq
      clear hO
      have hsz := hb.size
      go_upto_region 8 with (fail)
      go_loopg [8, 9] n (fun gk2 t j wr2 => ∃ m : Nat, m ≤ n ∧ n - m ≤ gk2 ∧ j = .int .i64 m ∧ t = .bool ((l.take m).any (legB k)) ∧ Below wr.heap.size wr wr2)
      case atStart => exact ⟨0, Nat.zero_le _, by omega, rfl, rfl, Below.refl _ _⟩
      case round =>
        obtain ⟨m, hm, hgm, rfl, rfl, hb2⟩ := hrel
        by_cases hml : m < n
        · obtain ⟨b, off, x, c0, c1, rfl, hx, ⟨hc, _⟩, g0, g1⟩ := (HH.out.bel (hb.trans (hb2.mono hb.size))).at2 hml
          simp only [List.cons.injEq, and_true] at hc
          obtain ⟨rfl, rfl⟩ := hc
          have hox := HOK.out x (List.mem_of_getElem? hx)
          have hw1 : wrap64 (x.upto - 1) = x.upto - 1 := by unfold OkSp at hox; unfold wrap64; omega
          have HS := Lib.hid (any_take_succ (p := legB (k : Int)) hx)
          obtain ⟨t, ht⟩ : ∃ t, t = (l.take m).any (legB (k : Int)) := ⟨_, rfl⟩
          rw [← ht] at HS ⊢
          have hbt := fun W => between_any (k : Int) x.frm (x.upto - 1) W
          rw [show betB (k : Int) x.frm (x.upto - 1) = legB (k : Int) x from rfl] at hbt
          obtain ⟨z, hz⟩ : ∃ z, z = legB (k : Int) x := ⟨_, rfl⟩
          rw [← hz] at hbt
          have HBT := Lib.hid hbt
          clear hbt
          have HZ := Lib.hid hz
          clear hz
          clear hx hox ht
          cases t
          · go_wp2_with fail
            go_quiet (first | (go_at_call 49; refine Calls.quiet_of_same ((HBT.out _).mono fun e w' hh => ⟨hh.1, hh.2.symm⟩)))
            go_wp2_with fail
            go_roundg (n - (m + 1))
            case measure => omega
            case rel => exact ⟨m + 1, by omega, by omega, by go_num, by rw [HS.out, ← HZ.out]; rfl, below_drewN hb2 _⟩
          · go_wp2_with fail
            go_quiet (fail)
            go_wp2_with fail
            go_roundg (n - (m + 1))
            case measure => omega
            case rel => exact ⟨m + 1, by omega, by omega, by go_num, by rw [HS.out]; rfl, below_drewN hb2 _⟩
        · obtain rfl : m = n := by omega
          have hT : l.take m = l := List.take_of_length_le (Nat.le_of_eq HLN.out)
          rw [hT]
          obtain ⟨t, ht⟩ : ∃ t, t = takenB l (k : Int) := ⟨_, rfl⟩
          rw [show l.any (legB (k : Int)) = t from ht.symm]
          have hOw := HO.out.bel hb2
          have hbb := hb.trans (hb2.mono hb.size)
          have hsz2 := hbb.size
          obtain ⟨F, hF⟩ : ∃ F, F = (frS l k).1 := ⟨_, rfl⟩
          have hFl := HFS.out
          rw [← hF] at hOw hFl
          rw [← HQ.out] at hFl
          have hF7 : F.length ≤ 7 := by omega
          cases t with
          | true =>
            have HV := Lib.hid (show frS l (k + 1) = (F, false) by rw [hF]; exact frS_taken ht.symm)
            have HOW := Lib.hid hOw
            clear hT ht hF hFl hOw
            go_wp2_with fail
            go_roundg (N - (k + 1))
            case measure => omega
            case rel => exact ⟨k + 1, by omega, by omega, by go_num, by rw [HV.out], xs, by rw [HV.out]; exact HOW.out, hbb⟩
          | false =>
            cases q with
            | false =>
              have HV := Lib.hid (show frS l (k + 1) = (F ++ [⟨k, (k : Int) + 1⟩], true) by rw [hF]; exact frS_shut ht.symm HQ.out.symm)
              have hOq := hOw.below spanC_good (bel1 wr (.cells #[.int .i64 (k : Int), .int .i64 ((k : Int) + 1)] 45))
              have hsq : w.heap.size ≤ (wr.alloc (.cells #[.int .i64 (k : Int), .int .i64 ((k : Int) + 1)] 45)).heap.size := by simp; omega
              have HF7 := Lib.hid hF7
              clear hT ht hF hFl hOw hF7
              go_wp2_with (at_builtin; refine list_app (t := 43) (e := 45) (bytes := 16) rfl (.tmp 37) (.tmp 42) rfl span_elem spanC_good rfl hOq rfl (sl_span _ All (k : Int) ((k : Int) + 1) 45 (.of (by omega) (by omega)) (.of (by omega) (by omega)) trivial) (fun _ _ hc => hc) (by have := HF7.out; omega) (by omega) hsq ?_; intro v' w' xs' hown' hg' _)
              go_roundg (N - (k + 1))
              case measure => omega
              case rel => exact ⟨k + 1, by omega, by omega, by go_num, by rw [HV.out], xs', by rw [HV.out]; exact hown', below_app (hbb.alloc hsz2 _) hOq hg' hsq⟩
            | true =>
              have HV := Lib.hid (show frS l (k + 1) = (setLast F ((k : Int) + 1), true) by rw [hF]; exact frS_open ht.symm HQ.out.symm)
              have hF0 : 0 < F.length := hFl.2 rfl
              obtain ⟨gg, cc, hve, hgg, hgl⟩ := hOw.form hF0
              simp only [Value.slice.injEq] at hve
              obtain ⟨rfl, rfl, rfl⟩ := hve
              obtain ⟨x, hx⟩ : ∃ x, F[F.length - 1]? = some x := ⟨_, List.getElem?_eq_getElem (by omega)⟩
              obtain ⟨cs, ⟨rfl, _⟩, _, hcell, hfr⟩ := hOw.cells hx
              have e1 := hcell 1 _ rfl
              have f1 := hfr ((F.length - 1) * 2 + 1)
              have hin : InI ((k : Int) + 1) := .of (by omega) (by omega)
              have hput := Own.put (j := 1) (x' := ⟨x.frm, (k : Int) + 1⟩) (u := .int .i64 ((k : Int) + 1)) spanC_flat hOw hx (by omega) (fun _ _ cs hc => by obtain ⟨rfl, h1, _⟩ := hc; exact ⟨rfl, h1, hin⟩)
              have hsl : F.set (F.length - 1) ⟨x.frm, (k : Int) + 1⟩ = setLast F ((k : Int) + 1) := by unfold setLast; rw [hx]; rfl
              rw [hsl] at hput
              obtain ⟨j, hj⟩ : ∃ j, F.length = j + 1 := ⟨F.length - 1, by omega⟩
              rw [hj, Nat.add_sub_cancel] at e1 f1 hput
              have hj7 : j ≤ 6 := by omega
              have HPUT := Lib.hid hput
              clear hput
              rw [hj]
              clear hT ht hF hFl hOw hx hcell hfr hsl hF7 hF0 hj
              go_wp2_with fail
              go_roundg (N - (k + 1))
              case measure => omega
              case rel => exact ⟨k + 1, by omega, by omega, by go_num, by rw [HV.out], _, by rw [HV.out]; exact HPUT.out, hbb.setCell (p := ⟨gg, j * 2 + 1, none⟩) hgg _⟩
    · obtain rfl : k = N := by omega
      have HO := Lib.hid hO
      clear hO
      go_wp2_with fail
      go_ret
      exact ⟨_, _, rfl, HO.out, hb⟩
end Go.Proofs.Ytpodgidamoiakaa
