/-
  Spans: the references TakeSpan, AddSpan.
-/
import Derived.Test.YtpodgidamoiakaaSpanJ
namespace Go.Proofs.Ytpodgidamoiakaa
open Go.RowKit Go.Shelf

def notSp (s : Span) (x : Span) : Bool := !spanQ x s
def takeR (l : List Span) (s : Span) : List Span := l.filter (notSp s)
theorem takeR_succ {l : List Span} {k : Nat} {x : Span} (s : Span) (h : l[k]? = some x) : (l.take (k + 1)).filter (notSp s) = (l.take k).filter (notSp s) ++ if notSp s x then [x] else [] := by
  rw [take_snoc h, List.filter_append]
  congr 1
  cases q : notSp s x <;> simp [q]
def tkE (R l : List Span) : Int := if R.length = l.length then 5 else 0
def tkL (R l : List Span) : List Span := if R.length = l.length then [] else R
theorem takeR_len (l : List Span) (s : Span) : (takeR l s).length ≤ l.length := List.length_filter_le _ _

set_option maxRecDepth 100000 in
set_option maxHeartbeats 4000000 in
theorem TakeSpan_any (A : Option Addr) (n cap : Nat) (l : List Span) (s : Span) (w : World) (h : Sl spanC 2 w All A n cap l) (hl : l.length ≤ 1000) :
    Calls Try.prog 29 #[.slice A n cap, .agg #[.int .i64 s.frm, .int .i64 s.upto]] w fun e w' => ∃ v xs, e = .returned (.tuple #[v, .int .i64 (tkE (takeR l s) l)]) ∧
      Own spanC 2 45 w' w.heap.size v (tkL (takeR l s) l) xs ∧ Below w.heap.size w w' := by
  have hbd := h.bd
  have HLN := Lib.hid h.len
  obtain ⟨R, hR⟩ : ∃ R, R = takeR l s := ⟨_, rfl⟩
  rw [← hR]
  have HR := Lib.hid hR
  clear hR
  have hn1 : n ≤ 1000 := by rw [← HLN.out]; exact hl
  clear hl
  go_enter Try.func29, Try.ntmps29
  go_upto_region 0 with (fail)
  go_cut [3] (fun p wx => ∃ g, p = .pointer (some ⟨g, 0, none⟩) ∧ SpanAt wx g s.frm s.upto ∧ Below w.heap.size w wx)
  case first => as_aux_lemma =>
    go_wp2_with fail
    go_meet
    exact ⟨_, rfl, blk1 _ _, bel1 _ _⟩
  obtain ⟨g, rfl, hS, hb0⟩ := hcut
  replace h := h.bel hb0
  go_wp2_with fail
  go_loopg [6, 7] n (fun gk o i wr => ∃ k : Nat, k ≤ n ∧ n - k ≤ gk ∧ i = .int .i64 k ∧ ∃ xs, Own spanC 2 45 wr wc.heap.size o ((l.take k).filter (notSp s)) xs ∧ Below wc.heap.size wc wr)
  case atStart => exact ⟨0, Nat.zero_le _, by omega, rfl, [], Own.nil _ _ _ _ _, Below.refl _ _⟩
  case round =>
    obtain ⟨k, hk, hgk, rfl, xs, hO, hb⟩ := hrel
    obtain ⟨A2, n2, cap2, rfl, _⟩ := hO.sl spanC_good
    by_cases hlt : k < n
    · obtain ⟨b, off, x, c0, c1, rfl, hx, ⟨hc, x0, x1⟩, g0, g1⟩ := (h.bel hb).at2 hlt
      simp only [List.cons.injEq, and_true] at hc
      obtain ⟨rfl, rfl⟩ := hc
      have HT := Lib.hid (takeR_succ s hx)
      have hS1 := hS.below hb
      have s0 := hS1.c0
      have s1 := hS1.c1
      have hq := fun W => span_ne x s W
      have hfl : ((l.take k).filter (notSp s)).length ≤ 1000 := by
        have h1 := List.length_filter_le (notSp s) (l.take k)
        have h2 := List.length_take_le k l
        omega
      obtain ⟨L, hL⟩ : ∃ L, L = (l.take k).filter (notSp s) := ⟨_, rfl⟩
      rw [← hL] at hO HT hfl
      have HFL := Lib.hid hfl
      clear hx hL hfl
      by_cases e : x = s
      · have hd : decide (x ≠ s) = false := by simp [e]
        have HT2 := Lib.hid (show (l.take (k + 1)).filter (notSp s) = L by rw [HT.out, show notSp s x = false by simp [notSp, spanQ, e]]; simp)
        clear e
        go_wp2_with fail
        go_quiet (fail)
        go_wp2_with fail
        go_roundg (n - (k + 1))
        case measure => omega
        case rel => exact ⟨k + 1, by omega, by omega, by go_num, xs, by rw [HT2.out]; exact hO.bel (below_drewN (Below.refl _ _) _), below_drewN hb _⟩
      · have hd : decide (x ≠ s) = true := by simp [e]
        have HT2 := Lib.hid (show (l.take (k + 1)).filter (notSp s) = L ++ [x] by rw [HT.out, show notSp s x = true by simp [notSp, spanQ, e]]; rfl)
        clear e
        go_wp2_with fail
        go_quiet (fail)
        have hbq := below_drewN hb nq
        have hOq := (hO.bel (below_drewN (Below.refl wr.heap.size wr) nq)).below spanC_good (bel1 (wr.drewN nq) (.cells #[.int .i64 x.frm, .int .i64 x.upto] 45))
        have hsz := hbq.size
        have hsz2 := hb.size
        go_wp2_with (at_builtin; refine list_app (t := 43) (e := 45) (bytes := 16) rfl (.tmp 20) (.tmp 25) rfl span_elem spanC_good rfl hOq rfl (sl_span _ All x.frm x.upto 45 x0 x1 trivial) (fun _ _ hc => hc) (by have := HFL.out; omega) (by omega) (by simp; omega) ?_; intro v' w' xs' hown' hg' _)
        go_roundg (n - (k + 1))
        case measure => omega
        case rel => exact ⟨k + 1, by omega, by omega, by go_num, xs', by rw [HT2.out]; exact hown', below_app (hbq.alloc hsz _) hOq hg' (by simp; omega)⟩
    · obtain rfl : k = n := by omega
      have hT : l.take k = l := List.take_of_length_le (Nat.le_of_eq HLN.out)
      have hRR : (l.take k).filter (notSp s) = R := by rw [hT, HR.out]; rfl
      rw [hRR] at hO
      have hn2 : n2 = R.length := by
        obtain ⟨A3, n3, c3, he, hs3⟩ := hO.sl spanC_good
        simp only [Value.slice.injEq] at he
        rw [he.2.1, hs3.len]
      have hbb := hb0.trans (hb.mono hb0.size)
      have HO := Lib.hid hO
      have HB := Lib.hid hbb
      have hln := HLN.out
      clear hT hRR hO hbb hS
      subst hn2
      by_cases e : R.length = l.length
      · have hk2 : ((R.length : Int) == (k : Int)) = true := by simp; omega
        have HE := Lib.hid (show tkE R l = 5 from if_pos e)
        have HE2 := Lib.hid (show tkL R l = [] from if_pos e)
        clear e
        go_wp2_with fail
        go_ret2
        exact ⟨_, _, by rw [HE.out]; rfl, by rw [HE2.out]; exact Own.nil _ _ _ _ _, HB.out⟩
      · have hk2 : ((R.length : Int) == (k : Int)) = false := by simp; omega
        have HE := Lib.hid (show tkE R l = 0 from if_neg e)
        have HE2 := Lib.hid (show tkL R l = R from if_neg e)
        clear e
        go_wp2_with fail
        go_ret2
        exact ⟨_, _, by rw [HE.out]; rfl, by rw [HE2.out]; exact HO.out.mono spanC_good hb0.size, HB.out⟩
end Go.Proofs.Ytpodgidamoiakaa
