/-
  Words, laws and contracts: SpanL, SpanM, SpanN, SpanO.
-/
import Derived.Test.YtlablioefblmkaaGreatBun7
import Derived.Deep.RegionWith
set_option linter.unusedSimpArgs false
set_option linter.unusedVariables false
namespace Go.Proofs.YtlablioefblmkaaGreat
open Go.RowKit Go.Shelf
def putB (s : Span) (l : List Span) : Bool := l.any (fun x => decide (s.frm < x.frm))
def spPutL (s : Span) (l : List Span) : List Span := if putB s l then insSp s l else l
theorem ins_none {s : Span} {m : List Span} (h : putB s m = false) (r : List Span) : insSp s (m ++ r) = m ++ insSp s r := by
  induction m with
  | nil => rfl
  | cons y m ih =>
    unfold putB at h
    rw [List.any_cons, Bool.or_eq_false_iff] at h
    have hy : ¬ s.frm < y.frm := of_decide_eq_false h.1
    show insSp s (y :: (m ++ r)) = y :: (m ++ insSp s r)
    rw [insSp, if_neg hy, ih h.2]
theorem ins_put {s x : Span} {m : List Span} (h : putB s m = true) : insSp s (m ++ [x]) = insSp s m ++ [x] := by
  induction m with
  | nil => simp [putB] at h
  | cons y m ih =>
    show insSp s (y :: (m ++ [x])) = _
    rw [insSp, insSp]
    by_cases hy : s.frm < y.frm
    · rw [if_pos hy, if_pos hy]; rfl
    · rw [if_neg hy, if_neg hy]
      unfold putB at h
      rw [List.any_cons, decide_eq_false hy, Bool.false_or] at h
      rw [ih h]; rfl
theorem putB_succ {s x : Span} {l : List Span} {k : Nat} (h : l[k]? = some x) : putB s (l.take (k + 1)) = (putB s (l.take k) || decide (s.frm < x.frm)) := any_take_succ h
theorem putL_put {s x : Span} {l : List Span} {k : Nat} (h : l[k]? = some x) (hp : putB s (l.take k) = true) : spPutL s (l.take (k + 1)) = spPutL s (l.take k) ++ [x] := by
  unfold spPutL
  rw [putB_succ h, hp, Bool.true_or, if_pos rfl, if_pos rfl, take_snoc h, ins_put hp]
theorem putL_now {s x : Span} {l : List Span} {k : Nat} (h : l[k]? = some x) (hp : putB s (l.take k) = false) (hx : s.frm < x.frm) : spPutL s (l.take (k + 1)) = spPutL s (l.take k) ++ [s] ++ [x] := by
  unfold spPutL
  rw [putB_succ h, hp, decide_eq_true hx, Bool.false_or, if_pos rfl, if_neg (by simp), take_snoc h, ins_none hp]
  rw [insSp, if_pos hx]; simp
theorem putL_not {s x : Span} {l : List Span} {k : Nat} (h : l[k]? = some x) (hp : putB s (l.take k) = false) (hx : ¬ s.frm < x.frm) : spPutL s (l.take (k + 1)) = spPutL s (l.take k) ++ [x] := by
  unfold spPutL
  rw [putB_succ h, hp, decide_eq_false hx, Bool.or_false, if_neg (by simp), if_neg (by simp), take_snoc h]
theorem putL_len (s : Span) (l : List Span) : (spPutL s l).length ≤ l.length + 1 := by
  unfold spPutL
  split
  · have := (ins_perm s l).length_eq; rw [this]; simp
  · omega
theorem ins_end {s : Span} {l : List Span} (h : putB s l = false) : insSp s l = l ++ [s] := by
  have := ins_none h []
  rwa [List.append_nil] at this
def adE (l : List Span) (s : Span) : Int := if l.any (fun x => meetB x s) then 6 else 0
set_option maxRecDepth 100000 in
set_option maxHeartbeats 8000000 in
theorem AddSpan_any (A : Option Addr) (n cap : Nat) (l : List Span) (s : Span) (w : World) (h : Sl spanC 2 w All A n cap l) (hl : l.length ≤ 1000) (hok : ∀ x ∈ l, OkSp x) (hs : OkSp s) (is0 : InI s.frm) (is1 : InI s.upto) :
    Calls Tryz.prog 78 #[.slice A n cap, .agg #[.int .i64 s.frm, .int .i64 s.upto]] w fun e w' => ∃ v xs, e = .returned (.tuple #[v, .int .i64 (adE l s)]) ∧
      Own spanC 2 39 w' w.heap.size v (okL (adE l s) (insSp s l)) xs ∧ Below w.heap.size w w' := by
  have hbd := h.bd
  have HLN := Lib.hid h.len
  obtain ⟨u, hu⟩ : ∃ u, u = adE l s := ⟨_, rfl⟩
  obtain ⟨R, hR⟩ : ∃ R, R = insSp s l := ⟨_, rfl⟩
  rw [← hu, ← hR]
  have HU := Lib.hid hu
  clear hu
  have HR := Lib.hid hR
  clear hR
  have hn1 : n ≤ 1000 := by rw [← HLN.out]; exact hl
  have HOK := Lib.hid hok
  clear hok
  have HS := Lib.hid hs
  clear hs
  clear hl
  go_enter Tryz.func78, Tryz.ntmps78
  go_upto_region 0 with (fail)
  go_cut [3] (fun p wx => ∃ g, p = .pointer (some ⟨g, 0, none⟩) ∧ SpanAt wx g s.frm s.upto ∧ Below w.heap.size w wx)
  case first => as_aux_lemma =>
    go_wp2_with fail
    go_meet
    exact ⟨_, rfl, blk1 _ _, bel1 _ _⟩
  obtain ⟨g, rfl, hS, hb0⟩ := hcut
  replace h := h.bel hb0
  obtain ⟨W0, hW0⟩ : ∃ W0, W0 = wc := ⟨_, rfl⟩
  have HSA := Lib.hid hS
  have HH := Lib.hid h
  have HB0 := Lib.hid hb0
  clear hS h hb0
  subst hW0
  go_wp2_with fail
  go_loopg [6, 7, 8] n (fun gk o p i wr => ∃ k : Nat, k ≤ n ∧ n - k ≤ gk ∧ i = .int .i64 k ∧ p = .bool (putB s (l.take k)) ∧ Aside ((l.take k).any (fun x => meetB x s) = false) ∧ ∃ xs, Own spanC 2 39 wr W0.heap.size o (spPutL s (l.take k)) xs ∧ Below W0.heap.size W0 wr)
  case atStart => exact ⟨0, Nat.zero_le _, by omega, rfl, rfl, rfl, [], Own.nil _ _ _ _ _, Below.refl _ _⟩
  case round =>
    obtain ⟨k, hk, hgk, rfl, rfl, HE, xs, hO, hb⟩ := hrel
    obtain ⟨A2, n2, cap2, rfl, _⟩ := hO.sl spanC_good
    obtain ⟨L, hL⟩ : ∃ L, L = spPutL s (l.take k) := ⟨_, rfl⟩
    obtain ⟨p, hp⟩ : ∃ p, p = putB s (l.take k) := ⟨_, rfl⟩
    rw [← hL] at hO
    rw [← hp]
    have hfl : L.length ≤ 1001 := by
      rw [hL]
      have h1 := putL_len s (l.take k)
      have h2 := List.length_take_le k l
      omega
    have HFL := Lib.hid hfl
    have HL := Lib.hid hL
    clear hL
    have HP := Lib.hid hp
    clear hp
    clear hfl
    by_cases hlt : k < n
    · obtain ⟨b, off, x, c0, c1, rfl, hx, ⟨hc, x0, x1⟩, g0, g1⟩ := HH.out.at2 hlt
      simp only [List.cons.injEq, and_true] at hc
      obtain ⟨rfl, rfl⟩ := hc
      have lb := cell_lt g0
      have cel : ∀ X, Below W0.heap.size W0 X → X.cell? ⟨b, off + k * 2, none⟩ = some (.int .i64 x.frm) ∧ X.cell? ⟨b, off + k * 2 + 1, none⟩ = some (.int .i64 x.upto) ∧ X.cell? ⟨g, 0, none⟩ = some (.int .i64 s.frm) ∧ X.cell? ⟨g, 1, none⟩ = some (.int .i64 s.upto) := fun X hX =>
        ⟨(hX.cell (p := ⟨b, off + k * 2, none⟩) lb).trans g0, (hX.cell (p := ⟨b, off + k * 2 + 1, none⟩) lb).trans g1, (HSA.out.below hX).c0, (HSA.out.below hX).c1⟩
      have hmt := fun W => DoMeet_any x s W (HOK.out x (List.mem_of_getElem? hx)) HS.out
      obtain ⟨q, hq⟩ : ∃ q, q = meetB x s := ⟨_, rfl⟩
      rw [← hq] at hmt
      have HMT := Lib.hid hmt
      clear hmt
      have HX := Lib.hid hx
      clear hx
      have HQ := Lib.hid hq
      clear hq
      have CEL := Lib.hid cel
      clear cel
      clear g0 g1
      obtain ⟨d0, d1, d2, d3⟩ := CEL.out _ hb
      go_upto_region 6 with (fail)
      go_cut [20] (fun t wx => t = .bool q ∧ Below wr.heap.size wr wx)
      case first => as_aux_lemma =>
        go_region_with (go_at_call 152; refine (HMT.out _).mono ?_; rintro e wn ⟨rfl, hbn⟩)
        all_goals
          go_wp2_with fail
          go_meet
          exact ⟨rfl, (Below.refl _ wr).drew.trans hbn⟩
      obtain ⟨rfl, hb4⟩ := hcut
      replace hO := hO.bel hb4
      replace hb := hb.trans (hb4.mono hb.size)
      clear hb4 d0 d1 d2 d3
      obtain ⟨d0, d1, d2, d3⟩ := CEL.out _ hb
      cases q
      · have HE2 := Lib.hid (show (l.take (k + 1)).any (fun x => meetB x s) = false by rw [any_take_succ HX.out, HE, ← HQ.out]; rfl)
        cases p
        · by_cases hc : s.frm < x.frm
          · have hd : decide (s.frm < x.frm) = true := decide_eq_true hc
            have HV := Lib.hid (show spPutL s (l.take (k + 1)) = L ++ [s] ++ [x] by rw [HL.out]; exact putL_now HX.out HP.out.symm hc)
            have HV2 := Lib.hid (show putB s (l.take (k + 1)) = true by rw [putB_succ HX.out, ← HP.out, decide_eq_true hc]; rfl)
            clear hc
            go_wp2_with fail
            go_quiet (fail)
            have hbq := below_drewN hb nq
            have hOs := (hO.bel (below_drewN (Below.refl wc.heap.size wc) nq)).below spanC_good (bel1 (wc.drewN nq) (.cells #[.int .i64 s.frm, .int .i64 s.upto] 39))
            have hsz := hbq.size
            have hss : W0.heap.size ≤ ((wc.drewN nq).alloc (.cells #[.int .i64 s.frm, .int .i64 s.upto] 39)).heap.size := by simp; have := hb.size; omega
            go_wp2_with (first
              | (at_builtin; refine list_app (t := 48) (e := 39) (bytes := 16) rfl (.tmp 37) (.tmp 42) rfl span_elem spanC_good rfl hOq rfl (sl_span _ All x.frm x.upto 39 x0 x1 trivial) (fun _ _ hc => hc) (by have := HFL.out; first | omega | (simp; omega)) (by omega) hsq ?_; intro v' w' xs' hown' hg' _)
              | (at_builtin; refine list_app (t := 48) (e := 39) (bytes := 16) rfl (.tmp 33) (.tmp 35) rfl span_elem spanC_good rfl hOs rfl (sl_span _ All s.frm s.upto 39 is0 is1 trivial) (fun _ _ hc => hc) (by have := HFL.out; omega) (by omega) hss ?_; intro v1 w1 xs1 hown1 hg1 _; have hb1 := below_app (hbq.alloc hsz _) hOs hg1 hss; have hOq := hown1.below spanC_good (bel1 w1 (.cells #[.int .i64 x.frm, .int .i64 x.upto] 39)); have hsq : W0.heap.size ≤ (w1.alloc (.cells #[.int .i64 x.frm, .int .i64 x.upto] 39)).heap.size := Nat.le_trans hb1.size (by simp); have hba := hb1.alloc hb1.size (.cells #[.int .i64 x.frm, .int .i64 x.upto] 39); obtain ⟨f0, f1, f2, f3⟩ := CEL.out _ hb1; obtain ⟨A4, n4, c4, rfl, _⟩ := hown1.sl spanC_good))
            go_roundg (n - (k + 1))
            case measure => omega
            case rel => exact ⟨k + 1, by omega, by omega, by go_num, by rw [HV2.out], HE2.out, xs', by rw [HV.out]; exact hown', below_app hba hOq hg' hsq⟩
          · have hd : decide (s.frm < x.frm) = false := decide_eq_false hc
            have HV := Lib.hid (show spPutL s (l.take (k + 1)) = L ++ [x] by rw [HL.out]; exact putL_not HX.out HP.out.symm hc)
            have HV2 := Lib.hid (show putB s (l.take (k + 1)) = false by rw [putB_succ HX.out, ← HP.out, decide_eq_false hc]; rfl)
            clear hc
            go_wp2_with fail
            go_quiet (fail)
            have hbq := below_drewN hb nq
            have hOq := (hO.bel (below_drewN (Below.refl wc.heap.size wc) nq)).below spanC_good (bel1 (wc.drewN nq) (.cells #[.int .i64 x.frm, .int .i64 x.upto] 39))
            have hsz := hbq.size
            have hsq : W0.heap.size ≤ ((wc.drewN nq).alloc (.cells #[.int .i64 x.frm, .int .i64 x.upto] 39)).heap.size := by simp; have := hb.size; omega
            go_wp2_with (at_builtin; refine list_app (t := 48) (e := 39) (bytes := 16) rfl (.tmp 37) (.tmp 42) rfl span_elem spanC_good rfl hOq rfl (sl_span _ All x.frm x.upto 39 x0 x1 trivial) (fun _ _ hc => hc) (by have := HFL.out; first | omega | (simp; omega)) (by omega) hsq ?_; intro v' w' xs' hown' hg' _)
            go_roundg (n - (k + 1))
            case measure => omega
            case rel => exact ⟨k + 1, by omega, by omega, by go_num, by rw [HV2.out], HE2.out, xs', by rw [HV.out]; exact hown', below_app (hbq.alloc hsz _) hOq hg' hsq⟩
        · have HV := Lib.hid (show spPutL s (l.take (k + 1)) = L ++ [x] by rw [HL.out]; exact putL_put HX.out HP.out.symm)
          have HV2 := Lib.hid (show putB s (l.take (k + 1)) = true by rw [putB_succ HX.out, ← HP.out]; rfl)
          go_wp2_with fail
          go_quiet (fail)
          have hbq := below_drewN hb nq
          have hOq := (hO.bel (below_drewN (Below.refl wc.heap.size wc) nq)).below spanC_good (bel1 (wc.drewN nq) (.cells #[.int .i64 x.frm, .int .i64 x.upto] 39))
          have hsz := hbq.size
          have hsq : W0.heap.size ≤ ((wc.drewN nq).alloc (.cells #[.int .i64 x.frm, .int .i64 x.upto] 39)).heap.size := by simp; have := hb.size; omega
          go_wp2_with (at_builtin; refine list_app (t := 48) (e := 39) (bytes := 16) rfl (.tmp 37) (.tmp 42) rfl span_elem spanC_good rfl hOq rfl (sl_span _ All x.frm x.upto 39 x0 x1 trivial) (fun _ _ hc => hc) (by have := HFL.out; first | omega | (simp; omega)) (by omega) hsq ?_; intro v' w' xs' hown' hg' _)
          go_roundg (n - (k + 1))
          case measure => omega
          case rel => exact ⟨k + 1, by omega, by omega, by go_num, by rw [HV2.out], HE2.out, xs', by rw [HV.out]; exact hown', below_app (hbq.alloc hsz _) hOq hg' hsq⟩
      · obtain rfl : u = 6 := by rw [HU.out]; exact if_pos (any_at HX.out HQ.out.symm)
        go_wp2_with fail
        go_ret2
        exact ⟨_, _, rfl, Own.nil _ _ _ _ _, HB0.out.trans (hb.mono HB0.out.size)⟩
    · obtain rfl : k = n := by omega
      have hT : l.take k = l := List.take_of_length_le (Nat.le_of_eq HLN.out)
      rw [hT] at HE
      obtain rfl : u = 0 := by rw [HU.out]; exact if_neg (by rw [HE]; simp)
      have hLe : L = spPutL s l := by rw [HL.out, hT]
      have hPe : p = putB s l := by rw [HP.out, hT]
      obtain ⟨_, _, d2, d3⟩ : True ∧ True ∧ wr.cell? ⟨g, 0, none⟩ = some (.int .i64 s.frm) ∧ wr.cell? ⟨g, 1, none⟩ = some (.int .i64 s.upto) := ⟨trivial, trivial, (HSA.out.below hb).c0, (HSA.out.below hb).c1⟩
      have hbb := HB0.out.trans (hb.mono HB0.out.size)
      cases p
      · have HV := Lib.hid (show L ++ [s] = R by rw [HR.out, ins_end hPe.symm, hLe]; unfold spPutL; rw [← hPe]; rfl)
        have hOs := hO.below spanC_good (bel1 wr (.cells #[.int .i64 s.frm, .int .i64 s.upto] 39))
        have hsz := hb.size
        have hss : W0.heap.size ≤ (wr.alloc (.cells #[.int .i64 s.frm, .int .i64 s.upto] 39)).heap.size := by simp; omega
        have HBB := Lib.hid hbb
        clear hT hLe hPe hbb
        go_wp2_with (at_builtin; refine list_app (t := 48) (e := 39) (bytes := 16) rfl (.tmp 46) (.tmp 48) rfl span_elem spanC_good rfl hOs rfl (sl_span _ All s.frm s.upto 39 is0 is1 trivial) (fun _ _ hc => hc) (by have := HFL.out; omega) (by omega) hss ?_; intro v1 w1 xs1 hown1 hg1 _; have hb1 := below_app (hb.alloc hsz _) hOs hg1 hss; obtain ⟨A4, n4, c4, rfl, _⟩ := hown1.sl spanC_good)
        go_ret2
        exact ⟨_, xs1, rfl, by rw [okL_zero, ← HV.out]; exact hown1.mono spanC_good HB0.out.size, HB0.out.trans (hb1.mono HB0.out.size)⟩
      · have HV := Lib.hid (show L = R by rw [HR.out, hLe]; unfold spPutL; rw [← hPe]; rfl)
        have HBB := Lib.hid hbb
        have HO := Lib.hid hO
        clear hT hLe hPe hbb hO
        go_wp2_with fail
        go_ret2
        exact ⟨_, _, rfl, by rw [okL_zero, ← HV.out]; exact HO.out.mono spanC_good HB0.out.size, HBB.out⟩
end Go.Proofs.YtlablioefblmkaaGreat
namespace Go.Proofs.YtlablioefblmkaaGreat
open Go.RowKit Go.Shelf
def takenB (l : List Span) (i : Int) : Bool := l.any (legB i)
def setLast (P : List Span) (u : Int) : List Span := P.set (P.length - 1) ⟨(P[P.length - 1]?.getD default).frm, u⟩
def frS (l : List Span) : Nat → List Span × Bool
  | 0 => ([], false)
  | i + 1 => if takenB l i then ((frS l i).1, false) else if (frS l i).2 then (setLast (frS l i).1 ((i : Int) + 1), true) else ((frS l i).1 ++ [⟨i, (i : Int) + 1⟩], true)
theorem frS_taken {l : List Span} {i : Nat} (h : takenB l i = true) : frS l (i + 1) = ((frS l i).1, false) := by rw [frS, if_pos h]
theorem frS_open {l : List Span} {i : Nat} (h : takenB l i = false) (ho : (frS l i).2 = true) : frS l (i + 1) = (setLast (frS l i).1 ((i : Int) + 1), true) := by rw [frS, if_neg (by simp [h]), if_pos ho]
theorem frS_shut {l : List Span} {i : Nat} (h : takenB l i = false) (ho : (frS l i).2 = false) : frS l (i + 1) = ((frS l i).1 ++ [⟨i, (i : Int) + 1⟩], true) := by rw [frS, if_neg (by simp [h]), if_neg (by simp [ho])]
theorem frS_len (l : List Span) (i : Nat) : (frS l i).1.length ≤ i ∧ ((frS l i).2 = true → 0 < (frS l i).1.length) := by
  induction i with
  | zero => exact ⟨Nat.le_refl _, by simp [frS]⟩
  | succ i ih =>
    cases h : takenB l i with
    | true => rw [frS_taken h]; exact ⟨by simp only; omega, by simp⟩
    | false =>
      cases ho : (frS l i).2 with
      | true => rw [frS_open h ho]; have := ih.2 ho; exact ⟨by simp [setLast]; omega, by simp [setLast]; exact this⟩
      | false => rw [frS_shut h ho]; exact ⟨by simp; omega, by simp⟩
set_option maxRecDepth 100000 in
set_option maxHeartbeats 8000000 in
theorem FreeOf_any (A : Option Addr) (n cap : Nat) (l : List Span) (N : Nat) (w : World) (h : Sl spanC 2 w All A n cap l) (hN : N ≤ 7) (hok : ∀ x ∈ l, OkSp x) :
    Calls Tryz.prog 22 #[.slice A n cap, .int .i64 N] w fun e w' => ∃ v xs, e = .returned v ∧ Own spanC 2 39 w' w.heap.size v (frS l N).1 xs ∧ Below w.heap.size w w' := by
  have hbd := h.bd
  have HLN := Lib.hid h.len
  have HOK := Lib.hid hok
  clear hok
  have HH := Lib.hid h
  clear h
  go_enter Tryz.func22, Tryz.ntmps22
  go_wp2_with fail
  go_loopg [5, 6, 7] N (fun gk o p i wr => ∃ k : Nat, k ≤ N ∧ N - k ≤ gk ∧ i = .int .i64 k ∧ p = .bool (frS l k).2 ∧ ∃ xs, Own spanC 2 39 wr w.heap.size o (frS l k).1 xs ∧ Below w.heap.size w wr)
  case atStart => exact ⟨0, Nat.zero_le _, by omega, rfl, rfl, [], Own.nil _ _ _ _ _, Below.refl _ _⟩
  case round =>
    obtain ⟨k, hk, hgk, rfl, rfl, xs, hO, hb⟩ := hrel
    obtain ⟨A2, n2, cap2, rfl, _⟩ := hO.sl spanC_good
    by_cases hlt : k < N
    · have HO := Lib.hid hO
      have HFS := Lib.hid (frS_len l k)
      obtain ⟨q, hq⟩ : ∃ q, q = (frS l k).2 := ⟨_, rfl⟩
      rw [← hq]
      have HQ := Lib.hid hq
      clear hq
      clear hO
      have hsz := hb.size
      go_upto_region 8 with (fail)
      go_loopg [8, 9] n (fun gk2 t j wr2 => ∃ m : Nat, m ≤ n ∧ n - m ≤ gk2 ∧ j = .int .i64 m ∧ t = .bool ((l.take m).any (legB k)) ∧ Below wr.heap.size wr wr2)
      case atStart => exact ⟨0, Nat.zero_le _, by omega, rfl, rfl, Below.refl _ _⟩
      case round =>
        obtain ⟨m, hm, hgm, rfl, rfl, hb2⟩ := hrel
        by_cases hml : m < n
        · obtain ⟨b, off, x, c0, c1, rfl, hx, ⟨hc, _⟩, g0, g1⟩ := (HH.out.bel (hb.trans (hb2.mono hb.size))).at2 hml
          simp only [List.cons.injEq, and_true] at hc
          obtain ⟨rfl, rfl⟩ := hc
          have hox := HOK.out x (List.mem_of_getElem? hx)
          have hw1 : wrap64 (x.upto - 1) = x.upto - 1 := by unfold OkSp at hox; unfold wrap64; omega
          have HS := Lib.hid (any_take_succ (p := legB (k : Int)) hx)
          obtain ⟨t, ht⟩ : ∃ t, t = (l.take m).any (legB (k : Int)) := ⟨_, rfl⟩
          rw [← ht] at HS ⊢
          have hbt := fun W => between_any (k : Int) x.frm (x.upto - 1) W
          rw [show betB (k : Int) x.frm (x.upto - 1) = legB (k : Int) x from rfl] at hbt
          obtain ⟨z, hz⟩ : ∃ z, z = legB (k : Int) x := ⟨_, rfl⟩
          rw [← hz] at hbt
          have HBT := Lib.hid hbt
          clear hbt
          have HZ := Lib.hid hz
          clear hz
          clear hx hox ht
          cases t
          · go_wp2_with fail
            go_quiet (first | (go_at_call 72; refine Calls.quiet_of_same ((HBT.out _).mono fun e w' hh => ⟨hh.1, hh.2.symm⟩)))
            go_wp2_with fail
            go_roundg (n - (m + 1))
            case measure => omega
            case rel => exact ⟨m + 1, by omega, by omega, by go_num, by rw [HS.out, ← HZ.out]; rfl, below_drewN hb2 _⟩
          · go_wp2_with fail
            go_quiet (fail)
            go_wp2_with fail
            go_roundg (n - (m + 1))
            case measure => omega
            case rel => exact ⟨m + 1, by omega, by omega, by go_num, by rw [HS.out]; rfl, below_drewN hb2 _⟩
        · obtain rfl : m = n := by omega
          have hT : l.take m = l := List.take_of_length_le (Nat.le_of_eq HLN.out)
          rw [hT]
          obtain ⟨t, ht⟩ : ∃ t, t = takenB l (k : Int) := ⟨_, rfl⟩
          rw [show l.any (legB (k : Int)) = t from ht.symm]
          have hOw := HO.out.bel hb2
          have hbb := hb.trans (hb2.mono hb.size)
          have hsz2 := hbb.size
          obtain ⟨F, hF⟩ : ∃ F, F = (frS l k).1 := ⟨_, rfl⟩
          have hFl := HFS.out
          rw [← hF] at hOw hFl
          rw [← HQ.out] at hFl
          have hF7 : F.length ≤ 7 := by omega
          cases t with
          | true =>
            have HV := Lib.hid (show frS l (k + 1) = (F, false) by rw [hF]; exact frS_taken ht.symm)
            have HOW := Lib.hid hOw
            clear hT ht hF hFl hOw
            go_wp2_with fail
            go_roundg (N - (k + 1))
            case measure => omega
            case rel => exact ⟨k + 1, by omega, by omega, by go_num, by rw [HV.out], xs, by rw [HV.out]; exact HOW.out, hbb⟩
          | false =>
            cases q with
            | false =>
              have HV := Lib.hid (show frS l (k + 1) = (F ++ [⟨k, (k : Int) + 1⟩], true) by rw [hF]; exact frS_shut ht.symm HQ.out.symm)
              have hOq := hOw.below spanC_good (bel1 wr (.cells #[.int .i64 (k : Int), .int .i64 ((k : Int) + 1)] 39))
              have hsq : w.heap.size ≤ (wr.alloc (.cells #[.int .i64 (k : Int), .int .i64 ((k : Int) + 1)] 39)).heap.size := by simp; omega
              have HF7 := Lib.hid hF7
              clear hT ht hF hFl hOw hF7
              go_wp2_with (at_builtin; refine list_app (t := 48) (e := 39) (bytes := 16) rfl (.tmp 37) (.tmp 42) rfl span_elem spanC_good rfl hOq rfl (sl_span _ All (k : Int) ((k : Int) + 1) 39 (.of (by omega) (by omega)) (.of (by omega) (by omega)) trivial) (fun _ _ hc => hc) (by have := HF7.out; omega) (by omega) hsq ?_; intro v' w' xs' hown' hg' _)
              go_roundg (N - (k + 1))
              case measure => omega
              case rel => exact ⟨k + 1, by omega, by omega, by go_num, by rw [HV.out], xs', by rw [HV.out]; exact hown', below_app (hbb.alloc hsz2 _) hOq hg' hsq⟩
            | true =>
              have HV := Lib.hid (show frS l (k + 1) = (setLast F ((k : Int) + 1), true) by rw [hF]; exact frS_open ht.symm HQ.out.symm)
              have hF0 : 0 < F.length := hFl.2 rfl
              obtain ⟨gg, cc, hve, hgg, hgl⟩ := hOw.form hF0
              simp only [Value.slice.injEq] at hve
              obtain ⟨rfl, rfl, rfl⟩ := hve
              obtain ⟨x, hx⟩ : ∃ x, F[F.length - 1]? = some x := ⟨_, List.getElem?_eq_getElem (by omega)⟩
              obtain ⟨cs, ⟨rfl, _⟩, _, hcell, hfr⟩ := hOw.cells hx
              have e1 := hcell 1 _ rfl
              have f1 := hfr ((F.length - 1) * 2 + 1)
              have hin : InI ((k : Int) + 1) := .of (by omega) (by omega)
              have hput := Own.put (j := 1) (x' := ⟨x.frm, (k : Int) + 1⟩) (u := .int .i64 ((k : Int) + 1)) spanC_flat hOw hx (by omega) (fun _ _ cs hc => by obtain ⟨rfl, h1, _⟩ := hc; exact ⟨rfl, h1, hin⟩)
              have hsl : F.set (F.length - 1) ⟨x.frm, (k : Int) + 1⟩ = setLast F ((k : Int) + 1) := by unfold setLast; rw [hx]; rfl
              rw [hsl] at hput
              obtain ⟨j, hj⟩ : ∃ j, F.length = j + 1 := ⟨F.length - 1, by omega⟩
              rw [hj, Nat.add_sub_cancel] at e1 f1 hput
              have hj7 : j ≤ 6 := by omega
              have HPUT := Lib.hid hput
              clear hput
              rw [hj]
              clear hT ht hF hFl hOw hx hcell hfr hsl hF7 hF0 hj
              go_wp2_with fail
              go_roundg (N - (k + 1))
              case measure => omega
              case rel => exact ⟨k + 1, by omega, by omega, by go_num, by rw [HV.out], _, by rw [HV.out]; exact HPUT.out, hbb.setCell (p := ⟨gg, j * 2 + 1, none⟩) hgg _⟩
    · obtain rfl : k = N := by omega
      have HO := Lib.hid hO
      clear hO
      go_wp2_with fail
      go_ret
      exact ⟨_, _, rfl, HO.out, hb⟩
end Go.Proofs.YtlablioefblmkaaGreat
namespace Go.Proofs.YtlablioefblmkaaGreat
open Go.RowKit Go.Shelf
def cov (P : List Span) (i : Int) : Bool := P.any (inLeg i)
theorem cov_iff {P : List Span} {i : Int} : cov P i = true ↔ ∃ x ∈ P, x.frm ≤ i ∧ i < x.upto := by
  unfold cov inLeg
  rw [List.any_eq_true]
  constructor
  · rintro ⟨x, hx, h⟩; exact ⟨x, hx, by simpa using h⟩
  · rintro ⟨x, hx, h⟩; exact ⟨x, hx, by simpa using h⟩
theorem apart_unique {N : Int} : ∀ (P Q : List Span), (∀ x ∈ P, 0 ≤ x.frm ∧ x.frm < x.upto ∧ x.upto ≤ N) → (∀ x ∈ Q, 0 ≤ x.frm ∧ x.frm < x.upto ∧ x.upto ≤ N) →
    P.Pairwise (fun x y => x.upto < y.frm) → Q.Pairwise (fun x y => x.upto < y.frm) → (∀ i, 0 ≤ i → i < N → (cov P i = true ↔ cov Q i = true)) → P = Q := by
  intro P
  induction P with
  | nil =>
    intro Q _ hQ _ _ hc
    cases Q with
    | nil => rfl
    | cons q Q =>
      have hq := hQ q (List.mem_cons_self ..)
      have := (hc q.frm hq.1 (by omega)).2 (cov_iff.2 ⟨q, List.mem_cons_self .., by omega⟩)
      simp [cov] at this
  | cons p P ih =>
    intro Q hP hQ aP aQ hc
    cases Q with
    | nil =>
      have hp := hP p (List.mem_cons_self ..)
      have := (hc p.frm hp.1 (by omega)).1 (cov_iff.2 ⟨p, List.mem_cons_self .., by omega⟩)
      simp [cov] at this
    | cons q Q =>
      have hp := hP p (List.mem_cons_self ..)
      have hq := hQ q (List.mem_cons_self ..)
      rw [List.pairwise_cons] at aP aQ
      have f1 : q.frm ≤ p.frm := by
        obtain ⟨y, hy, h1⟩ := cov_iff.1 ((hc p.frm hp.1 (by omega)).1 (cov_iff.2 ⟨p, List.mem_cons_self .., by omega⟩))
        rcases List.mem_cons.1 hy with rfl | hy
        · omega
        · have := aQ.1 y hy; omega
      have f2 : p.frm ≤ q.frm := by
        obtain ⟨y, hy, h1⟩ := cov_iff.1 ((hc q.frm hq.1 (by omega)).2 (cov_iff.2 ⟨q, List.mem_cons_self .., by omega⟩))
        rcases List.mem_cons.1 hy with rfl | hy
        · omega
        · have := aP.1 y hy; omega
      have u1 : ¬ p.upto < q.upto := fun h => by
        obtain ⟨y, hy, h1⟩ := cov_iff.1 ((hc p.upto (by omega) (by omega)).2 (cov_iff.2 ⟨q, List.mem_cons_self .., by omega⟩))
        rcases List.mem_cons.1 hy with rfl | hy
        · omega
        · have := aP.1 y hy; omega
      have u2 : ¬ q.upto < p.upto := fun h => by
        obtain ⟨y, hy, h1⟩ := cov_iff.1 ((hc q.upto (by omega) (by omega)).1 (cov_iff.2 ⟨p, List.mem_cons_self .., by omega⟩))
        rcases List.mem_cons.1 hy with rfl | hy
        · omega
        · have := aQ.1 y hy; omega
      have he : p = q := by
        obtain ⟨a, b⟩ := p
        obtain ⟨c, d⟩ := q
        simp only at f1 f2 u1 u2
        simp only [Span.mk.injEq]
        omega
      subst he
      rw [ih Q (fun x hx => hP x (List.mem_cons_of_mem _ hx)) (fun x hx => hQ x (List.mem_cons_of_mem _ hx)) aP.2 aQ.2 fun i h0 h1 => ?_]
      constructor
      · intro h
        obtain ⟨y, hy, h2⟩ := cov_iff.1 h
        have h3 := aP.1 y hy
        obtain ⟨z, hz, h4⟩ := cov_iff.1 ((hc i h0 h1).1 (cov_iff.2 ⟨y, List.mem_cons_of_mem _ hy, h2⟩))
        rcases List.mem_cons.1 hz with rfl | hz
        · omega
        · exact cov_iff.2 ⟨z, hz, h4⟩
      · intro h
        obtain ⟨y, hy, h2⟩ := cov_iff.1 h
        have h3 := aQ.1 y hy
        obtain ⟨z, hz, h4⟩ := cov_iff.1 ((hc i h0 h1).2 (cov_iff.2 ⟨y, List.mem_cons_of_mem _ hy, h2⟩))
        rcases List.mem_cons.1 hz with rfl | hz
        · omega
        · exact cov_iff.2 ⟨z, hz, h4⟩
theorem leg_in (i : Int) (x : Span) : legB i x = inLeg i x := by
  unfold legB betB inLeg
  congr 1
  rw [decide_eq_decide]; omega
theorem taken_cov (l : List Span) (i : Int) : takenB l i = cov l i := by
  unfold takenB cov
  congr 1
  funext x
  exact leg_in i x
theorem setLast_app (Q : List Span) (x : Span) (u : Int) : setLast (Q ++ [x]) u = Q ++ [⟨x.frm, u⟩] := by
  unfold setLast
  simp
theorem frS_inv (l : List Span) (k : Nat) :
    (∀ x ∈ (frS l k).1, 0 ≤ x.frm ∧ x.frm < x.upto ∧ x.upto ≤ (k : Int)) ∧ (frS l k).1.Pairwise (fun x y => x.upto < y.frm) ∧
    (∀ i : Int, 0 ≤ i → i < (k : Int) → (cov (frS l k).1 i = true ↔ ¬ cov l i = true)) ∧
    ((frS l k).2 = true → ∃ Q x, (frS l k).1 = Q ++ [x] ∧ x.upto = (k : Int)) ∧ ((frS l k).2 = false → ∀ x ∈ (frS l k).1, x.upto < (k : Int)) := by
  induction k with
  | zero => exact ⟨by simp [frS], by simp [frS], fun i h0 h1 => by omega, by simp [frS], by simp [frS]⟩
  | succ k ih =>
    obtain ⟨h1, h2, h3, h4, h5⟩ := ih
    have hk : ((k + 1 : Nat) : Int) = (k : Int) + 1 := by omega
    cases ht : takenB l (k : Int) with
    | true =>
      rw [frS_taken ht, hk]
      rw [taken_cov] at ht
      refine ⟨fun x hx => ?_, h2, fun i h0 hi => ?_, by simp, fun _ x hx => ?_⟩
      · have := h1 x hx; omega
      · by_cases e : i = (k : Int)
        · subst e
          constructor
          · intro h
            obtain ⟨y, hy, h6⟩ := cov_iff.1 h
            have := h1 y hy
            omega
          · intro h; exact absurd ht h
        · exact h3 i h0 (by omega)
      · have := h1 x hx; omega
    | false =>
      cases ho : (frS l k).2 with
      | false =>
        rw [frS_shut ht ho, hk]
        rw [taken_cov] at ht
        have h6 := h5 ho
        refine ⟨fun x hx => ?_, ?_, fun i h0 hi => ?_, fun _ => ⟨_, _, rfl, rfl⟩, by simp⟩
        · rcases List.mem_append.1 hx with hx | hx
          · have := h1 x hx; omega
          · simp only [List.mem_singleton] at hx; subst hx; simp only; omega
        · rw [List.pairwise_append]
          refine ⟨h2, by simp, fun y hy z hz => ?_⟩
          simp only [List.mem_singleton] at hz; subst hz; exact h6 y hy
        · have hcv : cov ((frS l k).1 ++ [⟨(k : Int), (k : Int) + 1⟩]) i = (cov (frS l k).1 i || inLeg i ⟨(k : Int), (k : Int) + 1⟩) := by simp [cov]
          rw [hcv]
          by_cases e : i = (k : Int)
          · subst e
            rw [ht]
            simp [inLeg]
            right; omega
          · have : inLeg i ⟨(k : Int), (k : Int) + 1⟩ = false := by unfold inLeg; simp; omega
            rw [this, Bool.or_false]
            exact h3 i h0 (by omega)
      | true =>
        rw [frS_open ht ho, hk]
        rw [taken_cov] at ht
        obtain ⟨Q, x, hQ, hx⟩ := h4 ho
        rw [hQ] at h1 h2 h3 ⊢
        rw [setLast_app]
        rw [List.pairwise_append] at h2
        have hx1 := h1 x (by simp)
        refine ⟨fun y hy => ?_, ?_, fun i h0 hi => ?_, fun _ => ⟨_, _, rfl, rfl⟩, by simp⟩
        · rcases List.mem_append.1 hy with hy | hy
          · have := h1 y (List.mem_append_left _ hy); omega
          · simp only [List.mem_singleton] at hy; subst hy; simp only; omega
        · rw [List.pairwise_append]
          refine ⟨h2.1, by simp, fun y hy z hz => ?_⟩
          simp only [List.mem_singleton] at hz; subst hz; exact h2.2.2 y hy x (by simp)
        · have hcv : cov (Q ++ [⟨x.frm, (k : Int) + 1⟩]) i = (cov Q i || inLeg i ⟨x.frm, (k : Int) + 1⟩) := by simp [cov]
          have hcv2 : cov (Q ++ [x]) i = (cov Q i || inLeg i x) := by simp [cov]
          rw [hcv]
          by_cases e : i = (k : Int)
          · subst e
            rw [ht]
            have : inLeg (k : Int) ⟨x.frm, (k : Int) + 1⟩ = true := by unfold inLeg; simp; omega
            rw [this]; simp
          · have h7 := h3 i h0 (by omega)
            rw [hcv2] at h7
            have : inLeg i ⟨x.frm, (k : Int) + 1⟩ = inLeg i x := by
              unfold inLeg
              simp only
              rw [hx, decide_eq_true (show i < (k : Int) + 1 by omega), decide_eq_true (show i < (k : Int) by omega)]
            rw [this]; exact h7
theorem gapsS_in2 (N : Int) : ∀ n (l : List Span), l.length = n → (∀ x ∈ l, 0 ≤ x.frm ∧ x.frm < x.upto ∧ x.upto ≤ N) → 0 ≤ (gapsS l).2 ∧ ∀ y ∈ (gapsS l).1, 0 ≤ y.frm ∧ y.frm < y.upto ∧ y.upto ≤ N := by
  intro n
  induction n with
  | zero => intro l hl _; obtain rfl : l = [] := List.length_eq_zero_iff.1 hl; exact ⟨by decide, by simp [gapsS]⟩
  | succ n ih =>
    intro l hl hm
    rcases List.eq_nil_or_concat l with rfl | ⟨l', x, rfl⟩
    · simp at hl
    · rw [List.concat_eq_append] at *
      have hx := hm x (by simp)
      obtain ⟨h1, h2⟩ := ih l' (by simp at hl; omega) (fun y hy => hm y (List.mem_append_left _ hy))
      rw [gapsS_snoc]
      unfold gapF
      refine ⟨by simp only; omega, fun y hy => ?_⟩
      rcases List.mem_append.1 hy with hy | hy
      · exact h2 y hy
      · unfold gap at hy
        split at hy
        · simp only [List.mem_singleton] at hy; subst hy; simp only; omega
        · simp at hy
theorem free_same {l : List Span} {N : Nat} (h : CalOk l (N : Int)) : (frS l N).1 = gapsL l (N : Int) := by
  obtain ⟨h1, h2, h3, _, _⟩ := frS_inv l N
  have hg := gapsS_in2 (N : Int) l.length l rfl (fun x hx => cal_mem h hx)
  refine apart_unique _ _ h1 (fun x hx => ?_) h2 (free_apart h) fun i h0 hi => ?_
  · unfold gapsL at hx
    rcases List.mem_append.1 hx with hx | hx
    · exact hg.2 x hx
    · unfold gap at hx
      split at hx
      · simp only [List.mem_singleton] at hx; subst hx; simp only; omega
      · simp at hx
  · rw [h3 i h0 hi]
    have hc := free_cnt h h0 hi
    have e1 : ∀ P : List Span, cov P i = true ↔ 0 < cnt i P := fun P => by
      unfold cov cnt
      rw [List.any_eq_true]
      constructor
      · rintro ⟨x, hx, hp⟩
        have := List.length_pos_of_mem (List.mem_filter.2 ⟨hx, hp⟩)
        omega
      · intro hp
        obtain ⟨x, hx⟩ := List.exists_mem_of_length_pos (l := P.filter (inLeg i)) (by omega)
        exact ⟨x, (List.mem_filter.1 hx).1, (List.mem_filter.1 hx).2⟩
    rw [e1, e1]
    have := (cnt_bd i l).1
    have := (cnt_bd i (gapsL l (N : Int))).1
    omega
end Go.Proofs.YtlablioefblmkaaGreat
namespace Go.Proofs.YtlablioefblmkaaGreat
open Go.RowKit Go.Shelf
set_option maxRecDepth 100000 in
set_option maxHeartbeats 2000000 in
theorem spansAre_any (A B : Option Addr) (n cap m cap2 : Nat) (l k : List Span) (u : Int) (w : World) (h : Sl spanC 2 w All A n cap (okL u l)) (h2 : Sl spanC 2 w All B m cap2 k) (hk : u = 0 → k = l) :
    Calls Tryz.prog 26 #[.slice A n cap, .int .i64 u, .int .i64 u, .slice B m cap2] w fun e w' => e = .returned (.bool true) ∧ Below w.heap.size w w' := by
  by_cases h0 : u = 0
  · obtain rfl := hk h0
    subst h0
    rw [okL_zero] at h
    have hs := SameSpans_any _ _ _ _ _ _ _ _ _ h h2
    rw [show decide (k = k) = true by simp] at hs
    have HS := Lib.hid hs
    clear hs
    clear h h2 hk
    go_enter Tryz.func26, Tryz.ntmps26
    go_wp2_with fail
    refine HS.out.mono ?_
    rintro e w6 ⟨rfl, q, rfl⟩
    go_wp2_with fail
    go_ret
    exact ⟨rfl, below_drewN (Below.refl _ _) _⟩
  · rw [okL_ne h0] at h
    have h0' : (u != 0) = true := by simpa using h0
    have hs := SameSpans_any _ _ _ _ _ _ _ _ _ h (Sl.nil w All spanC 2)
    rw [show decide (([] : List Span) = []) = true by decide] at hs
    have HS := Lib.hid hs
    clear hs
    clear h h2 hk h0
    go_enter Tryz.func26, Tryz.ntmps26
    go_wp2_with fail
    refine HS.out.mono ?_
    rintro e w6 ⟨rfl, q, rfl⟩
    go_wp2_with fail
    go_ret
    exact ⟨rfl, below_drewN (Below.refl _ _) _⟩
end Go.Proofs.YtlablioefblmkaaGreat
