/-
  Spans: the reference AddSpan.
-/
import Derived.Test.YtpodgidamoiakaaSpanK
import Derived.Deep.RegionWith
namespace Go.Proofs.Ytpodgidamoiakaa
open Go.RowKit Go.Shelf

def putB (s : Span) (l : List Span) : Bool := l.any (fun x => decide (s.frm < x.frm))
def putL (s : Span) (l : List Span) : List Span := if putB s l then insSp s l else l
theorem ins_none {s : Span} {m : List Span} (h : putB s m = false) (r : List Span) : insSp s (m ++ r) = m ++ insSp s r := by
  induction m with
  | nil => rfl
  | cons y m ih =>
    unfold putB at h
    rw [List.any_cons, Bool.or_eq_false_iff] at h
    have hy : ¬ s.frm < y.frm := of_decide_eq_false h.1
    show insSp s (y :: (m ++ r)) = y :: (m ++ insSp s r)
    rw [insSp, if_neg hy, ih h.2]
theorem ins_put {s x : Span} {m : List Span} (h : putB s m = true) : insSp s (m ++ [x]) = insSp s m ++ [x] := by
  induction m with
  | nil => simp [putB] at h
  | cons y m ih =>
    show insSp s (y :: (m ++ [x])) = _
    rw [insSp, insSp]
    by_cases hy : s.frm < y.frm
    · rw [if_pos hy, if_pos hy]; rfl
    · rw [if_neg hy, if_neg hy]
      unfold putB at h
      rw [List.any_cons, decide_eq_false hy, Bool.false_or] at h
      rw [ih h]; rfl
theorem putB_succ {s x : Span} {l : List Span} {k : Nat} (h : l[k]? = some x) : putB s (l.take (k + 1)) = (putB s (l.take k) || decide (s.frm < x.frm)) := any_take_succ h
theorem putL_put {s x : Span} {l : List Span} {k : Nat} (h : l[k]? = some x) (hp : putB s (l.take k) = true) : putL s (l.take (k + 1)) = putL s (l.take k) ++ [x] := by
  unfold putL
  rw [putB_succ h, hp, Bool.true_or, if_pos rfl, if_pos rfl, take_snoc h, ins_put hp]
theorem putL_now {s x : Span} {l : List Span} {k : Nat} (h : l[k]? = some x) (hp : putB s (l.take k) = false) (hx : s.frm < x.frm) : putL s (l.take (k + 1)) = putL s (l.take k) ++ [s] ++ [x] := by
  unfold putL
  rw [putB_succ h, hp, decide_eq_true hx, Bool.false_or, if_pos rfl, if_neg (by simp), take_snoc h, ins_none hp]
  rw [insSp, if_pos hx]; simp
theorem putL_not {s x : Span} {l : List Span} {k : Nat} (h : l[k]? = some x) (hp : putB s (l.take k) = false) (hx : ¬ s.frm < x.frm) : putL s (l.take (k + 1)) = putL s (l.take k) ++ [x] := by
  unfold putL
  rw [putB_succ h, hp, decide_eq_false hx, Bool.or_false, if_neg (by simp), if_neg (by simp), take_snoc h]
theorem putL_len (s : Span) (l : List Span) : (putL s l).length ≤ l.length + 1 := by
  unfold putL
  split
  · have := (ins_perm s l).length_eq; rw [this]; simp
  · omega
theorem ins_end {s : Span} {l : List Span} (h : putB s l = false) : insSp s l = l ++ [s] := by
  have := ins_none h []
  rwa [List.append_nil] at this

def adE (l : List Span) (s : Span) : Int := if l.any (fun x => meetB x s) then 6 else 0
set_option maxRecDepth 100000 in
set_option maxHeartbeats 8000000 in
theorem AddSpan_any (A : Option Addr) (n cap : Nat) (l : List Span) (s : Span) (w : World) (h : Sl spanC 2 w All A n cap l) (hl : l.length ≤ 1000) (hok : ∀ x ∈ l, OkSp x) (hs : OkSp s) (is0 : InI s.frm) (is1 : InI s.upto) :
    Calls Try.prog 28 #[.slice A n cap, .agg #[.int .i64 s.frm, .int .i64 s.upto]] w fun e w' => ∃ v xs, e = .returned (.tuple #[v, .int .i64 (adE l s)]) ∧
      Own spanC 2 45 w' w.heap.size v (okL (adE l s) (insSp s l)) xs ∧ Below w.heap.size w w' := by
  have hbd := h.bd
  have HLN := Lib.hid h.len
  obtain ⟨u, hu⟩ : ∃ u, u = adE l s := ⟨_, rfl⟩
  obtain ⟨R, hR⟩ : ∃ R, R = insSp s l := ⟨_, rfl⟩
  rw [← hu, ← hR]
  have HU := Lib.hid hu
  clear hu
  have HR := Lib.hid hR
  clear hR
  have hn1 : n ≤ 1000 := by rw [← HLN.out]; exact hl
  have HOK := Lib.hid hok
  clear hok
  have HS := Lib.hid hs
  clear hs
  clear hl
  go_enter Try.func28, Try.ntmps28
  go_upto_region 0 with (fail)
  go_cut [3] (fun p wx => ∃ g, p = .pointer (some ⟨g, 0, none⟩) ∧ SpanAt wx g s.frm s.upto ∧ Below w.heap.size w wx)
  case first => as_aux_lemma =>
    go_wp2_with fail
    go_meet
    exact ⟨_, rfl, blk1 _ _, bel1 _ _⟩
  obtain ⟨g, rfl, hS, hb0⟩ := hcut
  replace h := h.bel hb0
  obtain ⟨W0, hW0⟩ : ∃ W0, W0 = wc := ⟨_, rfl⟩
  have HSA := Lib.hid hS
  have HH := Lib.hid h
  have HB0 := Lib.hid hb0
  clear hS h hb0
  subst hW0
  go_wp2_with fail
  go_loopg [6, 7, 8] n (fun gk o p i wr => ∃ k : Nat, k ≤ n ∧ n - k ≤ gk ∧ i = .int .i64 k ∧ p = .bool (putB s (l.take k)) ∧ Aside ((l.take k).any (fun x => meetB x s) = false) ∧ ∃ xs, Own spanC 2 45 wr W0.heap.size o (putL s (l.take k)) xs ∧ Below W0.heap.size W0 wr)
  case atStart => exact ⟨0, Nat.zero_le _, by omega, rfl, rfl, rfl, [], Own.nil _ _ _ _ _, Below.refl _ _⟩
  case round =>
    obtain ⟨k, hk, hgk, rfl, rfl, HE, xs, hO, hb⟩ := hrel
    obtain ⟨A2, n2, cap2, rfl, _⟩ := hO.sl spanC_good
    obtain ⟨L, hL⟩ : ∃ L, L = putL s (l.take k) := ⟨_, rfl⟩
    obtain ⟨p, hp⟩ : ∃ p, p = putB s (l.take k) := ⟨_, rfl⟩
    rw [← hL] at hO
    rw [← hp]
    have hfl : L.length ≤ 1001 := by
      rw [hL]
      have h1 := putL_len s (l.take k)
      have h2 := List.length_take_le k l
      omega
    have HFL := Lib.hid hfl
    have HL := Lib.hid hL
    clear hL
    have HP := Lib.hid hp
    clear hp
    clear hfl
    by_cases hlt : k < n
    · obtain ⟨b, off, x, c0, c1, rfl, hx, ⟨hc, x0, x1⟩, g0, g1⟩ := HH.out.at2 hlt
      simp only [List.cons.injEq, and_true] at hc
      obtain ⟨rfl, rfl⟩ := hc
      have lb := cell_lt g0
      have cel : ∀ X, Below W0.heap.size W0 X → X.cell? ⟨b, off + k * 2, none⟩ = some (.int .i64 x.frm) ∧ X.cell? ⟨b, off + k * 2 + 1, none⟩ = some (.int .i64 x.upto) ∧ X.cell? ⟨g, 0, none⟩ = some (.int .i64 s.frm) ∧ X.cell? ⟨g, 1, none⟩ = some (.int .i64 s.upto) := fun X hX =>
        ⟨(hX.cell (p := ⟨b, off + k * 2, none⟩) lb).trans g0, (hX.cell (p := ⟨b, off + k * 2 + 1, none⟩) lb).trans g1, (HSA.out.below hX).c0, (HSA.out.below hX).c1⟩
      have hmt := fun W => DoMeet_any x s W (HOK.out x (List.mem_of_getElem? hx)) HS.out
      obtain ⟨q, hq⟩ : ∃ q, q = meetB x s := ⟨_, rfl⟩
      rw [← hq] at hmt
      have HMT := Lib.hid hmt
      clear hmt
      have HX := Lib.hid hx
      clear hx
      have HQ := Lib.hid hq
      clear hq
      have CEL := Lib.hid cel
      clear cel
      clear g0 g1
      obtain ⟨d0, d1, d2, d3⟩ := CEL.out _ hb
      go_upto_region 6 with (fail)
      go_cut [20] (fun t wx => t = .bool q ∧ Below wr.heap.size wr wx)
      case first => as_aux_lemma =>
        go_region_with (go_at_call 32; refine (HMT.out _).mono ?_; rintro e wn ⟨rfl, hbn⟩)
        all_goals
          go_wp2_with fail
          go_meet
          exact ⟨rfl, (Below.refl _ wr).drew.trans hbn⟩
      obtain ⟨rfl, hb4⟩ := hcut
      replace hO := hO.bel hb4
      replace hb := hb.trans (hb4.mono hb.size)
      clear hb4 d0 d1 d2 d3
      obtain ⟨d0, d1, d2, d3⟩ := CEL.out _ hb
      cases q
      · have HE2 := Lib.hid (show (l.take (k + 1)).any (fun x => meetB x s) = false by rw [any_take_succ HX.out, HE, ← HQ.out]; rfl)
        cases p
        · by_cases hc : s.frm < x.frm
          · have hd : decide (s.frm < x.frm) = true := decide_eq_true hc
            have HV := Lib.hid (show putL s (l.take (k + 1)) = L ++ [s] ++ [x] by rw [HL.out]; exact putL_now HX.out HP.out.symm hc)
            have HV2 := Lib.hid (show putB s (l.take (k + 1)) = true by rw [putB_succ HX.out, ← HP.out, decide_eq_true hc]; rfl)
            clear hc
            go_wp2_with fail
            go_quiet (fail)
            have hbq := below_drewN hb nq
            have hOs := (hO.bel (below_drewN (Below.refl wc.heap.size wc) nq)).below spanC_good (bel1 (wc.drewN nq) (.cells #[.int .i64 s.frm, .int .i64 s.upto] 45))
            have hsz := hbq.size
            have hss : W0.heap.size ≤ ((wc.drewN nq).alloc (.cells #[.int .i64 s.frm, .int .i64 s.upto] 45)).heap.size := by simp; have := hb.size; omega
            go_wp2_with (first
              | (at_builtin; refine list_app (t := 43) (e := 45) (bytes := 16) rfl (.tmp 37) (.tmp 42) rfl span_elem spanC_good rfl hOq rfl (sl_span _ All x.frm x.upto 45 x0 x1 trivial) (fun _ _ hc => hc) (by have := HFL.out; first | omega | (simp; omega)) (by omega) hsq ?_; intro v' w' xs' hown' hg' _)
              | (at_builtin; refine list_app (t := 43) (e := 45) (bytes := 16) rfl (.tmp 33) (.tmp 35) rfl span_elem spanC_good rfl hOs rfl (sl_span _ All s.frm s.upto 45 is0 is1 trivial) (fun _ _ hc => hc) (by have := HFL.out; omega) (by omega) hss ?_; intro v1 w1 xs1 hown1 hg1 _; have hb1 := below_app (hbq.alloc hsz _) hOs hg1 hss; have hOq := hown1.below spanC_good (bel1 w1 (.cells #[.int .i64 x.frm, .int .i64 x.upto] 45)); have hsq : W0.heap.size ≤ (w1.alloc (.cells #[.int .i64 x.frm, .int .i64 x.upto] 45)).heap.size := Nat.le_trans hb1.size (by simp); have hba := hb1.alloc hb1.size (.cells #[.int .i64 x.frm, .int .i64 x.upto] 45); obtain ⟨f0, f1, f2, f3⟩ := CEL.out _ hb1; obtain ⟨A4, n4, c4, rfl, _⟩ := hown1.sl spanC_good))
            go_roundg (n - (k + 1))
            case measure => omega
            case rel => exact ⟨k + 1, by omega, by omega, by go_num, by rw [HV2.out], HE2.out, xs', by rw [HV.out]; exact hown', below_app hba hOq hg' hsq⟩
          · have hd : decide (s.frm < x.frm) = false := decide_eq_false hc
            have HV := Lib.hid (show putL s (l.take (k + 1)) = L ++ [x] by rw [HL.out]; exact putL_not HX.out HP.out.symm hc)
            have HV2 := Lib.hid (show putB s (l.take (k + 1)) = false by rw [putB_succ HX.out, ← HP.out, decide_eq_false hc]; rfl)
            clear hc
            go_wp2_with fail
            go_quiet (fail)
            have hbq := below_drewN hb nq
            have hOq := (hO.bel (below_drewN (Below.refl wc.heap.size wc) nq)).below spanC_good (bel1 (wc.drewN nq) (.cells #[.int .i64 x.frm, .int .i64 x.upto] 45))
            have hsz := hbq.size
            have hsq : W0.heap.size ≤ ((wc.drewN nq).alloc (.cells #[.int .i64 x.frm, .int .i64 x.upto] 45)).heap.size := by simp; have := hb.size; omega
            go_wp2_with (at_builtin; refine list_app (t := 43) (e := 45) (bytes := 16) rfl (.tmp 37) (.tmp 42) rfl span_elem spanC_good rfl hOq rfl (sl_span _ All x.frm x.upto 45 x0 x1 trivial) (fun _ _ hc => hc) (by have := HFL.out; first | omega | (simp; omega)) (by omega) hsq ?_; intro v' w' xs' hown' hg' _)
            go_roundg (n - (k + 1))
            case measure => omega
            case rel => exact ⟨k + 1, by omega, by omega, by go_num, by rw [HV2.out], HE2.out, xs', by rw [HV.out]; exact hown', below_app (hbq.alloc hsz _) hOq hg' hsq⟩
        · have HV := Lib.hid (show putL s (l.take (k + 1)) = L ++ [x] by rw [HL.out]; exact putL_put HX.out HP.out.symm)
          have HV2 := Lib.hid (show putB s (l.take (k + 1)) = true by rw [putB_succ HX.out, ← HP.out]; rfl)
          go_wp2_with fail
          go_quiet (fail)
          have hbq := below_drewN hb nq
          have hOq := (hO.bel (below_drewN (Below.refl wc.heap.size wc) nq)).below spanC_good (bel1 (wc.drewN nq) (.cells #[.int .i64 x.frm, .int .i64 x.upto] 45))
          have hsz := hbq.size
          have hsq : W0.heap.size ≤ ((wc.drewN nq).alloc (.cells #[.int .i64 x.frm, .int .i64 x.upto] 45)).heap.size := by simp; have := hb.size; omega
          go_wp2_with (at_builtin; refine list_app (t := 43) (e := 45) (bytes := 16) rfl (.tmp 37) (.tmp 42) rfl span_elem spanC_good rfl hOq rfl (sl_span _ All x.frm x.upto 45 x0 x1 trivial) (fun _ _ hc => hc) (by have := HFL.out; first | omega | (simp; omega)) (by omega) hsq ?_; intro v' w' xs' hown' hg' _)
          go_roundg (n - (k + 1))
          case measure => omega
          case rel => exact ⟨k + 1, by omega, by omega, by go_num, by rw [HV2.out], HE2.out, xs', by rw [HV.out]; exact hown', below_app (hbq.alloc hsz _) hOq hg' hsq⟩
      · obtain rfl : u = 6 := by rw [HU.out]; exact if_pos (any_at HX.out HQ.out.symm)
        go_wp2_with fail
        go_ret2
        exact ⟨_, _, rfl, Own.nil _ _ _ _ _, HB0.out.trans (hb.mono HB0.out.size)⟩
    · obtain rfl : k = n := by omega
      have hT : l.take k = l := List.take_of_length_le (Nat.le_of_eq HLN.out)
      rw [hT] at HE
      obtain rfl : u = 0 := by rw [HU.out]; exact if_neg (by rw [HE]; simp)
      have hLe : L = putL s l := by rw [HL.out, hT]
      have hPe : p = putB s l := by rw [HP.out, hT]
      obtain ⟨_, _, d2, d3⟩ : True ∧ True ∧ wr.cell? ⟨g, 0, none⟩ = some (.int .i64 s.frm) ∧ wr.cell? ⟨g, 1, none⟩ = some (.int .i64 s.upto) := ⟨trivial, trivial, (HSA.out.below hb).c0, (HSA.out.below hb).c1⟩
      have hbb := HB0.out.trans (hb.mono HB0.out.size)
      cases p
      · have HV := Lib.hid (show L ++ [s] = R by rw [HR.out, ins_end hPe.symm, hLe]; unfold putL; rw [← hPe]; rfl)
        have hOs := hO.below spanC_good (bel1 wr (.cells #[.int .i64 s.frm, .int .i64 s.upto] 45))
        have hsz := hb.size
        have hss : W0.heap.size ≤ (wr.alloc (.cells #[.int .i64 s.frm, .int .i64 s.upto] 45)).heap.size := by simp; omega
        have HBB := Lib.hid hbb
        clear hT hLe hPe hbb
        go_wp2_with (at_builtin; refine list_app (t := 43) (e := 45) (bytes := 16) rfl (.tmp 46) (.tmp 48) rfl span_elem spanC_good rfl hOs rfl (sl_span _ All s.frm s.upto 45 is0 is1 trivial) (fun _ _ hc => hc) (by have := HFL.out; omega) (by omega) hss ?_; intro v1 w1 xs1 hown1 hg1 _; have hb1 := below_app (hb.alloc hsz _) hOs hg1 hss; obtain ⟨A4, n4, c4, rfl, _⟩ := hown1.sl spanC_good)
        go_ret2
        exact ⟨_, xs1, rfl, by rw [okL_zero, ← HV.out]; exact hown1.mono spanC_good HB0.out.size, HB0.out.trans (hb1.mono HB0.out.size)⟩
      · have HV := Lib.hid (show L = R by rw [HR.out, hLe]; unfold putL; rw [← hPe]; rfl)
        have HBB := Lib.hid hbb
        have HO := Lib.hid hO
        clear hT hLe hPe hbb hO
        go_wp2_with fail
        go_ret2
        exact ⟨_, _, rfl, by rw [okL_zero, ← HV.out]; exact HO.out.mono spanC_good HB0.out.size, HBB.out⟩
end Go.Proofs.Ytpodgidamoiakaa
