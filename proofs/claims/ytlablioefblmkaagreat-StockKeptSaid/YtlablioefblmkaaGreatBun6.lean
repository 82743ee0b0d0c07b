/-
  Words, laws and contracts: SpanL, BookP, BookA.
-/
import Derived.Test.YtlablioefblmkaaGreatBun5
import Derived.Deep.RegionWith
/-
  Spans: the reference AddSpan.
-/
namespace Go.Proofs.YtlablioefblmkaaGreat
open Go.RowKit Go.Shelf

def putB (s : Span) (l : List Span) : Bool := l.any (fun x => decide (s.frm < x.frm))
def spPutL (s : Span) (l : List Span) : List Span := if putB s l then insSp s l else l
theorem ins_none {s : Span} {m : List Span} (h : putB s m = false) (r : List Span) : insSp s (m ++ r) = m ++ insSp s r := by
  induction m with
  | nil => rfl
  | cons y m ih =>
    unfold putB at h
    rw [List.any_cons, Bool.or_eq_false_iff] at h
    have hy : ¬ s.frm < y.frm := of_decide_eq_false h.1
    show insSp s (y :: (m ++ r)) = y :: (m ++ insSp s r)
    rw [insSp, if_neg hy, ih h.2]
theorem ins_put {s x : Span} {m : List Span} (h : putB s m = true) : insSp s (m ++ [x]) = insSp s m ++ [x] := by
  induction m with
  | nil => simp [putB] at h
  | cons y m ih =>
    show insSp s (y :: (m ++ [x])) = _
    rw [insSp, insSp]
    by_cases hy : s.frm < y.frm
    · rw [if_pos hy, if_pos hy]; rfl
    · rw [if_neg hy, if_neg hy]
      unfold putB at h
      rw [List.any_cons, decide_eq_false hy, Bool.false_or] at h
      rw [ih h]; rfl
theorem putB_succ {s x : Span} {l : List Span} {k : Nat} (h : l[k]? = some x) : putB s (l.take (k + 1)) = (putB s (l.take k) || decide (s.frm < x.frm)) := any_take_succ h
theorem putL_put {s x : Span} {l : List Span} {k : Nat} (h : l[k]? = some x) (hp : putB s (l.take k) = true) : spPutL s (l.take (k + 1)) = spPutL s (l.take k) ++ [x] := by
  unfold spPutL
  rw [putB_succ h, hp, Bool.true_or, if_pos rfl, if_pos rfl, take_snoc h, ins_put hp]
theorem putL_now {s x : Span} {l : List Span} {k : Nat} (h : l[k]? = some x) (hp : putB s (l.take k) = false) (hx : s.frm < x.frm) : spPutL s (l.take (k + 1)) = spPutL s (l.take k) ++ [s] ++ [x] := by
  unfold spPutL
  rw [putB_succ h, hp, decide_eq_true hx, Bool.false_or, if_pos rfl, if_neg (by simp), take_snoc h, ins_none hp]
  rw [insSp, if_pos hx]; simp
theorem putL_not {s x : Span} {l : List Span} {k : Nat} (h : l[k]? = some x) (hp : putB s (l.take k) = false) (hx : ¬ s.frm < x.frm) : spPutL s (l.take (k + 1)) = spPutL s (l.take k) ++ [x] := by
  unfold spPutL
  rw [putB_succ h, hp, decide_eq_false hx, Bool.or_false, if_neg (by simp), if_neg (by simp), take_snoc h]
theorem putL_len (s : Span) (l : List Span) : (spPutL s l).length ≤ l.length + 1 := by
  unfold spPutL
  split
  · have := (ins_perm s l).length_eq; rw [this]; simp
  · omega
theorem ins_end {s : Span} {l : List Span} (h : putB s l = false) : insSp s l = l ++ [s] := by
  have := ins_none h []
  rwa [List.append_nil] at this

def adE (l : List Span) (s : Span) : Int := if l.any (fun x => meetB x s) then 6 else 0
set_option maxRecDepth 100000 in
set_option maxHeartbeats 8000000 in
theorem AddSpan_any (A : Option Addr) (n cap : Nat) (l : List Span) (s : Span) (w : World) (h : Sl spanC 2 w All A n cap l) (hl : l.length ≤ 1000) (hok : ∀ x ∈ l, OkSp x) (hs : OkSp s) (is0 : InI s.frm) (is1 : InI s.upto) :
    Calls Tryz.prog 78 #[.slice A n cap, .agg #[.int .i64 s.frm, .int .i64 s.upto]] w fun e w' => ∃ v xs, e = .returned (.tuple #[v, .int .i64 (adE l s)]) ∧
      Own spanC 2 39 w' w.heap.size v (okL (adE l s) (insSp s l)) xs ∧ Below w.heap.size w w' := by
  have hbd := h.bd
  have HLN := Lib.hid h.len
  obtain ⟨u, hu⟩ : ∃ u, u = adE l s := ⟨_, rfl⟩
  obtain ⟨R, hR⟩ : ∃ R, R = insSp s l := ⟨_, rfl⟩
  rw [← hu, ← hR]
  have HU := Lib.hid hu
  clear hu
  have HR := Lib.hid hR
  clear hR
  have hn1 : n ≤ 1000 := by rw [← HLN.out]; exact hl
  have HOK := Lib.hid hok
  clear hok
  have HS := Lib.hid hs
  clear hs
  clear hl
  go_enter Tryz.func78, Tryz.ntmps78
  go_upto_region 0 with (fail)
  go_cut [3] (fun p wx => ∃ g, p = .pointer (some ⟨g, 0, none⟩) ∧ SpanAt wx g s.frm s.upto ∧ Below w.heap.size w wx)
  case first => as_aux_lemma =>
    go_wp2_with fail
    go_meet
    exact ⟨_, rfl, blk1 _ _, bel1 _ _⟩
  obtain ⟨g, rfl, hS, hb0⟩ := hcut
  replace h := h.bel hb0
  obtain ⟨W0, hW0⟩ : ∃ W0, W0 = wc := ⟨_, rfl⟩
  have HSA := Lib.hid hS
  have HH := Lib.hid h
  have HB0 := Lib.hid hb0
  clear hS h hb0
  subst hW0
  go_wp2_with fail
  go_loopg [6, 7, 8] n (fun gk o p i wr => ∃ k : Nat, k ≤ n ∧ n - k ≤ gk ∧ i = .int .i64 k ∧ p = .bool (putB s (l.take k)) ∧ Aside ((l.take k).any (fun x => meetB x s) = false) ∧ ∃ xs, Own spanC 2 39 wr W0.heap.size o (spPutL s (l.take k)) xs ∧ Below W0.heap.size W0 wr)
  case atStart => exact ⟨0, Nat.zero_le _, by omega, rfl, rfl, rfl, [], Own.nil _ _ _ _ _, Below.refl _ _⟩
  case round =>
    obtain ⟨k, hk, hgk, rfl, rfl, HE, xs, hO, hb⟩ := hrel
    obtain ⟨A2, n2, cap2, rfl, _⟩ := hO.sl spanC_good
    obtain ⟨L, hL⟩ : ∃ L, L = spPutL s (l.take k) := ⟨_, rfl⟩
    obtain ⟨p, hp⟩ : ∃ p, p = putB s (l.take k) := ⟨_, rfl⟩
    rw [← hL] at hO
    rw [← hp]
    have hfl : L.length ≤ 1001 := by
      rw [hL]
      have h1 := putL_len s (l.take k)
      have h2 := List.length_take_le k l
      omega
    have HFL := Lib.hid hfl
    have HL := Lib.hid hL
    clear hL
    have HP := Lib.hid hp
    clear hp
    clear hfl
    by_cases hlt : k < n
    · obtain ⟨b, off, x, c0, c1, rfl, hx, ⟨hc, x0, x1⟩, g0, g1⟩ := HH.out.at2 hlt
      simp only [List.cons.injEq, and_true] at hc
      obtain ⟨rfl, rfl⟩ := hc
      have lb := cell_lt g0
      have cel : ∀ X, Below W0.heap.size W0 X → X.cell? ⟨b, off + k * 2, none⟩ = some (.int .i64 x.frm) ∧ X.cell? ⟨b, off + k * 2 + 1, none⟩ = some (.int .i64 x.upto) ∧ X.cell? ⟨g, 0, none⟩ = some (.int .i64 s.frm) ∧ X.cell? ⟨g, 1, none⟩ = some (.int .i64 s.upto) := fun X hX =>
        ⟨(hX.cell (p := ⟨b, off + k * 2, none⟩) lb).trans g0, (hX.cell (p := ⟨b, off + k * 2 + 1, none⟩) lb).trans g1, (HSA.out.below hX).c0, (HSA.out.below hX).c1⟩
      have hmt := fun W => DoMeet_any x s W (HOK.out x (List.mem_of_getElem? hx)) HS.out
      obtain ⟨q, hq⟩ : ∃ q, q = meetB x s := ⟨_, rfl⟩
      rw [← hq] at hmt
      have HMT := Lib.hid hmt
      clear hmt
      have HX := Lib.hid hx
      clear hx
      have HQ := Lib.hid hq
      clear hq
      have CEL := Lib.hid cel
      clear cel
      clear g0 g1
      obtain ⟨d0, d1, d2, d3⟩ := CEL.out _ hb
      go_upto_region 6 with (fail)
      go_cut [20] (fun t wx => t = .bool q ∧ Below wr.heap.size wr wx)
      case first => as_aux_lemma =>
        go_region_with (go_at_call 152; refine (HMT.out _).mono ?_; rintro e wn ⟨rfl, hbn⟩)
        all_goals
          go_wp2_with fail
          go_meet
          exact ⟨rfl, (Below.refl _ wr).drew.trans hbn⟩
      obtain ⟨rfl, hb4⟩ := hcut
      replace hO := hO.bel hb4
      replace hb := hb.trans (hb4.mono hb.size)
      clear hb4 d0 d1 d2 d3
      obtain ⟨d0, d1, d2, d3⟩ := CEL.out _ hb
      cases q
      · have HE2 := Lib.hid (show (l.take (k + 1)).any (fun x => meetB x s) = false by rw [any_take_succ HX.out, HE, ← HQ.out]; rfl)
        cases p
        · by_cases hc : s.frm < x.frm
          · have hd : decide (s.frm < x.frm) = true := decide_eq_true hc
            have HV := Lib.hid (show spPutL s (l.take (k + 1)) = L ++ [s] ++ [x] by rw [HL.out]; exact putL_now HX.out HP.out.symm hc)
            have HV2 := Lib.hid (show putB s (l.take (k + 1)) = true by rw [putB_succ HX.out, ← HP.out, decide_eq_true hc]; rfl)
            clear hc
            go_wp2_with fail
            go_quiet (fail)
            have hbq := below_drewN hb nq
            have hOs := (hO.bel (below_drewN (Below.refl wc.heap.size wc) nq)).below spanC_good (bel1 (wc.drewN nq) (.cells #[.int .i64 s.frm, .int .i64 s.upto] 39))
            have hsz := hbq.size
            have hss : W0.heap.size ≤ ((wc.drewN nq).alloc (.cells #[.int .i64 s.frm, .int .i64 s.upto] 39)).heap.size := by simp; have := hb.size; omega
            go_wp2_with (first
              | (at_builtin; refine list_app (t := 48) (e := 39) (bytes := 16) rfl (.tmp 37) (.tmp 42) rfl span_elem spanC_good rfl hOq rfl (sl_span _ All x.frm x.upto 39 x0 x1 trivial) (fun _ _ hc => hc) (by have := HFL.out; first | omega | (simp; omega)) (by omega) hsq ?_; intro v' w' xs' hown' hg' _)
              | (at_builtin; refine list_app (t := 48) (e := 39) (bytes := 16) rfl (.tmp 33) (.tmp 35) rfl span_elem spanC_good rfl hOs rfl (sl_span _ All s.frm s.upto 39 is0 is1 trivial) (fun _ _ hc => hc) (by have := HFL.out; omega) (by omega) hss ?_; intro v1 w1 xs1 hown1 hg1 _; have hb1 := below_app (hbq.alloc hsz _) hOs hg1 hss; have hOq := hown1.below spanC_good (bel1 w1 (.cells #[.int .i64 x.frm, .int .i64 x.upto] 39)); have hsq : W0.heap.size ≤ (w1.alloc (.cells #[.int .i64 x.frm, .int .i64 x.upto] 39)).heap.size := Nat.le_trans hb1.size (by simp); have hba := hb1.alloc hb1.size (.cells #[.int .i64 x.frm, .int .i64 x.upto] 39); obtain ⟨f0, f1, f2, f3⟩ := CEL.out _ hb1; obtain ⟨A4, n4, c4, rfl, _⟩ := hown1.sl spanC_good))
            go_roundg (n - (k + 1))
            case measure => omega
            case rel => exact ⟨k + 1, by omega, by omega, by go_num, by rw [HV2.out], HE2.out, xs', by rw [HV.out]; exact hown', below_app hba hOq hg' hsq⟩
          · have hd : decide (s.frm < x.frm) = false := decide_eq_false hc
            have HV := Lib.hid (show spPutL s (l.take (k + 1)) = L ++ [x] by rw [HL.out]; exact putL_not HX.out HP.out.symm hc)
            have HV2 := Lib.hid (show putB s (l.take (k + 1)) = false by rw [putB_succ HX.out, ← HP.out, decide_eq_false hc]; rfl)
            clear hc
            go_wp2_with fail
            go_quiet (fail)
            have hbq := below_drewN hb nq
            have hOq := (hO.bel (below_drewN (Below.refl wc.heap.size wc) nq)).below spanC_good (bel1 (wc.drewN nq) (.cells #[.int .i64 x.frm, .int .i64 x.upto] 39))
            have hsz := hbq.size
            have hsq : W0.heap.size ≤ ((wc.drewN nq).alloc (.cells #[.int .i64 x.frm, .int .i64 x.upto] 39)).heap.size := by simp; have := hb.size; omega
            go_wp2_with (at_builtin; refine list_app (t := 48) (e := 39) (bytes := 16) rfl (.tmp 37) (.tmp 42) rfl span_elem spanC_good rfl hOq rfl (sl_span _ All x.frm x.upto 39 x0 x1 trivial) (fun _ _ hc => hc) (by have := HFL.out; first | omega | (simp; omega)) (by omega) hsq ?_; intro v' w' xs' hown' hg' _)
            go_roundg (n - (k + 1))
            case measure => omega
            case rel => exact ⟨k + 1, by omega, by omega, by go_num, by rw [HV2.out], HE2.out, xs', by rw [HV.out]; exact hown', below_app (hbq.alloc hsz _) hOq hg' hsq⟩
        · have HV := Lib.hid (show spPutL s (l.take (k + 1)) = L ++ [x] by rw [HL.out]; exact putL_put HX.out HP.out.symm)
          have HV2 := Lib.hid (show putB s (l.take (k + 1)) = true by rw [putB_succ HX.out, ← HP.out]; rfl)
          go_wp2_with fail
          go_quiet (fail)
          have hbq := below_drewN hb nq
          have hOq := (hO.bel (below_drewN (Below.refl wc.heap.size wc) nq)).below spanC_good (bel1 (wc.drewN nq) (.cells #[.int .i64 x.frm, .int .i64 x.upto] 39))
          have hsz := hbq.size
          have hsq : W0.heap.size ≤ ((wc.drewN nq).alloc (.cells #[.int .i64 x.frm, .int .i64 x.upto] 39)).heap.size := by simp; have := hb.size; omega
          go_wp2_with (at_builtin; refine list_app (t := 48) (e := 39) (bytes := 16) rfl (.tmp 37) (.tmp 42) rfl span_elem spanC_good rfl hOq rfl (sl_span _ All x.frm x.upto 39 x0 x1 trivial) (fun _ _ hc => hc) (by have := HFL.out; first | omega | (simp; omega)) (by omega) hsq ?_; intro v' w' xs' hown' hg' _)
          go_roundg (n - (k + 1))
          case measure => omega
          case rel => exact ⟨k + 1, by omega, by omega, by go_num, by rw [HV2.out], HE2.out, xs', by rw [HV.out]; exact hown', below_app (hbq.alloc hsz _) hOq hg' hsq⟩
      · obtain rfl : u = 6 := by rw [HU.out]; exact if_pos (any_at HX.out HQ.out.symm)
        go_wp2_with fail
        go_ret2
        exact ⟨_, _, rfl, Own.nil _ _ _ _ _, HB0.out.trans (hb.mono HB0.out.size)⟩
    · obtain rfl : k = n := by omega
      have hT : l.take k = l := List.take_of_length_le (Nat.le_of_eq HLN.out)
      rw [hT] at HE
      obtain rfl : u = 0 := by rw [HU.out]; exact if_neg (by rw [HE]; simp)
      have hLe : L = spPutL s l := by rw [HL.out, hT]
      have hPe : p = putB s l := by rw [HP.out, hT]
      obtain ⟨_, _, d2, d3⟩ : True ∧ True ∧ wr.cell? ⟨g, 0, none⟩ = some (.int .i64 s.frm) ∧ wr.cell? ⟨g, 1, none⟩ = some (.int .i64 s.upto) := ⟨trivial, trivial, (HSA.out.below hb).c0, (HSA.out.below hb).c1⟩
      have hbb := HB0.out.trans (hb.mono HB0.out.size)
      cases p
      · have HV := Lib.hid (show L ++ [s] = R by rw [HR.out, ins_end hPe.symm, hLe]; unfold spPutL; rw [← hPe]; rfl)
        have hOs := hO.below spanC_good (bel1 wr (.cells #[.int .i64 s.frm, .int .i64 s.upto] 39))
        have hsz := hb.size
        have hss : W0.heap.size ≤ (wr.alloc (.cells #[.int .i64 s.frm, .int .i64 s.upto] 39)).heap.size := by simp; omega
        have HBB := Lib.hid hbb
        clear hT hLe hPe hbb
        go_wp2_with (at_builtin; refine list_app (t := 48) (e := 39) (bytes := 16) rfl (.tmp 46) (.tmp 48) rfl span_elem spanC_good rfl hOs rfl (sl_span _ All s.frm s.upto 39 is0 is1 trivial) (fun _ _ hc => hc) (by have := HFL.out; omega) (by omega) hss ?_; intro v1 w1 xs1 hown1 hg1 _; have hb1 := below_app (hb.alloc hsz _) hOs hg1 hss; obtain ⟨A4, n4, c4, rfl, _⟩ := hown1.sl spanC_good)
        go_ret2
        exact ⟨_, xs1, rfl, by rw [okL_zero, ← HV.out]; exact hown1.mono spanC_good HB0.out.size, HB0.out.trans (hb1.mono HB0.out.size)⟩
      · have HV := Lib.hid (show L = R by rw [HR.out, hLe]; unfold spPutL; rw [← hPe]; rfl)
        have HBB := Lib.hid hbb
        have HO := Lib.hid hO
        clear hT hLe hPe hbb hO
        go_wp2_with fail
        go_ret2
        exact ⟨_, _, rfl, by rw [okL_zero, ← HV.out]; exact HO.out.mono spanC_good HB0.out.size, HBB.out⟩
end Go.Proofs.YtlablioefblmkaaGreat
/-
  Bookings: plain laws: spans that are put in one behind the other lie as those that are sorted.
-/
namespace Go.Proofs.YtlablioefblmkaaGreat
open Go.RowKit Go.Shelf

theorem meet_comm (x y : Span) : meetB x y = meetB y x := by
  unfold meetB
  rw [Bool.and_comm]
/-- Spans that are put in one behind the other; none: two meet. -/
def put1 (out : List Span) (s : Span) : Option (List Span) := if adE out s = 0 then some (insSp s out) else none
def spF (ls : List Span) : Option (List Span) := ls.foldl (fun o s => o.bind (fun out => put1 out s)) (some [])
theorem spF_snoc (ls : List Span) (s : Span) : spF (ls ++ [s]) = (spF ls).bind (fun out => put1 out s) := by
  unfold spF
  rw [List.foldl_append]; rfl
theorem adE_zero {l : List Span} {s : Span} : adE l s = 0 ↔ l.any (fun x => meetB x s) = false := by
  unfold adE
  cases h : l.any (fun x => meetB x s)
  · simp
  · simp
theorem snoc_ind {α : Type} {p : List α → Prop} (h0 : p []) (h1 : ∀ l x, p l → p (l ++ [x])) : ∀ l, p l := fun l => by
  have : ∀ l : List α, p l.reverse := fun l => by
    induction l with
    | nil => exact h0
    | cons x l ih => rw [List.reverse_cons]; exact h1 _ _ ih
  have h := this l.reverse
  rwa [List.reverse_reverse] at h
theorem spF_some0 : ∀ ls : List Span, ∀ out : List Span, (∀ x ∈ ls, x.frm < x.upto) → spF ls = some out → out.Perm ls ∧ out.Pairwise (fun x y => x.upto ≤ y.frm) := by
  refine snoc_ind (p := fun ls => ∀ out : List Span, (∀ x ∈ ls, x.frm < x.upto) → spF ls = some out → out.Perm ls ∧ out.Pairwise (fun x y => x.upto ≤ y.frm)) ?_ ?_
  · intro out _ h
    injection h with h
    subst h
    exact ⟨List.Perm.refl _, List.Pairwise.nil⟩
  · intro ls s ih out hok h
    rw [spF_snoc] at h
    cases ho : spF ls with
    | none => rw [ho] at h; cases h
    | some o =>
      rw [ho] at h
      have h : put1 o s = some out := h
      unfold put1 at h
      by_cases h1 : adE o s = 0
      · rw [if_pos h1] at h
        injection h with h
        subst h
        obtain ⟨hp, hw⟩ := ih _ (fun x hx => hok x (List.mem_append_left _ hx)) ho
        exact ⟨(ins_perm s o).trans (hp.append_right [s]), ins_pair (hok s (by simp)) (fun x hx => hok x (List.mem_append_left _ (hp.subset hx))) hw (adE_zero.1 h1)⟩
      · rw [if_neg h1] at h; cases h
theorem spF_some {ls out : List Span} (h1 : ∀ x ∈ ls, x.frm < x.upto) (h2 : spF ls = some out) : out.Perm ls ∧ out.Pairwise (fun x y => x.upto ≤ y.frm) := spF_some0 ls out h1 h2
theorem spF_apart0 : ∀ ls : List Span, (∀ x ∈ ls, x.frm < x.upto) → ls.Pairwise (fun x y => meetB x y = false) → ∃ out, spF ls = some out := by
  refine snoc_ind (p := fun ls => (∀ x ∈ ls, x.frm < x.upto) → ls.Pairwise (fun x y => meetB x y = false) → ∃ out, spF ls = some out) (fun _ _ => ⟨[], rfl⟩) ?_
  intro ls s ih hok hw
  rw [List.pairwise_append] at hw
  obtain ⟨o, ho⟩ := ih (fun x hx => hok x (List.mem_append_left _ hx)) hw.1
  have hp := (spF_some (fun x hx => hok x (List.mem_append_left _ hx)) ho).1
  rw [spF_snoc, ho]
  refine ⟨insSp s o, ?_⟩
  show put1 o s = _
  unfold put1
  rw [if_pos (adE_zero.2 (List.any_eq_false.2 fun x hx => by rw [hw.2.2 x (hp.subset hx) s (by simp)]; simp))]
theorem spF_apart {ls : List Span} (h1 : ∀ x ∈ ls, x.frm < x.upto) (h2 : ls.Pairwise (fun x y => meetB x y = false)) : ∃ out, spF ls = some out := spF_apart0 ls h1 h2
theorem pair_chain {R : Span → Span → Prop} (ht : ∀ x y z, R x y → R y z → R x z) : ∀ {s : List Span}, (∀ i x y, s[i]? = some x → s[i + 1]? = some y → R x y) → s.Pairwise R
  | [], _ => List.Pairwise.nil
  | [x], _ => by simp
  | x :: y :: s, h => by
    have ih := pair_chain ht (s := y :: s) (fun i a b ha hb => h (i + 1) a b (by simpa using ha) (by simpa using hb))
    have hxy := h 0 x y rfl rfl
    rw [List.pairwise_cons]
    refine ⟨fun z hz => ?_, ih⟩
    rcases List.mem_cons.1 hz with rfl | hz
    · exact hxy
    · exact ht x y z hxy ((List.pairwise_cons.1 ih).1 z hz)
theorem pair_meet {s : List Span} (h : s.Pairwise (fun x y => x.upto ≤ y.frm)) : s.Pairwise (fun x y => meetB x y = false) :=
  h.imp fun hxy => by unfold meetB; simp; omega
/-- What is sorted, and has no two that meet side by side, is what is put in one behind the other; else two meet. -/
theorem taken_law {ls s : List Span} (hok : ∀ x ∈ ls, x.frm < x.upto) (hp : s.Perm ls) (hs : s.Pairwise (fun x y => x.frm ≤ y.frm)) :
    ((∀ i x y, s[i]? = some x → s[i + 1]? = some y → meetB x y = false) → spF ls = some s) ∧ ((∃ i x y, s[i]? = some x ∧ s[i + 1]? = some y ∧ meetB x y = true) → spF ls = none) := by
  have hoks : ∀ x ∈ s, x.frm < x.upto := fun x hx => hok x (hp.subset hx)
  have hsym : ∀ {x y : Span}, meetB x y = false → meetB y x = false := fun {x y} h => by rw [meet_comm]; exact h
  refine ⟨fun h => ?_, fun h => ?_⟩
  · have hw : s.Pairwise (fun x y => x.upto ≤ y.frm) := by
      refine List.Pairwise.imp (R := fun x y => x.upto ≤ y.frm ∧ y.frm < y.upto) (fun h => h.1) (pair_chain (fun x y z h1 h2 => ⟨by omega, h2.2⟩) fun i x y hx hy => ?_)
      have hx1 := hoks x (List.mem_of_getElem? hx)
      have hy1 := hoks y (List.mem_of_getElem? hy)
      have hle : x.frm ≤ y.frm := by
        obtain ⟨hi, rfl⟩ := List.getElem?_eq_some_iff.1 hx
        obtain ⟨hj, rfl⟩ := List.getElem?_eq_some_iff.1 hy
        exact List.pairwise_iff_getElem.1 hs i (i + 1) hi hj (by omega)
      rcases meet_apart (h i x y hx hy) hx1 hy1 with e | e
      · exact ⟨e, hy1⟩
      · omega
    obtain ⟨o, ho⟩ := spF_apart hok ((hp.pairwise_iff (fun {x y} => hsym)).1 (pair_meet hw))
    obtain ⟨hpo, hwo⟩ := spF_some hok ho
    rw [ho, sorted_unique (hp.trans hpo.symm) hs (pair_lt (fun x hx => hok x (hpo.subset hx)) hwo)]
  · obtain ⟨i, x, y, hx, hy, hm⟩ := h
    cases ho : spF ls with
    | none => rfl
    | some o =>
      obtain ⟨hpo, hwo⟩ := spF_some hok ho
      have h1 : s.Pairwise (fun x y => meetB x y = false) := ((hp.trans hpo.symm).pairwise_iff (fun {x y} => hsym)).2 (pair_meet hwo)
      obtain ⟨hi, rfl⟩ := List.getElem?_eq_some_iff.1 hx
      obtain ⟨hj, rfl⟩ := List.getElem?_eq_some_iff.1 hy
      have := List.pairwise_iff_getElem.1 h1 i (i + 1) hi hj (by omega)
      rw [this] at hm
      exact absurd hm (by simp)
end Go.Proofs.YtlablioefblmkaaGreat
/-
  Bookings: data; what is wrong with one.
-/
namespace Go.Proofs.YtlablioefblmkaaGreat
open Go.RowKit Go.Shelf

structure Bkg where
  id : Int
  kind : Int
  state : Int
  gst : Int
  lev : Bool
  cab : Int
  cat : Int
  frm : Int
  upto : Int
  til : Int
  fol : List Entry
  deriving Inhabited
structure BkIn (x : Bkg) : Prop where
  id : InI x.id
  kind : InI x.kind
  state : InI x.state
  gst : InI x.gst
  cab : InI x.cab
  cat : InI x.cat
  frm : InI x.frm
  upto : InI x.upto
  til : InI x.til
abbrev bkgA (x : Bkg) (v : Value) : Array Value := #[.int .i64 x.id, .int .i64 x.kind, .int .i64 x.state, .int .i64 x.gst, .bool x.lev, .int .i64 x.cab, .int .i64 x.cat, .int .i64 x.frm, .int .i64 x.upto, .int .i64 x.til, v]
def bkgC : Cod Bkg := fun w S x cs => ∃ A n cap, cs = (bkgA x (.slice A n cap)).toList ∧ Sl entryC 3 w S A n cap x.fol ∧ BkIn x
theorem bkgC_good : Good bkgC := ⟨fun h hk => by
    obtain ⟨A, n, cap, rfl, h, hl⟩ := h
    exact ⟨A, n, cap, rfl, h.keep entryC_good (by omega) hk, hl⟩,
  fun h u hu => by
    obtain ⟨A, n, cap, rfl, h, hl⟩ := h
    simp [bkgA] at hu; rcases hu with rfl | rfl | rfl | rfl | rfl | rfl | rfl | rfl | rfl | rfl | rfl <;> rfl⟩
instance bkgK : CodK bkgC 11 := ⟨bkgC_good, by omega⟩
instance entryK : CodK entryC 3 := ⟨entryC_good, by omega⟩

/-- Is a cabin for as many guests, and level, if that is asked for? -/
def fitB (c : Cab) (b : Bkg) : Bool := decide (b.gst ≤ c.ber) && (c.lev || !b.lev)
def cabAt (x : Shp) (i : Int) : Cab := x.cabs.getD i.toNat default
def eligB (x : Shp) (b : Bkg) (i : Int) : Bool := fitB (cabAt x i) b && srvB (higC x.cats) (cabAt x i).cat.toNat b.cat.toNat
def namedE (x : Shp) (b : Bkg) : Int := if betB b.cab 0 ((x.cabs.length : Int) - 1) = false then 3 else if b.cat ≠ 0 then 1 else if fitB (cabAt x b.cab) b = false then 4 else 0
def promE (x : Shp) (b : Bkg) : Int := if betB b.cat 0 ((x.cats.length : Int) - 1) = false then 3 else if b.frm ≠ 0 ∨ b.upto ≠ x.legs then 4 else if betB b.cab (-1) ((x.cabs.length : Int) - 1) = false then 3
  else if 0 ≤ b.cab ∧ eligB x b b.cab = false then 4 else 0
def kindE (x : Shp) (b : Bkg) : Int := if b.kind = 2 then promE x b else namedE x b
/-- What is wrong with a booking of a ship that is right. -/
def ofE (x : Shp) (b : Bkg) : Int := if (betB b.kind 1 2 && betB b.state 1 3) = false then 7 else if (betB b.id 1 999999 && betB b.gst 1 4) = false then 3 else if spanE ⟨b.frm, b.upto⟩ x.legs ≠ 0 then spanE ⟨b.frm, b.upto⟩ x.legs
  else if kindE x b ≠ 0 then kindE x b else if betB b.til 0 9999 = false then 3 else if b.til ≠ 0 ∧ b.state ≠ 1 then 1 else checkFolio b.fol
/-- What is wrong with a ship, and bookings. -/
def allE (x : Shp) (l : List Bkg) : Int := if shipE x ≠ 0 then shipE x else firstE (fun i => ofE x (l.getD i default)) l.length
def liveB (b : Bkg) : Bool := !decide (b.state = 3)
def hasB (c : Int) (b : Bkg) : Bool := liveB b && decide (b.cab = c)
/-- The spans of a cabin, as they come. -/
def spL (l : List Bkg) (c : Int) : List Span := (l.filter (hasB c)).map (fun b => ⟨b.frm, b.upto⟩)
/-- How many are on board on a leg. -/
def soulK (l : List Bkg) (k : Nat) : Int := (l.map (fun b => if liveB b = true ∧ b.frm ≤ k ∧ (k : Int) < b.upto then b.gst else 0)).sum
def soulL (l : List Bkg) (legs : Nat) : List Int := (List.range legs).map (soulK l)
end Go.Proofs.YtlablioefblmkaaGreat
