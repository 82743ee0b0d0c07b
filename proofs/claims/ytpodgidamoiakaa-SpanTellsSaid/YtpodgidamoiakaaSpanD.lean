/-
  Spans: span.Add.
-/
import Derived.Test.YtpodgidamoiakaaSpanC
import Derived.Test.YtpodgidamoiakaaSpanS
import Derived.Test.YtpodgidamoiakaaStepApp
namespace Go.Proofs.Ytpodgidamoiakaa
open Go.RowKit Go.Shelf

set_option maxHeartbeats 1000000 in
theorem IndexFunc_span (A : Option Addr) (n cap : Nat) (l : List Span) (g : Nat) (lb : Array Value) (p : Span → Bool) (w : World) (h : Sl spanC 2 w All A n cap l)
    (eg : ∀ args w, (callFunc g args).run Try.prog w = .ok (.enter g args) w)
    (hp : ∀ (x : Span) (w1 : World), x ∈ l → Below w.heap.size w w1 → Calls Try.prog g (#[.agg #[.int .i64 x.frm, .int .i64 x.upto]] ++ lb) w1 fun e w' => e = .returned (.bool (p x)) ∧ Below w1.heap.size w1 w') :
    Calls Try.prog 83 #[.slice A n cap, .func (.func g) #[] lb] w fun e w' => e = .returned (.int .i64 (idxF p l)) ∧ Below w.heap.size w w' := by
  have Hp := Lib.hid hp
  clear hp
  have hbd := h.bd
  go_enter Try.func83, Try.ntmps83
  go_wp2_with fail
  go_loopg [8] n (fun gk i wr => ∃ k : Nat, k ≤ n ∧ n - k ≤ gk ∧ i = .int .i64 k ∧ Aside ((l.take k).any p = false) ∧ Below w.heap.size w wr)
  case atStart => exact ⟨0, Nat.zero_le _, by omega, rfl, rfl, Below.refl _ _⟩
  case round =>
    obtain ⟨k, hk, hgk, rfl, HA, hb⟩ := hrel
    by_cases hlt : k < n
    · obtain ⟨b, off, x, c0, c1, rfl, hx, hc, g0, g1⟩ := (h.below spanC_good (by omega) hb).at2 hlt
      obtain ⟨hc, hw⟩ := hc
      simp only [List.cons.injEq, and_true] at hc
      obtain ⟨rfl, rfl⟩ := hc
      have HX := Lib.hid hx
      have HM := Lib.hid (List.mem_of_getElem? hx)
      clear hx
      have hcall := fun w1 (hb1 : Below w.heap.size w w1) => Hp.out x w1 HM.out hb1
      cases hq : p x with
      | true =>
        rw [hq] at hcall
        have HQ := Lib.hid hq
        clear hq
        go_wp2_with (go_at_fn g; refine (hcall _ hb).mono ?_; rintro e w1 ⟨rfl, hb1⟩; replace hb1 := hb.trans (hb1.mono hb.size); clear hcall)
        go_ret
        exact ⟨retI (idxF_at HA HX.out HQ.out).symm, hb1⟩
      | false =>
        rw [hq] at hcall
        have HQ := Lib.hid hq
        clear hq
        go_wp2_with (go_at_fn g; refine (hcall _ hb).mono ?_; rintro e w1 ⟨rfl, hb1⟩; replace hb1 := hb.trans (hb1.mono hb.size); clear hcall)
        go_roundg (n - (k + 1))
        case measure => omega
        case rel => exact ⟨k + 1, by omega, by omega, by go_num, by show _ = _; rw [any_take_succ HX.out, HA, HQ.out]; rfl, hb1⟩
    · have : k = n := by omega
      subst this
      have HT := Lib.hid (List.take_of_length_le (Nat.le_of_eq h.len))
      go_wp2_with fail
      go_ret
      exact ⟨retI (by rw [idxF_none (by rw [← HT.out]; exact HA)]), hb⟩
theorem ContainsFunc_span (A : Option Addr) (n cap : Nat) (l : List Span) (g : Nat) (lb : Array Value) (p : Span → Bool) (w : World) (h : Sl spanC 2 w All A n cap l)
    (eg : ∀ args w, (callFunc g args).run Try.prog w = .ok (.enter g args) w)
    (hp : ∀ (x : Span) (w1 : World), x ∈ l → Below w.heap.size w w1 → Calls Try.prog g (#[.agg #[.int .i64 x.frm, .int .i64 x.upto]] ++ lb) w1 fun e w' => e = .returned (.bool (p x)) ∧ Below w1.heap.size w1 w') :
    Calls Try.prog 63 #[.slice A n cap, .func (.func g) #[] lb] w fun e w' => e = .returned (.bool (l.any p)) ∧ Below w.heap.size w w' := by
  have HC := IndexFunc_span A n cap l g lb p w h eg hp
  clear hp
  go_enter Try.func63, Try.ntmps63
  go_wp2_with fail
  refine HC.mono ?_
  rintro e w1 ⟨rfl, hb⟩
  have HI := Lib.hid (idxF_any (p := p) (l := l))
  have hbd := idxF_bd (p := p) (l := l) (by have := h.bd; have := h.len; omega)
  go_wp2_with fail
  go_ret
  exact ⟨retB HI.out, hb⟩
set_option maxHeartbeats 1000000 in
theorem Clone_span (A : Option Addr) (n cap : Nat) (l : List Span) (w : World) (h : Sl spanC 2 w All A n cap l) (hn : n * 16 ≤ 140737488355328) :
    Calls Try.prog 65 #[.slice A n cap] w fun e w' => ∃ v xs, e = .returned v ∧ Own spanC 2 45 w' w.heap.size v l xs ∧ Below w.heap.size w w' := by
  have hnil := fun (W : World) (a : Option Addr) => Lib.run_eql_slice_nil (P := Try.prog) W 43 45 a n cap 0 0 Try.underlying43
  rcases A with _ | a
  · have hl : l = [] := by
      rcases l with _ | ⟨x, l⟩
      · rfl
      · obtain ⟨b, off, cs, hA, _⟩ := h.rd 0 x rfl
        cases hA
    subst hl
    go_enter Try.func65, Try.ntmps65
    go_wp2
    go_ret
    exact ⟨_, _, rfl, Own.nil _ _ _ _ _, Below.refl _ _⟩
  · go_enter Try.func65, Try.ntmps65
    go_wp2_with (at_builtin; refine list_app (t := 43) (e := 45) (bytes := 16) rfl (.tmp 5) (.tmp 6) rfl span_elem spanC_good rfl (Own.made w spanC 2 45 w.heap.size #[] 0 (Nat.le_refl _) (by simp [maxLen]) rfl) rfl (h.below spanC_good (by omega) ((Below.refl _ _).alloc (Nat.le_refl _) _)) (fun _ _ hc => hc) (by simp; omega) (by omega) (by simp) ?_; intro v' w' xs' hown hg _)
    go_ret
    exact ⟨_, _, rfl, hown, below_app (Below.alloc (Below.refl _ _) (Nat.le_refl _) _) (Own.made w spanC 2 45 w.heap.size #[] 0 (Nat.le_refl _) (by simp [maxLen]) rfl) hg (by simp)⟩

theorem Add1_any (b : Nat) (s x : Span) (w : World) (hS : SpanAt w b s.frm s.upto) :
    Calls Try.prog 64 #[.agg #[.int .i64 x.frm, .int .i64 x.upto], .pointer (some ⟨b, 0, none⟩)] w fun e w' => e = .returned (.bool (meetB x s)) ∧ Below w.heap.size w w' := by
  have hS1 := hS.below (bel1 w (.cells #[.int .i64 x.frm, .int .i64 x.upto] 45))
  have c0 := hS1.c0
  have c1 := hS1.c1
  have hb := bel1 w (.cells #[.int .i64 x.frm, .int .i64 x.upto] 45)
  have hM := fun W => Meet_any x.frm x.upto s.frm s.upto W
  rw [show meetB ⟨x.frm, x.upto⟩ ⟨s.frm, s.upto⟩ = meetB x s from rfl] at hM
  obtain ⟨q, hq⟩ : ∃ q, q = meetB x s := ⟨_, rfl⟩
  rw [← hq] at hM ⊢
  have HM := Lib.hid hM
  clear hM
  clear hq
  go_enter Try.func64, Try.ntmps64
  go_wp2_with fail
  refine (HM.out _).mono ?_
  rintro e w2 ⟨rfl, hb2⟩
  go_wp2_with fail
  go_ret
  exact ⟨rfl, hb.trans (hb2.mono hb.size)⟩

/-- What is wrong with an adding. -/
def addE (l : List Span) (legs : Int) (s : Span) : Int := if readySpE l legs s ≠ 0 then readySpE l legs s else if l.any (fun x => meetB x s) then 6 else 0
theorem readySp_ok {l : List Span} {legs : Int} {s : Span} (h : readySpE l legs s = 0) : CalOk l legs ∧ spanE s legs = 0 := by
  unfold readySpE at h
  by_cases h1 : calE l legs ≠ 0
  · rw [if_pos h1] at h; exact absurd h h1
  · rw [if_neg h1] at h; exact ⟨cal_ok (by omega), h⟩

theorem sl_heap2 {w : World} {b : Nat} {x y : Int} {t : TypeId} (h : Blk w b #[.int .i64 x, .int .i64 y] t) (hx : InI x) (hy : InI y) : Sl spanC 2 w All (some ⟨b, 0, none⟩) 1 1 [⟨x, y⟩] :=
  Sl.ofBlk h [(⟨x, y⟩ : Span)] (by simp) trivial fun i z hz => by
    rcases i with _ | i
    · simp at hz; subst hz
      exact ⟨[.int .i64 x, .int .i64 y], ⟨rfl, hx, hy⟩, rfl, fun j u hu => by rcases j with _ | _ | j <;> simp_all⟩
    · simp at hz
set_option maxRecDepth 100000 in
set_option maxHeartbeats 1000000 in
theorem spanAdd_any (A : Option Addr) (n cap : Nat) (l : List Span) (legs a b : Int) (w : World) (h : Sl spanC 2 w All A n cap l) (ia : InI a) (ib : InI b) :
    Calls Try.prog 23 #[.slice A n cap, .int .i64 legs, .agg #[.int .i64 a, .int .i64 b]] w fun e w' => ∃ v xs l', e = .returned (.tuple #[v, .int .i64 (addE l legs ⟨a, b⟩)]) ∧ Own spanC 2 45 w' w.heap.size v l' xs ∧
      (addE l legs ⟨a, b⟩ ≠ 0 → l' = []) ∧ (addE l legs ⟨a, b⟩ = 0 → l'.Perm (l ++ [⟨a, b⟩]) ∧ l'.Pairwise (fun x y => x.frm ≤ y.frm)) ∧ Below w.heap.size w w' := by
  obtain ⟨r, hr⟩ : ∃ r, r = readySpE l legs ⟨a, b⟩ := ⟨_, rfl⟩
  obtain ⟨u, hu⟩ : ∃ u, u = addE l legs ⟨a, b⟩ := ⟨_, rfl⟩
  have hru : u = if r ≠ 0 then r else if l.any (fun x => meetB x ⟨a, b⟩) then 6 else 0 := by rw [hu, hr]; rfl
  have hrd := fun W h => readySp_any A n cap l legs a b W h
  rw [← hr] at hrd
  rw [← hu]
  have HU := Lib.hid hru
  clear hru
  have HRD := Lib.hid hrd
  clear hrd
  have HR := Lib.hid hr
  clear hr
  clear hu
  go_enter Try.func23, Try.ntmps23
  go_upto_region 0 with (fail)
  go_cut [5] (fun p wx => ∃ g, p = .pointer (some ⟨g, 0, none⟩) ∧ SpanAt wx g a b ∧ Below w.heap.size w wx)
  case first => as_aux_lemma =>
    go_wp2_with fail
    go_meet
    exact ⟨_, rfl, blk1 _ _, bel1 _ _⟩
  obtain ⟨g, rfl, hS, hb⟩ := hcut
  have c0 := hS.c0
  have c1 := hS.c1
  go_wp2_with fail
  refine (HRD.out _ (h.bel hb)).mono ?_
  rintro e w2 ⟨rfl, hb2⟩
  replace hb := hb.trans (hb2.mono hb.size)
  replace hS := hS.below hb2
  clear hb2 c0 c1
  by_cases h0 : ¬ r = 0
  · obtain rfl : u = r := by rw [HU.out, if_pos h0]
    have h0' : (u == 0) = false := by simpa using h0
    have h0'' : (u != 0) = true := by simpa using h0
    have H0 := Lib.hid h0
    clear h0
    go_wp2_with fail
    go_ret2
    exact ⟨_, _, [], rfl, Own.nil _ _ _ _ _, fun _ => rfl, fun e => absurd e H0.out, hb⟩
  have h0 : r = 0 := by omega
  subst h0
  have HU2 := Lib.hid (show u = if l.any (fun x => meetB x ⟨a, b⟩) then 6 else 0 by rw [HU.out, if_neg (by simp)])
  have hcon := ContainsFunc_span A n cap l 64 #[.pointer (some ⟨g, 0, none⟩)] (fun x => meetB x ⟨a, b⟩) w2 (h.bel hb) (enters_of Try.func64 (by kernel_rfl) rfl) (fun x w1 _ hb1 => Add1_any g ⟨a, b⟩ x w1 (hS.below hb1))
  obtain ⟨q, hq⟩ : ∃ q, q = l.any (fun x => meetB x ⟨a, b⟩) := ⟨_, rfl⟩
  rw [← hq] at hcon HU2
  have HC := Lib.hid hcon
  clear hcon
  have HQ := Lib.hid hq
  clear hq
  go_wp2_with fail
  refine HC.out.mono ?_
  rintro e w3 ⟨rfl, hb2⟩
  replace hb := hb.trans (hb2.mono hb.size)
  replace hS := hS.below hb2
  clear hb2
  cases q with
  | true =>
    obtain rfl : u = 6 := HU2.out
    go_wp2_with fail
    go_ret2
    exact ⟨_, _, [], rfl, Own.nil _ _ _ _ _, fun _ => rfl, fun e => absurd e (by decide), hb⟩
  | false =>
    obtain rfl : u = 0 := HU2.out
    obtain ⟨hok, hsp⟩ := readySp_ok HR.out.symm
    have hln := hok.len
    have hhi := hok.hi
    have hnl := h.len
    have h8 : l.length ≤ 7 := by omega
    have hso := span_ok hsp
    have hlt := lt_of_block hS
    have c0 := hS.c0
    have c1 := hS.c1
    have hsl := h.bel hb
    have HCL := Lib.hid (fun W h => Clone_span A n cap l W h (by omega))
    go_upto_region 6 with (fail)
    go_cut [9] (fun v wx => ∃ xs, Own spanC 2 45 wx w3.heap.size v (l ++ [⟨a, b⟩]) xs ∧ Below w3.heap.size w3 wx)
    case first => as_aux_lemma =>
      have hbA : Below w3.heap.size w3 w3.drew := (Below.refl _ w3).drew
      have hbB : Below w3.heap.size w3 (w3.alloc (.cells #[.int .i64 a, .int .i64 b] 45)).drew := (bel1 w3 _).drew
      have hslA := hsl.bel hbA
      have hslB := hsl.bel hbB
      have hlitB : Blk (w3.alloc (.cells #[.int .i64 a, .int .i64 b] 45)).drew w3.heap.size #[.int .i64 a, .int .i64 b] 45 := Blk.new w3 _ _
      have hby : (l.length + 1) * 16 ≤ 140737488355328 := by omega
      go_region_law (first
        | (go_simp; go_at_call 65; first
            | (refine (HCL.out _ hslB).mono ?_; rintro e w1 ⟨v1, xs1, rfl, hown1, hb1⟩; obtain ⟨A1, n1, cap1, rfl, _⟩ := hown1.sl spanC_good; have hbD := hbB.trans (hb1.mono hbB.size); have hslD := sl_heap2 (hlitB.bel hb1) ia ib; have hownD := hown1.mono spanC_good hbB.size; go_wp2_with fail)
            | (refine (HCL.out _ hslA).mono ?_; rintro e w1 ⟨v1, xs1, rfl, hown1, hb1⟩; obtain ⟨A1, n1, cap1, rfl, _⟩ := hown1.sl spanC_good; have hbC := hbA.trans (hb1.mono hbA.size); have hbD := hbC.alloc hbC.size (.cells #[.int .i64 a, .int .i64 b] 45); have hslD := sl_span w1 All a b 45 ia ib trivial; have hownD := (hown1.mono spanC_good hbA.size).below spanC_good (bel1 w1 (.cells #[.int .i64 a, .int .i64 b] 45)); have k0 := (hbC.cell (p := ⟨g, 0, none⟩) hlt).trans c0; have k1 := (hbC.cell (p := ⟨g, 1, none⟩) hlt).trans c1; go_wp2_with fail))
        | (refine step_app (t := 43) (e := 45) (bytes := 16) (base := w3.heap.size) (c := spanC) (l := l) (l2 := [⟨a, b⟩]) (S := All) rfl (.tmp 25) (.tmp 27) rfl span_elem spanC_good rfl rfl hownD hslD (fun _ _ hc => hc) hby (by omega) hbD.size ?_; intro v2 w5 xs2 hown2 hg2 hat2; have hbE := below_app hbD hownD hg2 hbD.size))
      all_goals
        obtain ⟨A5, n5, cap5, rfl, _⟩ := hown2.sl spanC_good
        go_wp2_with fail
        go_meet
        exact ⟨_, hown2, hbE⟩
    obtain ⟨xs, hown, hb2⟩ := hcut
    obtain ⟨L, hL⟩ : ∃ L, L = l ++ [(⟨a, b⟩ : Span)] := ⟨_, rfl⟩
    rw [← hL] at hown
    have hlen1 : L.length = l.length + 1 := by rw [hL]; simp
    obtain ⟨gg, cc, rfl, hgg, hgl⟩ := hown.form (by omega)
    have hsm : ∀ x ∈ L, -1000 ≤ x.frm ∧ x.frm ≤ 1000 := fun x hx => by
      rw [hL] at hx
      rcases List.mem_append.1 hx with hx | hx
      · obtain ⟨i, hi⟩ := List.getElem?_of_mem hx
        have := hok.el i x hi
        omega
      · simp only [List.mem_singleton] at hx
        subst hx
        simp only at hso ⊢
        omega
    have hst := Sort_span hown (by omega) hsm
    have hb4 := hb.trans (hb2.mono hb.size)
    have hsz := hb.size
    have HST := Lib.hid hst
    clear hst
    have HB4 := Lib.hid hb4
    clear hb4
    have HL := Lib.hid hL
    clear hL
    clear hsm hown hb2 hsl c0 c1 hS hb hok hsp hso hlen1 h hln hhi hnl HCL
    go_wp2_with fail
    refine HST.out.mono ?_
    rintro e w5 ⟨rfl, l', xs', hp, hpw, hown5, hk5⟩
    go_wp2_with fail
    go_ret2
    exact ⟨_, rfl, xs', l', hown5.mono spanC_good hsz, ⟨by rw [← HL.out]; exact hp, hpw⟩, HB4.out.trans (hk5.below HB4.out.size (by intro j hj (e : j = gg); omega))⟩
end Go.Proofs.Ytpodgidamoiakaa
