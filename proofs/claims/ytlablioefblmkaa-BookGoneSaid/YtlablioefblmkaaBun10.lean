/-
  Words, laws and contracts: SpanO, IntsAre, BookL, BookM, Lift, SpanLift, ShipLift, FolioLift, BookLift, Raw.
-/
import Derived.Test.YtlablioefblmkaaBun9
import Derived.Test.YtlablioefblmkaaRows
import Derived.ProofKit
import Derived.OpenShut
import Derived.ShutString
import Derived.ChangeOld
import Derived.Deep.Slices
import Derived.SizedLaws
/-
  Spans: plain laws on taking; the laws' helper spansAre.
-/
namespace Go.Proofs.Ytlablioefblmkaa
open Go.RowKit Go.Shelf

theorem takeR_none {l : List Span} {s : Span} (h : ∀ x ∈ l, x ≠ s) : takeR l s = l := by
  unfold takeR
  rw [List.filter_eq_self]
  intro x hx
  simp [notSp, spanQ, h x hx]
theorem takeR_del {s : Span} : ∀ {l : List Span}, l.Pairwise (fun x y => x.frm < y.frm) → s ∈ l → takeR l s = delSp l s := by
  intro l
  induction l with
  | nil => intro _ h; simp at h
  | cons x l ih =>
    intro hp h
    rw [List.pairwise_cons] at hp
    by_cases e : x = s
    · subst e
      have h1 : takeR (x :: l) x = takeR l x := by unfold takeR; rw [List.filter_cons_of_neg (by simp [notSp, spanQ])]
      rw [h1, takeR_none (fun y hy e => by have := hp.1 y hy; rw [e] at this; omega)]
      unfold delSp
      rw [List.findIdx_cons, show spanQ x x = true from spanQ_iff.2 rfl]
      rfl
    · have hm : s ∈ l := by
        rcases List.mem_cons.1 h with h | h
        · exact absurd h.symm e
        · exact h
      have h1 : takeR (x :: l) s = x :: takeR l s := by unfold takeR; rw [List.filter_cons_of_pos (by simp [notSp, spanQ, e])]
      rw [h1, ih hp.2 hm]
      unfold delSp
      rw [List.findIdx_cons, show spanQ s x = false by simp [spanQ]; exact fun h => e h.symm]
      rfl
theorem delSp_len {l : List Span} {s : Span} (h : l.any (spanQ s) = true) : (delSp l s).length + 1 = l.length := by
  have hi : l.findIdx (spanQ s) < l.length := List.findIdx_lt_length_of_exists (by simpa using h)
  unfold delSp
  rw [List.length_append, List.length_take, List.length_drop]
  omega
/-- What the reference takes is what the code takes. -/
theorem take_same {l : List Span} {legs : Int} {s : Span} (h : CalOk l legs) (hr : readySpE l legs s = 0) : takeE l legs s = tkE (takeR l s) l ∧ okL (takeE l legs s) (delSp l s) = tkL (takeR l s) l := by
  unfold takeE
  rw [hr, if_neg (by simp)]
  cases q : l.any (spanQ s) with
  | true =>
    obtain ⟨y, hy, he⟩ := List.any_eq_true.1 q
    obtain rfl : s = y := spanQ_iff.1 he
    have ht := takeR_del (pair_lt (fun x hx => (cal_mem h hx).2.1) (cal_pair h)) hy
    have hl := delSp_len q
    rw [ht, if_pos rfl, okL_zero]
    exact ⟨(if_neg (by omega)).symm, (if_neg (by omega)).symm⟩
  | false =>
    have ht : takeR l s = l := takeR_none fun x hx e => by
      have := List.any_eq_false.1 q x hx
      exact this (spanQ_iff.2 e.symm)
    rw [ht, if_neg (by simp), okL_ne (by decide)]
    exact ⟨(if_pos rfl).symm, (if_pos rfl).symm⟩
/-- What the reference adds is what the code adds. -/
theorem add_same {l : List Span} {legs : Int} {s : Span} (hr : readySpE l legs s = 0) : spAddE l legs s = adE l s := by
  unfold spAddE
  rw [hr, if_neg (by simp)]
  rfl

set_option maxRecDepth 100000 in
set_option maxHeartbeats 2000000 in
theorem spansAre_any (A B : Option Addr) (n cap m cap2 : Nat) (l k : List Span) (u : Int) (w : World) (h : Sl spanC 2 w All A n cap (okL u l)) (h2 : Sl spanC 2 w All B m cap2 k) (hk : u = 0 → k = l) :
    Calls Try.prog 14 #[.slice A n cap, .int .i64 u, .int .i64 u, .slice B m cap2] w fun e w' => e = .returned (.bool true) ∧ Below w.heap.size w w' := by
  by_cases h0 : u = 0
  · obtain rfl := hk h0
    subst h0
    rw [okL_zero] at h
    have hs := SameSpans_any _ _ _ _ _ _ _ _ _ h h2
    rw [show decide (k = k) = true by simp] at hs
    have HS := Lib.hid hs
    clear hs
    clear h h2 hk
    go_enter Try.func14, Try.ntmps14
    go_wp2_with fail
    refine HS.out.mono ?_
    rintro e w6 ⟨rfl, q, rfl⟩
    go_wp2_with fail
    go_ret
    exact ⟨rfl, below_drewN (Below.refl _ _) _⟩
  · rw [okL_ne h0] at h
    have h0' : (u != 0) = true := by simpa using h0
    have hs := SameSpans_any _ _ _ _ _ _ _ _ _ h (Sl.nil w All spanC 2)
    rw [show decide (([] : List Span) = []) = true by decide] at hs
    have HS := Lib.hid hs
    clear hs
    clear h h2 hk h0
    go_enter Try.func14, Try.ntmps14
    go_wp2_with fail
    refine HS.out.mono ?_
    rintro e w6 ⟨rfl, q, rfl⟩
    go_wp2_with fail
    go_ret
    exact ⟨rfl, below_drewN (Below.refl _ _) _⟩
end Go.Proofs.Ytlablioefblmkaa
/-
  The laws' helper intsAre.
-/
namespace Go.Proofs.Ytlablioefblmkaa
open Go.RowKit Go.Shelf

/-- What intsAre answers. -/
def listIs {α : Type} [DecidableEq α] (l : List α) (e v : Int) (l2 : List α) : Bool := e == v && decide (l = okL v l2)

theorem intsAre_any (A B : Option Addr) (n cap m cap2 : Nat) (l l2 : List Int) (e0 v0 : Int) (w : World) (h : Sl intC 1 w All A n cap l) (h2 : Sl intC 1 w All B m cap2 l2) :
    Calls Try.prog 15 #[.slice A n cap, .int .i64 e0, .int .i64 v0, .slice B m cap2] w fun e w' => e = .returned (.bool (listIs l e0 v0 l2)) ∧ Below w.heap.size w w' := by
  by_cases he : e0 = v0
  · subst he
    have hee : (e0 == e0) = true := by simp
    by_cases hv : e0 = 0
    · subst hv
      have HF := Lib.hid (show listIs l 0 0 l2 = decide (l = l2) by simp [listIs, okL])
      go_enter Try.func15, Try.ntmps15
      go_wp2_with (go_at_call 17; refine (SameInts_any _ _ _ _ _ _ l l2 _ h h2).mono ?_; rintro e w' ⟨rfl, q, rfl⟩)
      go_ret
      exact ⟨retB (by rw [HF.out]), below_drewN (Below.refl _ _) _⟩
    · have hv' : (e0 != 0) = true := by simpa using hv
      have HF := Lib.hid (show listIs l e0 e0 l2 = decide (l = []) by simp [listIs, okL, hv])
      clear hv
      go_enter Try.func15, Try.ntmps15
      go_wp2_with (go_at_call 17; refine (SameInts_any _ _ _ _ _ _ l [] _ h (Sl.nil _ _ _ _)).mono ?_; rintro e w' ⟨rfl, q, rfl⟩)
      go_ret
      exact ⟨retB (by rw [HF.out]), below_drewN (Below.refl _ _) _⟩
  · have hee : (e0 == v0) = false := by simpa using he
    have HF := Lib.hid (show listIs l e0 v0 l2 = false by simp [listIs, he])
    clear he
    by_cases hv : v0 = 0
    · subst hv
      go_enter Try.func15, Try.ntmps15
      go_wp2_with fail
      go_ret
      exact ⟨retB (by rw [HF.out]), Below.refl _ _⟩
    · have hv' : (v0 != 0) = true := by simpa using hv
      clear hv
      go_enter Try.func15, Try.ntmps15
      go_wp2_with fail
      go_ret
      exact ⟨retB (by rw [HF.out]), Below.refl _ _⟩

end Go.Proofs.Ytlablioefblmkaa
/-
  Bookings: the laws' helpers named, promised, bookBegun.
-/
namespace Go.Proofs.Ytlablioefblmkaa
open Go.RowKit Go.Shelf

def namedX : Bkg := ⟨7, 1, 2, 3, false, 1, 0, 1, 3, 0, []⟩
def promisedX : Bkg := ⟨9, 2, 1, 2, false, -1, 0, 0, 3, 4, []⟩
def bookX : List Bkg := [namedX, promisedX]
set_option maxRecDepth 100000 in
theorem namedL_any (w : World) : Calls Try.prog 31 #[] w fun e w' => e = .returned (.agg #[.int .i64 7, .int .i64 1, .int .i64 2, .int .i64 3, .bool false, .int .i64 1, .int .i64 0, .int .i64 1, .int .i64 3, .int .i64 0, .slice none 0 0]) ∧ Below w.heap.size w w' := by
  go_enter Try.func31, Try.ntmps31
  go_wp2_with fail
  refine bodyPost_ret (v := .agg #[.int .i64 7, .int .i64 1, .int .i64 2, .int .i64 3, .bool false, .int .i64 1, .int .i64 0, .int .i64 1, .int .i64 3, .int .i64 0, .slice none 0 0]) (by simp [results, Try.results31, go_sem]) rfl ?_
  exact ⟨rfl, bel1 _ _⟩
set_option maxRecDepth 100000 in
theorem promisedL_any (w : World) : Calls Try.prog 32 #[] w fun e w' => e = .returned (.agg #[.int .i64 9, .int .i64 2, .int .i64 1, .int .i64 2, .bool false, .int .i64 (-1), .int .i64 0, .int .i64 0, .int .i64 3, .int .i64 4, .slice none 0 0]) ∧ Below w.heap.size w w' := by
  go_enter Try.func32, Try.ntmps32
  go_wp2_with fail
  refine bodyPost_ret (v := .agg #[.int .i64 9, .int .i64 2, .int .i64 1, .int .i64 2, .bool false, .int .i64 (-1), .int .i64 0, .int .i64 0, .int .i64 3, .int .i64 4, .slice none 0 0]) (by simp [results, Try.results32, go_sem]) rfl ?_
  exact ⟨rfl, bel1 _ _⟩

def encB (x : Bkg) : List Value := (bkgA x (.slice none 0 0)).toList
theorem flat_bk (l : List Bkg) : ∀ i x, l[i]? = some x → ∀ j u, (encB x)[j]? = some u → (l.flatMap encB)[i * 11 + j]? = some u := by
  induction l with
  | nil => intro i x hx; simp at hx
  | cons y l ih =>
    intro i x hx j u hu
    rcases i with _ | i
    · simp at hx; subst hx
      have hj : j < 11 := (List.getElem?_eq_some_iff.1 hu).1
      rw [List.flatMap_cons, Nat.zero_mul, Nat.zero_add, List.getElem?_append_left (by exact hj)]
      exact hu
    · rw [List.flatMap_cons, List.getElem?_append_right (by show 11 ≤ _; omega)]
      rw [show (i + 1) * 11 + j - (encB y).length = i * 11 + j by show _ - 11 = _; omega]
      exact ih i x (by simpa using hx) j u hu
theorem Sl.ofBkgs {w : World} {S : Nat → Prop} {b : Nat} {cs : Array Value} {t : TypeId} (l : List Bkg) (h : Blk w b cs t) (hl : l.length ≤ 1000) (hS : S b) (he : cs.toList = l.flatMap encB) (hi : ∀ x ∈ l, BkIn x ∧ x.fol = []) :
    Sl bkgC 11 w S (some ⟨b, 0, none⟩) l.length l.length l :=
  Sl.ofBlk h l (by omega) hS fun i x hx => ⟨encB x, ⟨none, 0, 0, rfl, by rw [(hi x (List.mem_of_getElem? hx)).2]; exact Sl.nil _ _ _ _, (hi x (List.mem_of_getElem? hx)).1⟩, rfl, fun j u hu => by
    have := flat_bk l i x hx j u hu
    rw [← he] at this
    simpa using this⟩
theorem bookX_in : ∀ x ∈ bookX, BkIn x ∧ x.fol = [] := fun x hx => by
  simp only [bookX, List.mem_cons, List.not_mem_nil, or_false] at hx
  rcases hx with rfl | rfl
  · exact ⟨⟨.of (by decide) (by decide), .of (by decide) (by decide), .of (by decide) (by decide), .of (by decide) (by decide), .of (by decide) (by decide), .of (by decide) (by decide), .of (by decide) (by decide), .of (by decide) (by decide), .of (by decide) (by decide)⟩, rfl⟩
  · exact ⟨⟨.of (by decide) (by decide), .of (by decide) (by decide), .of (by decide) (by decide), .of (by decide) (by decide), .of (by decide) (by decide), .of (by decide) (by decide), .of (by decide) (by decide), .of (by decide) (by decide), .of (by decide) (by decide)⟩, rfl⟩
theorem namedX_of : ofE vesselX namedX = 0 := by decide
theorem promisedX_of : ofE vesselX promisedX = 0 := by decide
theorem bookX_all : allE vesselX bookX = 0 := by
  unfold allE
  rw [vessel_e, if_neg (by simp)]
  have h0 : (fun i => ofE vesselX (bookX.getD i default)) 0 = 0 := namedX_of
  have h1 : (fun i => ofE vesselX (bookX.getD i default)) 1 = 0 := promisedX_of
  exact firstE_succ (firstE_succ rfl h0) h1
theorem bookX_tak : takB bookX 1 = true ∧ takL bookX 1 = [⟨1, 3⟩] := tak_of (by decide)
theorem bookX_spn : spnE vesselX bookX 1 = 0 := by unfold spnE; rw [bookX_all, if_neg (by simp), if_neg (by decide), if_neg (by rw [bookX_tak.1]; simp)]
theorem bookX_sl : soulL bookX vesselX.legs.toNat = [2, 5, 5] := by decide
theorem bookX_sul : sulE vesselX bookX = 0 := by unfold sulE; rw [bookX_all, if_neg (by simp), bookX_sl]; decide

set_option maxRecDepth 100000 in
set_option maxHeartbeats 8000000 in
theorem bookBegun_any (w : World) : Calls Try.prog 12 #[] w fun e w' => e = .returned (.bool true) ∧ Below w.heap.size w w' := by
  have hS := fun A n cap B m cap2 C W h1 h2 h3 => Spans_any vesselX A n cap B m cap2 C 2 2 bookX 1 W h1 h2 h3 (by decide)
  have hU := fun A n cap B m cap2 C W h1 h2 h3 => Souls_any vesselX A n cap B m cap2 C 2 2 bookX W h1 h2 h3 (by decide)
  have hN : ∀ A n cap B m cap2 W, Sl catC 2 W All A n cap vesselX.cats → Sl cabC 4 W All B m cap2 vesselX.cabs → Calls Try.prog 13 #[.agg #[.int .i64 vesselX.legs, .int .i64 vesselX.souls, .slice A n cap, .slice B m cap2], .agg #[.int .i64 7, .int .i64 1, .int .i64 2, .int .i64 3, .bool false, .int .i64 1, .int .i64 0, .int .i64 1, .int .i64 3, .int .i64 0, .slice none 0 0]] W fun e w' => e = .returned (.int .i64 0) ∧ Below W.heap.size W w' := fun A n cap B m cap2 W h1 h2 => by
    have h := bookCheck_any vesselX A n cap B m cap2 namedX none 0 0 W h1 h2 (Sl.nil _ _ _ _)
    rw [vessel_e, if_neg (by simp), namedX_of] at h
    exact h
  have hP : ∀ A n cap B m cap2 W, Sl catC 2 W All A n cap vesselX.cats → Sl cabC 4 W All B m cap2 vesselX.cabs → Calls Try.prog 13 #[.agg #[.int .i64 vesselX.legs, .int .i64 vesselX.souls, .slice A n cap, .slice B m cap2], .agg #[.int .i64 9, .int .i64 2, .int .i64 1, .int .i64 2, .bool false, .int .i64 (-1), .int .i64 0, .int .i64 0, .int .i64 3, .int .i64 4, .slice none 0 0]] W fun e w' => e = .returned (.int .i64 0) ∧ Below W.heap.size W w' := fun A n cap B m cap2 W h1 h2 => by
    have h := bookCheck_any vesselX A n cap B m cap2 promisedX none 0 0 W h1 h2 (Sl.nil _ _ _ _)
    rw [vessel_e, if_neg (by simp), promisedX_of] at h
    exact h
  simp only [bookX_spn, okL_zero, bookX_tak.2] at hS
  simp only [bookX_sul, okL_zero, bookX_sl] at hU
  have HS := Lib.hid hS
  clear hS
  have HU := Lib.hid hU
  clear hU
  have HN := Lib.hid hN
  clear hN
  have HP := Lib.hid hP
  clear hP
  go_enter Try.func12, Try.ntmps12
  go_wp2_with fail
  refine (namedL_any _).mono ?_
  rintro e w1 ⟨rfl, hb⟩
  go_wp2_with fail
  refine (promisedL_any _).mono ?_
  rintro e w2 ⟨rfl, hb2⟩
  replace hb := hb.trans (hb2.mono hb.size)
  clear hb2
  have hl : Sl bkgC 11 (w2.alloc (.cells #[.int .i64 7, .int .i64 1, .int .i64 2, .int .i64 3, .bool false, .int .i64 1, .int .i64 0, .int .i64 1, .int .i64 3, .int .i64 0, .slice none 0 0, .int .i64 9, .int .i64 2, .int .i64 1, .int .i64 2, .bool false, .int .i64 (-1), .int .i64 0, .int .i64 0, .int .i64 3, .int .i64 4, .slice none 0 0] 30)) All (some ⟨w2.heap.size, 0, none⟩) 2 2 bookX := Sl.ofBkgs bookX (Blk.new w2 _ _) (by decide) trivial rfl bookX_in
  replace hb := hb.alloc hb.size (.cells #[.int .i64 7, .int .i64 1, .int .i64 2, .int .i64 3, .bool false, .int .i64 1, .int .i64 0, .int .i64 1, .int .i64 3, .int .i64 0, .slice none 0 0, .int .i64 9, .int .i64 2, .int .i64 1, .int .i64 2, .bool false, .int .i64 (-1), .int .i64 0, .int .i64 0, .int .i64 3, .int .i64 4, .slice none 0 0] 30)
  go_wp2_with fail
  refine (vessel_any _).mono ?_
  rintro e w3 ⟨A1, n1, k1, B1, m1, q1, rfl, hc, hd, hb2⟩
  replace hl := hl.bel hb2
  replace hb := hb.trans (hb2.mono hb.size)
  go_wp2_with fail
  refine (HS.out _ _ _ _ _ _ _ _ hc hd hl).mono ?_
  rintro e w4 ⟨v4, xs4, rfl, ho4, hb3⟩
  obtain ⟨A4, n4, c4, rfl, hs4⟩ := ho4.sl spanC_good
  replace hs4 := hs4.all spanC_good (by omega)
  replace hl := hl.bel hb3
  replace hb := hb.trans (hb3.mono hb.size)
  clear hb2 hb3 hc hd ho4
  go_wp2_with fail
  refine (vessel_any _).mono ?_
  rintro e w5 ⟨A2, n2, k2, B2, m2, q2, rfl, hc, hd, hb2⟩
  replace hl := hl.bel hb2
  replace hs4 := hs4.bel hb2
  replace hb := hb.trans (hb2.mono hb.size)
  go_wp2_with fail
  refine (HU.out _ _ _ _ _ _ _ _ hc hd hl).mono ?_
  rintro e w6 ⟨v6, xs6, rfl, ho6, hb3⟩
  obtain ⟨A6, n6, c6, rfl, hs6⟩ := ho6.sl intC_good
  replace hs6 := hs6.all intC_good (by omega)
  replace hs4 := hs4.bel hb3
  replace hb := hb.trans (hb3.mono hb.size)
  clear hb2 hb3 hc hd ho6 hl
  go_wp2_with fail
  refine (vessel_any _).mono ?_
  rintro e w7 ⟨A3, n3, k3, B3, m3, q3, rfl, hc, hd, hb2⟩
  go_wp2_with fail
  refine (namedL_any _).mono ?_
  rintro e w8 ⟨rfl, hb3⟩
  replace hc := hc.bel hb3
  replace hd := hd.bel hb3
  replace hs4 := (hs4.bel hb2).bel hb3
  replace hs6 := (hs6.bel hb2).bel hb3
  replace hb := (hb.trans (hb2.mono hb.size))
  replace hb := (hb.trans (hb3.mono hb.size))
  clear hb2 hb3
  go_wp2_with fail
  refine (HN.out _ _ _ _ _ _ _ hc hd).mono ?_
  rintro e w9 ⟨rfl, hb2⟩
  replace hs4 := hs4.bel hb2
  replace hs6 := hs6.bel hb2
  replace hb := (hb.trans (hb2.mono hb.size))
  clear hb2 hc hd
  go_wp2_with fail
  refine (vessel_any _).mono ?_
  rintro e w10 ⟨A5, n5, k5, B5, m5, q5, rfl, hc, hd, hb2⟩
  go_wp2_with fail
  refine (promisedL_any _).mono ?_
  rintro e w11 ⟨rfl, hb3⟩
  replace hc := hc.bel hb3
  replace hd := hd.bel hb3
  replace hs4 := (hs4.bel hb2).bel hb3
  replace hs6 := (hs6.bel hb2).bel hb3
  replace hb := (hb.trans (hb2.mono hb.size))
  replace hb := (hb.trans (hb3.mono hb.size))
  clear hb2 hb3
  go_wp2_with fail
  refine (HP.out _ _ _ _ _ _ _ hc hd).mono ?_
  rintro e w12 ⟨rfl, hb2⟩
  replace hs4 := hs4.bel hb2
  replace hs6 := hs6.bel hb2
  replace hb := (hb.trans (hb2.mono hb.size))
  clear hb2 hc hd
  have hl2 := sl_span w12 All 1 3 27 (.of (by decide) (by decide)) (.of (by decide) (by decide)) trivial
  have hsm := SameSpans_any _ _ _ _ _ _ _ _ _ (hs4.bel (bel1 w12 (.cells #[.int .i64 1, .int .i64 3] 27))) hl2
  rw [decide_eq_true rfl] at hsm
  have HSM := Lib.hid hsm
  clear hsm
  replace hs6 := hs6.bel (bel1 w12 (.cells #[.int .i64 1, .int .i64 3] 27))
  have HB := Lib.hid (hb.alloc hb.size (.cells #[.int .i64 1, .int .i64 3] 27))
  clear hl2 hb hs4
  go_wp2_with fail
  refine HSM.out.mono ?_
  rintro e w13 ⟨rfl, q, hw13⟩
  have hbq : Below (w12.alloc (.cells #[.int .i64 1, .int .i64 3] 27)).heap.size (w12.alloc (.cells #[.int .i64 1, .int .i64 3] 27)) w13 := by rw [hw13]; exact below_drewN (Below.refl _ _) _
  have hl3 := Sl.ofInts [2, 5, 5] (Blk.new w13 #[.int .i64 2, .int .i64 5, .int .i64 5] 3) (by decide) (S := All) trivial (by decide)
  have hsi := SameInts_any _ _ _ _ _ _ _ _ _ ((hs6.bel hbq).bel (bel1 w13 (.cells #[.int .i64 2, .int .i64 5, .int .i64 5] 3))) hl3
  rw [decide_eq_true rfl] at hsi
  have HSI := Lib.hid hsi
  clear hsi
  have HB2 := Lib.hid (HB.out.trans (hbq.mono HB.out.size))
  have HB3 := Lib.hid (HB2.out.alloc HB2.out.size (.cells #[.int .i64 2, .int .i64 5, .int .i64 5] 3))
  clear hl3 hs6 hw13 hbq
  go_wp2_with fail
  refine HSI.out.mono ?_
  rintro e w14 ⟨rfl, q2, hw14⟩
  have HB4 := Lib.hid (show Below w.heap.size w w14 by rw [hw14]; exact below_drewN HB3.out _)
  clear hw14
  go_wp2_with fail
  go_ret
  exact ⟨rfl, HB4.out⟩
end Go.Proofs.Ytlablioefblmkaa
/-
  Bookings: plain laws: one that is gone has no part in anything.
-/
namespace Go.Proofs.Ytlablioefblmkaa
open Go.RowKit Go.Shelf

/-- The first of some numbers that is not 0. -/
def firL (es : List Int) : Int := (es.find? (fun e => e != 0)).getD 0
theorem firL_snoc (es : List Int) (e : Int) : firL (es ++ [e]) = if firL es ≠ 0 then firL es else e := by
  unfold firL
  rw [List.find?_append]
  cases h : es.find? (fun e => e != 0) with
  | some v =>
    have hv : v ≠ 0 := by simpa using List.find?_some h
    simp [hv]
  | none =>
    by_cases he : e = 0
    · subst he; simp
    · simp [he]
theorem firL_drop (a b : List Int) : firL (a ++ 0 :: b) = firL (a ++ b) := by
  unfold firL
  rw [List.find?_append, List.find?_append, List.find?_cons_of_neg (by simp)]
theorem firstE_list (f : Bkg → Int) (l : List Bkg) : ∀ k, k ≤ l.length → firstE (fun i => f (l.getD i default)) k = firL ((l.take k).map f)
  | 0, _ => rfl
  | k + 1, h => by
    have hx : l[k]? = some (l[k]'(by omega)) := List.getElem?_eq_getElem (by omega)
    have ih := firstE_list f l k (by omega)
    rw [take_snoc hx, List.map_append, List.map_cons, List.map_nil, firL_snoc, ← ih]
    show (if firstE _ k ≠ 0 then firstE _ k else f (l.getD k default)) = _
    rw [List.getD_eq_getElem?_getD, hx]; rfl
theorem allE_list (x : Shp) (l : List Bkg) : allE x l = if shipE x ≠ 0 then shipE x else firL (l.map (ofE x)) := by
  unfold allE
  rw [firstE_list (ofE x) l l.length (Nat.le_refl _), List.take_length]
/-- Without booking k. -/
def lessL (l : List Bkg) (k : Nat) : List Bkg := l.take k ++ l.drop (k + 1)
theorem less_split {l : List Bkg} {k : Nat} {b : Bkg} (h : l[k]? = some b) : l = l.take k ++ b :: l.drop (k + 1) := by
  obtain ⟨hk, rfl⟩ := List.getElem?_eq_some_iff.1 h
  rw [List.getElem_cons_drop, List.take_append_drop]
theorem allE_less {x : Shp} {l : List Bkg} {k : Nat} {b : Bkg} (h : l[k]? = some b) (h0 : ofE x b = 0) : allE x (lessL l k) = allE x l := by
  rw [allE_list, allE_list]
  have : firL (l.map (ofE x)) = firL ((lessL l k).map (ofE x)) := by
    conv => lhs; rw [less_split h]
    unfold lessL
    rw [List.map_append, List.map_cons, h0, firL_drop, List.map_append]
  rw [this]
theorem spL_less {l : List Bkg} {k : Nat} {b : Bkg} (h : l[k]? = some b) (h3 : b.state = 3) (c : Int) : spL (lessL l k) c = spL l c := by
  have : spL l c = spL (l.take k ++ b :: l.drop (k + 1)) c := by rw [← less_split h]
  rw [this]
  unfold spL lessL
  rw [List.filter_append, List.filter_append, List.filter_cons_of_neg (by unfold hasB liveB; rw [h3]; simp)]
theorem soulK_less {l : List Bkg} {k : Nat} {b : Bkg} (h : l[k]? = some b) (h3 : b.state = 3) (i : Nat) : soulK (lessL l k) i = soulK l i := by
  have : soulK l i = soulK (l.take k ++ b :: l.drop (k + 1)) i := by rw [← less_split h]
  rw [this]
  unfold soulK lessL
  rw [List.map_append, List.map_append, List.sum_append, List.sum_append, List.map_cons, List.sum_cons, if_neg (by unfold liveB; rw [h3]; simp)]
  omega
theorem soulL_less {l : List Bkg} {k : Nat} {b : Bkg} (h : l[k]? = some b) (h3 : b.state = 3) (N : Nat) : soulL (lessL l k) N = soulL l N := by
  unfold soulL
  exact List.map_congr_left fun i _ => soulK_less h h3 i
theorem takB_less {l : List Bkg} {k : Nat} {b : Bkg} (h : l[k]? = some b) (h3 : b.state = 3) (c : Int) : takB (lessL l k) c = takB l c ∧ takL (lessL l k) c = takL l c := by
  unfold takB takL
  rw [spL_less h h3]
  exact ⟨rfl, rfl⟩
theorem spnE_less {x : Shp} {l : List Bkg} {k : Nat} {b : Bkg} (h : l[k]? = some b) (h3 : b.state = 3) (h0 : ofE x b = 0) (c : Int) : spnE x (lessL l k) c = spnE x l c := by
  unfold spnE
  rw [allE_less h h0, (takB_less h h3 c).1]
theorem sulE_less {x : Shp} {l : List Bkg} {k : Nat} {b : Bkg} (h : l[k]? = some b) (h3 : b.state = 3) (h0 : ofE x b = 0) : sulE x (lessL l k) = sulE x l := by
  unfold sulE
  rw [allE_less h h0, soulL_less h h3]
end Go.Proofs.Ytlablioefblmkaa
/-
  From a walk over a law to the given statement: how each argument that can be read as data comes to be data of mine.
-/
namespace Go.Proofs.Ytlablioefblmkaa
open Go.ChangeShapes Go.WideShapes Go.ChangeAt Go.RowKit

theorem own : ownKnob Try.prog.godebug = none := by kernel_rfl
theorem laidOut : laidOutB Try.prog = true := by kernel_rfl

theorem InI.of_wf {n : Int} (h : (Lit.int .i64 n).wf = true) : InI n := bounds_i64 h

/-- What reads as data of type t is data of the codec. -/
def Opens {α : Type} (c : Cod α) (t : TypeId) : Prop :=
  ∀ {H : Type} {enc : TypeId × Value → H} {W : World} {base : Nat} {spare : Nat → Bool} {held : Bool} {fuel : Nat} {cs : List Value} {x : DataW H × List MemPlace}, DataW.trod enc Try.prog W base (fun b => spare b) held fuel t cs = some x → ∃ a, c W All a cs

theorem opens_int {t : TypeId} (ht : Try.prog.underlying t = some (.int .i64)) : Opens intC t := fun h => by
  obtain ⟨n, rfl, _, hw⟩ := DataW.trod_int ht h
  exact ⟨n, rfl, .of_wf hw⟩
theorem opens_bool {t : TypeId} (ht : Try.prog.underlying t = some .bool) : Opens boolC t := fun h => by
  obtain ⟨n, rfl, _⟩ := DataW.trod_bool ht h
  exact ⟨n, rfl⟩

theorem opens_sl {α : Type} {c : Cod α} {size : Nat} {t e : TypeId} (ht : Try.prog.underlying t = some (.slice e)) (hs : Try.prog.cellsOf e = size) (hp : 0 < size) (he : Opens c e) : Opens (slC c size) t := by
  intro H enc W base spare held fuel cs x h
  rcases Deep.open_slice ht h with ⟨rfl, _⟩ | ⟨a, len, cap, m, n, D, Pl, rfl, _, hl, hm, hmm, _, hi⟩
  · exact ⟨[], none, 0, 0, rfl, Sl.nil _ _ _ _⟩
  · have hlm : len ≤ m := by rw [hmm]; split <;> omega
    have key : ∀ i : Fin len, ∃ a' : α, ∃ b off cs', a = ⟨b, off, none⟩ ∧ c W All a' cs' ∧ cs'.length = size ∧ ∀ j u, cs'[j]? = some u → W.cell? ⟨b, off + i.1 * size + j, none⟩ = some u := fun i => by
      obtain ⟨cs', hc, ht'⟩ := hi i.1 (by omega)
      obtain ⟨a', ha'⟩ := he ht'
      rw [hs] at hc
      obtain ⟨_, hcl, hat⟩ := World.cells?_some hc
      have hspot : a.spot = none := by
        have h0 := hat 0 hp
        rw [List.getElem?_eq_getElem (by omega)] at h0
        have h1 := World.cell?_spot h0
        simp only [Addr.add] at h1
        by_cases hi0 : i.1 * size = 0
        · simpa [hi0] using h1
        · have h2 := World.cell?_spot h0
          have hi1 : 0 < size := hp
          -- an address that was moved on bears no spot of its own: ask the first element's
          obtain ⟨cs0, hc0, _⟩ := hi 0 (by have := i.2; omega)
          rw [hs] at hc0
          obtain ⟨_, hcl0, hat0⟩ := World.cells?_some hc0
          have h00 := hat0 0 hp
          rw [List.getElem?_eq_getElem (by omega)] at h00
          have h01 := World.cell?_spot h00
          simpa [Addr.add] using h01
      obtain ⟨b, off, sp⟩ := a
      simp only at hspot
      subst hspot
      refine ⟨a', b, off, cs', rfl, ha', hcl, fun j u hu => ?_⟩
      have hj : j < size := by rw [← hcl]; exact (List.getElem?_eq_some_iff.1 hu).1
      have h3 := (hat j hj).trans hu
      have hadd : ((⟨b, off, none⟩ : Addr).add (i.1 * size)).add j = ⟨b, off + i.1 * size + j, none⟩ := by
        rw [Deep.add_add]
        generalize i.1 * size = q
        unfold Addr.add
        split
        · next h0 => simp only [Addr.mk.injEq, true_and, and_true]; omega
        · simp only [Addr.mk.injEq, true_and, and_true]; omega
      rw [hadd] at h3
      exact h3
    have hch : ∃ f : Fin len → α, ∀ i, ∃ b off cs', a = ⟨b, off, none⟩ ∧ c W All (f i) cs' ∧ cs'.length = size ∧ ∀ j u, cs'[j]? = some u → W.cell? ⟨b, off + i.1 * size + j, none⟩ = some u :=
      ⟨fun i => Classical.choose (key i), fun i => Classical.choose_spec (key i)⟩
    obtain ⟨f, hf⟩ := hch
    refine ⟨List.ofFn f, some a, len, cap, rfl, by simp, hl, hm, fun i y hy => ?_⟩
    have hilt : i < len := by have := (List.getElem?_eq_some_iff.1 hy).1; simpa using this
    rw [List.getElem?_eq_getElem (by simpa using hilt)] at hy
    simp only [List.getElem_ofFn, Option.some.injEq] at hy
    obtain ⟨b, off, cs', ha, hc, hcl, hcell⟩ := hf ⟨i, hilt⟩
    rw [← hy, ha]
    exact ⟨b, off, cs', rfl, trivial, hc, hcl, hcell⟩

section
variable {H : Type} {enc : TypeId × Value → H} {W : World} {base : Nat} {t : TypeId} {v : Value} {d : DataW H} {p : List MemPlace}

set_option maxRecDepth 100000 in
theorem arg_int (ht : Try.prog.underlying t = some (.int .i64)) (hv : Value.okWide Try.prog W .any base t v) (h : DataW.Trod enc Try.prog W 0 (fun _ => true) true t v d p) : ∃ n, v = .int .i64 n ∧ InI n := by
  obtain ⟨n, rfl⟩ := okWide_int ht hv
  obtain ⟨fuel, hf⟩ := h
  obtain ⟨m, hm, _, hw⟩ := DataW.trod_int ht hf
  simp [Value.cells] at hm
  subst hm
  exact ⟨n, rfl, .of_wf hw⟩
set_option maxRecDepth 100000 in
theorem arg_bool (ht : Try.prog.underlying t = some .bool) (hv : Value.okWide Try.prog W .any base t v) : ∃ b, v = .bool b := okWide_bool ht hv
set_option maxRecDepth 100000 in
theorem arg_string (ht : Try.prog.underlying t = some .string) (hv : Value.okWide Try.prog W .any base t v) (h : DataW.Trod enc Try.prog W 0 (fun _ => true) true t v d p) : ∃ s : ByteArray, v = .string s ∧ s.size ≤ maxLen := by
  obtain ⟨n, rfl⟩ := okWide_string ht hv
  obtain ⟨fuel, hf⟩ := h
  obtain ⟨m, hm, _, hw⟩ := DataW.trod_string ht hf
  simp [Value.cells] at hm
  subst hm
  exact ⟨n, rfl, hw⟩
set_option maxRecDepth 100000 in
theorem arg_sl {α : Type} {c : Cod α} {size : Nat} {e : TypeId} (ht : Try.prog.underlying t = some (.slice e)) (hs : Try.prog.cellsOf e = size) (hp : 0 < size) (he : Opens c e) (hv : Value.okWide Try.prog W .any base t v)
    (h : DataW.Trod enc Try.prog W 0 (fun _ => true) true t v d p) : ∃ A n cap l, v = .slice A n cap ∧ Sl c size W All A n cap l := by
  obtain ⟨A, n, cap, rfl⟩ := okWide_slice ht hv
  obtain ⟨fuel, hf⟩ := h
  obtain ⟨l, A', n', cap', hcs, hsl⟩ := opens_sl ht hs hp he hf
  simp [Value.cells] at hcs
  obtain ⟨rfl, rfl, rfl⟩ := hcs
  exact ⟨_, _, _, l, rfl, hsl⟩
set_option maxRecDepth 100000 in
theorem arg_agg {α : Type} {c : Cod α} {fs : Array Field} (ht : Try.prog.underlying t = some (.struct fs)) (he : Opens c t) (hv : Value.okWide Try.prog W .any base t v)
    (h : DataW.Trod enc Try.prog W 0 (fun _ => true) true t v d p) : ∃ cs x, v = .agg cs ∧ c W All x cs.toList := by
  obtain ⟨cs, rfl, _⟩ := okWide_struct ht hv
  obtain ⟨fuel, hf⟩ := h
  obtain ⟨x, hx⟩ := he hf
  exact ⟨cs, x, rfl, by simpa [Value.cells] using hx⟩
set_option maxRecDepth 100000 in
theorem arg_lt (h : DataW.Trod enc Try.prog W 0 (fun _ => true) true t v d p) : ∀ x ∈ p, x.block < W.heap.size := by
  obtain ⟨m, hm⟩ := h
  exact DataW.trod_lt m _ _ _ hm
end
end Go.Proofs.Ytlablioefblmkaa
/-
  What reads as a span is a span.
-/
namespace Go.Proofs.Ytlablioefblmkaa
open Go.ChangeShapes Go.WideShapes Go.ChangeAt Go.RowKit

set_option maxRecDepth 100000 in
theorem opens_spanC : Opens spanC 27 := by
  intro H enc W base spare held fuel cs x h
  obtain ⟨xs, n, _, _, hl, hxl, hf⟩ := DataW.trod_struct Try.underlying27 h
  rw [show Try.prog.cellsOf 27 = 2 by kernel_rfl] at hl
  match xs, hxl with
  | [y0, y1], _ =>
    match cs, hl with
    | [c0, c1], _ =>
      have f0 := hf 0 _ rfl
      have f1 := hf 1 _ rfl
      simp [show Try.prog.cellsOf 3 = 1 by kernel_rfl] at f0 f1
      obtain ⟨a, ea, _, wa⟩ := DataW.trod_int Try.underlying3 f0
      obtain ⟨b, eb, _, wb⟩ := DataW.trod_int Try.underlying3 f1
      simp at ea eb
      subst ea eb
      exact ⟨⟨a, b⟩, rfl, .of_wf wa, .of_wf wb⟩
end Go.Proofs.Ytlablioefblmkaa
/-
  What reads as a ship is a ship.
-/
namespace Go.Proofs.Ytlablioefblmkaa
open Go.ChangeShapes Go.WideShapes Go.ChangeAt Go.RowKit

theorem opens_str {t : TypeId} (ht : Try.prog.underlying t = some .string) : Opens strC t := fun h => by
  obtain ⟨n, rfl, _, hw⟩ := DataW.trod_string ht h
  refine ⟨n.data.toList, ?_, by simpa using hw⟩
  simp

set_option maxRecDepth 100000 in
theorem opens_catC : Opens catC 55 := by
  intro H enc W base spare held fuel cs x h
  obtain ⟨xs, n, _, _, hl, hxl, hf⟩ := DataW.trod_struct Try.underlying55 h
  rw [show Try.prog.cellsOf 55 = 2 by kernel_rfl] at hl
  match xs, hxl with
  | [y0, y1], _ =>
    match cs, hl with
    | [c0, c1], _ =>
      have f0 := hf 0 _ rfl
      have f1 := hf 1 _ rfl
      simp [show Try.prog.cellsOf 9 = 1 by kernel_rfl, show Try.prog.cellsOf 36 = 1 by kernel_rfl] at f0 f1
      obtain ⟨s, e0, hs⟩ := opens_str Try.underlying9 f0
      obtain ⟨L, A, m, cap, e1, h1⟩ := opens_sl (size := 1) Try.underlying36 (by kernel_rfl) (by omega) (opens_int Try.underlying3) f1
      simp at e0 e1
      subst e0 e1
      exact ⟨⟨s, L⟩, _, _, _, rfl, h1, hs⟩
set_option maxRecDepth 100000 in
theorem opens_cabC : Opens cabC 61 := by
  intro H enc W base spare held fuel cs x h
  obtain ⟨xs, n, _, _, hl, hxl, hf⟩ := DataW.trod_struct Try.underlying61 h
  rw [show Try.prog.cellsOf 61 = 4 by kernel_rfl] at hl
  match xs, hxl with
  | [y0, y1, y2, y3], _ =>
    match cs, hl with
    | [c0, c1, c2, c3], _ =>
      have f0 := hf 0 _ rfl
      have f1 := hf 1 _ rfl
      have f2 := hf 2 _ rfl
      have f3 := hf 3 _ rfl
      simp [show Try.prog.cellsOf 9 = 1 by kernel_rfl, show Try.prog.cellsOf 3 = 1 by kernel_rfl, show Try.prog.cellsOf 4 = 1 by kernel_rfl] at f0 f1 f2 f3
      obtain ⟨s, e0, hs⟩ := opens_str Try.underlying9 f0
      obtain ⟨a, ea, _, wa⟩ := DataW.trod_int Try.underlying3 f1
      obtain ⟨b, eb, _, wb⟩ := DataW.trod_int Try.underlying3 f2
      obtain ⟨v, ev⟩ := opens_bool Try.underlying4 f3
      replace ev : [c3] = [.bool v] := ev
      simp at e0 ea eb ev
      subst e0 ea eb ev
      exact ⟨⟨s, a, b, v⟩, rfl, hs, .of_wf wa, .of_wf wb⟩
set_option maxRecDepth 100000 in
theorem opens_shpC : Opens shpC 25 := by
  intro H enc W base spare held fuel cs x h
  obtain ⟨xs, n, _, _, hl, hxl, hf⟩ := DataW.trod_struct Try.underlying25 h
  rw [show Try.prog.cellsOf 25 = 4 by kernel_rfl] at hl
  match xs, hxl with
  | [y0, y1, y2, y3], _ =>
    match cs, hl with
    | [c0, c1, c2, c3], _ =>
      have f0 := hf 0 _ rfl
      have f1 := hf 1 _ rfl
      have f2 := hf 2 _ rfl
      have f3 := hf 3 _ rfl
      simp [show Try.prog.cellsOf 3 = 1 by kernel_rfl, show Try.prog.cellsOf 22 = 1 by kernel_rfl, show Try.prog.cellsOf 23 = 1 by kernel_rfl] at f0 f1 f2 f3
      obtain ⟨a, ea, _, wa⟩ := DataW.trod_int Try.underlying3 f0
      obtain ⟨b, eb, _, wb⟩ := DataW.trod_int Try.underlying3 f1
      obtain ⟨L, A, m, cap, e2, h2⟩ := opens_sl (size := 2) Try.underlying22 (by kernel_rfl) (by omega) opens_catC f2
      obtain ⟨L2, A2, m2, cap2, e3, h3⟩ := opens_sl (size := 4) Try.underlying23 (by kernel_rfl) (by omega) opens_cabC f3
      simp at ea eb e2 e3
      subst ea eb e2 e3
      exact ⟨⟨a, b, L, L2⟩, _, _, _, _, _, _, rfl, h2, h3, .of_wf wa, .of_wf wb⟩
end Go.Proofs.Ytlablioefblmkaa
/-
  What reads as a folio is a folio.
-/
namespace Go.Proofs.Ytlablioefblmkaa
open Go.ChangeShapes Go.WideShapes Go.ChangeAt Go.RowKit

set_option maxRecDepth 100000 in
theorem opens_entryC : Opens entryC 76 := by
  intro H enc W base spare held fuel cs x h
  obtain ⟨xs, n, _, _, hl, hxl, hf⟩ := DataW.trod_struct Try.underlying76 h
  rw [show Try.prog.cellsOf 76 = 3 by kernel_rfl] at hl
  match xs, hxl with
  | [y0, y1, y2], _ =>
    match cs, hl with
    | [c0, c1, c2], _ =>
      have f0 := hf 0 _ rfl
      have f1 := hf 1 _ rfl
      have f2 := hf 2 _ rfl
      simp [show Try.prog.cellsOf 3 = 1 by kernel_rfl] at f0 f1 f2
      obtain ⟨a, ea, _, wa⟩ := DataW.trod_int Try.underlying3 f0
      obtain ⟨b, eb, _, wb⟩ := DataW.trod_int Try.underlying3 f1
      obtain ⟨c, ec, _, wc⟩ := DataW.trod_int Try.underlying3 f2
      simp at ea eb ec
      subst ea eb ec
      exact ⟨⟨a, b, c⟩, rfl, .of_wf wa, .of_wf wb, .of_wf wc⟩
end Go.Proofs.Ytlablioefblmkaa
/-
  What reads as a booking is a booking; how long a slice that came in may be.
-/
namespace Go.Proofs.Ytlablioefblmkaa
open Go.ChangeShapes Go.WideShapes Go.ChangeAt Go.RowKit

set_option maxRecDepth 100000 in
theorem opens_bkgC : Opens bkgC 30 := by
  intro H enc W base spare held fuel cs x h
  obtain ⟨xs, n, _, _, hl, hxl, hf⟩ := DataW.trod_struct Try.underlying30 h
  rw [show Try.prog.cellsOf 30 = 11 by kernel_rfl] at hl
  match xs, hxl with
  | [y0, y1, y2, y3, y4, y5, y6, y7, y8, y9], _ =>
    match cs, hl with
    | [c0, c1, c2, c3, c4, c5, c6, c7, c8, c9, c10], _ =>
      have f0 := hf 0 _ rfl
      have f1 := hf 1 _ rfl
      have f2 := hf 2 _ rfl
      have f3 := hf 3 _ rfl
      have f4 := hf 4 _ rfl
      have f5 := hf 5 _ rfl
      have f6 := hf 6 _ rfl
      have f7 := hf 7 _ rfl
      have f8 := hf 8 _ rfl
      have f9 := hf 9 _ rfl
      simp [show Try.prog.cellsOf 3 = 1 by kernel_rfl, show Try.prog.cellsOf 4 = 1 by kernel_rfl, show Try.prog.cellsOf 27 = 2 by kernel_rfl, show Try.prog.cellsOf 28 = 1 by kernel_rfl] at f0 f1 f2 f3 f4 f5 f6 f7 f8 f9
      obtain ⟨a0, e0, _, w0⟩ := DataW.trod_int Try.underlying3 f0
      obtain ⟨a1, e1, _, w1⟩ := DataW.trod_int Try.underlying3 f1
      obtain ⟨a2, e2, _, w2⟩ := DataW.trod_int Try.underlying3 f2
      obtain ⟨a3, e3, _, w3⟩ := DataW.trod_int Try.underlying3 f3
      obtain ⟨a4, e4, _⟩ := DataW.trod_bool Try.underlying4 f4
      obtain ⟨a5, e5, _, w5⟩ := DataW.trod_int Try.underlying3 f5
      obtain ⟨a6, e6, _, w6⟩ := DataW.trod_int Try.underlying3 f6
      obtain ⟨s, e7, w7, w8⟩ := opens_spanC f7
      obtain ⟨a9, e9, _, w9⟩ := DataW.trod_int Try.underlying3 f8
      obtain ⟨L, A, m, cap, e10, h10⟩ := opens_sl (size := 3) Try.underlying28 (by kernel_rfl) (by omega) opens_entryC f9
      simp at e0 e1 e2 e3 e4 e5 e6 e7 e9 e10
      obtain ⟨e7, e8⟩ := e7
      subst e0 e1 e2 e3 e4 e5 e6 e7 e8 e9 e10
      exact ⟨⟨a0, a1, a2, a3, a4, a5, a6, s.frm, s.upto, a9, L⟩, _, _, _, rfl, h10, ⟨.of_wf w0, .of_wf w1, .of_wf w2, .of_wf w3, .of_wf w5, .of_wf w6, w7, w8, .of_wf w9⟩⟩

theorem arg_sl_len {H : Type} {enc : TypeId × Value → H} {W : World} {t e : TypeId} {d : DataW H} {p : List MemPlace} {A : Option Addr} {n cap : Nat} (ht : Try.prog.underlying t = some (.slice e)) (h : DataW.Trod enc Try.prog W 0 (fun _ => true) true t (.slice A n cap) d p)
    (hz : ∀ z ∈ DataW.weights Try.prog t d, z ≤ reachBytes) : n * Try.prog.bytesOf e ≤ reachBytes := by
  obtain ⟨fuel, hf⟩ := h
  rcases Deep.open_slice ht hf with ⟨hc, _⟩ | ⟨a, len, cap', m, k, D, Pl, hc, _, hl, hm, hmm, hx, _⟩
  · simp [Value.cells] at hc
    rw [hc.2.1]; simp
  · simp [Value.cells] at hc
    obtain ⟨rfl, rfl, rfl⟩ := hc
    have hd := congrArg Prod.fst hx
    simp only at hd
    have := hz ((n + (m - n)) * Try.prog.bytesOf e) (by rw [hd]; simp [DataW.weights, ht])
    exact Nat.le_trans (Nat.mul_le_mul_right _ (by omega)) this
end Go.Proofs.Ytlablioefblmkaa
/-
  Rows by their cells alone: copies that share what their elements lead to.
-/
namespace Go.Proofs.Ytlablioefblmkaa
open Go.RowKit Go.Shelf

/-- An element by its cells alone. -/
def rawC (n : Nat) : Cod (List Value) := fun _ _ x cs => cs = x ∧ x.length = n ∧ ∀ u ∈ x, u.oneCell' = true
theorem rawC_flat (n : Nat) : Flat (rawC n) := fun _ _ _ _ _ _ h => h
theorem rawC_good (n : Nat) : Good (rawC n) := .of_flat (rawC_flat n) fun h u hu => by obtain ⟨rfl, _, h⟩ := h; exact h u hu
instance rawK11 : CodK (rawC 11) 11 := ⟨rawC_good 11, by omega⟩
instance rawK2 : CodK (rawC 2) 2 := ⟨rawC_good 2, by omega⟩
instance rawK1 : CodK (rawC 1) 1 := ⟨rawC_good 1, by omega⟩

/-- What the cells of a row lead to. -/
structure Pts {α : Type} (c : Cod α) (w : World) (L : List (List Value)) (l : List α) : Prop where
  len : L.length = l.length
  el : ∀ (i : Nat) (cs : List Value) (x : α), L[i]? = some cs → l[i]? = some x → c w All x cs

section
variable {α : Type} {c : Cod α} {size : Nat} {w w' : World} {A : Option Addr} {n cap : Nat} {l l2 : List α} {L L2 : List (List Value)}

theorem Sl.raw (h : Sl c size w All A n cap l) (hg : Good c) : ∃ L, Sl (rawC size) size w All A n cap L ∧ Pts c w L l := by
  have key : ∀ i : Fin l.length, ∃ cs : List Value, ∃ b off, A = some ⟨b, off, none⟩ ∧ c w All l[i] cs ∧ cs.length = size ∧ ∀ j u, cs[j]? = some u → w.cell? ⟨b, off + i.1 * size + j, none⟩ = some u := fun i => by
    obtain ⟨b, off, cs, hA, _, hc, hl, hcell⟩ := h.rd i.1 l[i] (List.getElem?_eq_getElem i.2)
    exact ⟨cs, b, off, hA, hc, hl, hcell⟩
  refine ⟨List.ofFn fun i => Classical.choose (key i), ⟨by simp [h.len], h.le, h.max, fun i y hy => ?_⟩, ⟨by simp, fun i cs x hcs hx => ?_⟩⟩
  · have hi : i < l.length := by have := (List.getElem?_eq_some_iff.1 hy).1; simpa using this
    rw [List.getElem?_eq_getElem (by simpa using hi)] at hy
    simp only [List.getElem_ofFn, Option.some.injEq] at hy
    obtain ⟨b, off, hA, hc, hl, hcell⟩ := Classical.choose_spec (key ⟨i, hi⟩)
    rw [hy] at hc hl hcell
    exact ⟨b, off, y, hA, trivial, ⟨rfl, hl, fun u hu => hg.one hc u hu⟩, hl, hcell⟩
  · have hi : i < l.length := (List.getElem?_eq_some_iff.1 hx).1
    rw [List.getElem?_eq_getElem (by simpa using hi)] at hcs
    simp only [List.getElem_ofFn, Option.some.injEq] at hcs
    obtain ⟨b, off, hA, hc, hl, hcell⟩ := Classical.choose_spec (key ⟨i, hi⟩)
    rw [hcs] at hc
    have hxi : l[i] = x := (List.getElem?_eq_some_iff.1 hx).2
    subst hxi
    exact hc
theorem Sl.unraw (h : Sl (rawC size) size w All A n cap L) (hp : Pts c w L l) : Sl c size w All A n cap l := by
  refine ⟨by rw [← hp.len]; exact h.len, h.le, h.max, fun i x hx => ?_⟩
  have hi : i < L.length := by rw [hp.len]; exact (List.getElem?_eq_some_iff.1 hx).1
  obtain ⟨b, off, cs, hA, _, hc, hcl, hcell⟩ := h.rd i L[i] (List.getElem?_eq_getElem hi)
  obtain ⟨rfl, _, _⟩ := hc
  exact ⟨b, off, _, hA, trivial, hp.el i _ x (List.getElem?_eq_getElem hi) hx, hcl, hcell⟩
theorem Pts.bel [k : CodK c size] (h : Pts c w L l) (hb : Below w.heap.size w w') : Pts c w' L l :=
  ⟨h.len, fun i cs x h1 h2 => k.good.keep (h.el i cs x h1 h2) fun b _ hlt => ⟨hb.block b hlt, trivial⟩⟩
theorem Pts.nil (c : Cod α) (w : World) : Pts c w [] [] := ⟨rfl, fun i cs x h => by simp at h⟩
theorem Pts.one {cs : List Value} {x : α} (h : c w All x cs) : Pts c w [cs] [x] := ⟨rfl, fun i a y h1 h2 => by
  rcases i with _ | i
  · simp at h1 h2; subst h1 h2; exact h
  · simp at h1⟩
theorem Pts.take (h : Pts c w L l) (k : Nat) : Pts c w (L.take k) (l.take k) :=
  ⟨by rw [List.length_take, List.length_take, h.len], fun i cs x h1 h2 => by
    rw [List.getElem?_take] at h1 h2
    by_cases hi : i < k
    · rw [if_pos hi] at h1 h2; exact h.el i cs x h1 h2
    · rw [if_neg hi] at h1; cases h1⟩
theorem Pts.drop (h : Pts c w L l) (k : Nat) : Pts c w (L.drop k) (l.drop k) :=
  ⟨by rw [List.length_drop, List.length_drop, h.len], fun i cs x h1 h2 => by
    rw [List.getElem?_drop] at h1 h2
    exact h.el _ cs x h1 h2⟩
theorem Pts.append (h : Pts c w L l) (h2 : Pts c w L2 l2) : Pts c w (L ++ L2) (l ++ l2) :=
  ⟨by rw [List.length_append, List.length_append, h.len, h2.len], fun i cs x h3 h4 => by
    by_cases hi : i < L.length
    · rw [List.getElem?_append_left hi] at h3
      rw [List.getElem?_append_left (by rw [← h.len]; exact hi)] at h4
      exact h.el i cs x h3 h4
    · rw [List.getElem?_append_right (by omega)] at h3
      rw [List.getElem?_append_right (by rw [← h.len]; omega), ← h.len] at h4
      exact h2.el _ cs x h3 h4⟩
theorem Pts.set (h : Pts c w L l) (k : Nat) {cs : List Value} {x : α} (hx : c w All x cs) : Pts c w (L.set k cs) (l.set k x) :=
  ⟨by rw [List.length_set, List.length_set, h.len], fun i a y h3 h4 => by
    rw [List.getElem?_set] at h3 h4
    by_cases hi : k = i
    · rw [if_pos hi] at h3 h4
      subst hi
      by_cases hl : k < L.length
      · rw [if_pos hl] at h3
        rw [if_pos (by rw [← h.len]; exact hl)] at h4
        injection h3 with h3
        injection h4 with h4
        subst h3 h4
        exact hx
      · rw [if_neg hl] at h3; cases h3
    · rw [if_neg hi] at h3 h4
      exact h.el i a y h3 h4⟩

/-- 's[:k]'. -/
theorem Sl.fst {S : Nat → Prop} (h : Sl c size w S A n cap l) {k : Nat} (hk : k ≤ n) : Sl c size w S A k cap (l.take k) :=
  ⟨by rw [List.length_take, h.len]; omega, Nat.le_trans hk h.le, h.max, fun i x hx => by
    rw [List.getElem?_take] at hx
    by_cases hi : i < k
    · rw [if_pos hi] at hx; exact h.rd i x hx
    · rw [if_neg hi] at hx; cases hx⟩
/-- 's[k:]', where room is behind. -/
theorem Sl.suf {S : Nat → Prop} {b off : Nat} (h : Sl c size w S (some ⟨b, off, none⟩) n cap l) {k : Nat} (hk : k ≤ n) : Sl c size w S (some ⟨b, off + k * size, none⟩) (n - k) (cap - k) (l.drop k) :=
  ⟨by rw [List.length_drop, h.len], by have := h.le; omega, Nat.le_trans (Nat.sub_le _ _) h.max, fun i x hx => by
    rw [List.getElem?_drop] at hx
    obtain ⟨b', off', cs, hA, hS, hc, hl, hcell⟩ := h.rd _ x hx
    injection hA with hA
    injection hA with h1 h2
    subst h1 h2
    refine ⟨b, off + k * size, cs, rfl, hS, hc, hl, fun j u hu => ?_⟩
    have := hcell j u hu
    rw [show off + k * size + i * size + j = off + (k + i) * size + j by rw [Nat.add_mul]; omega]
    exact this⟩
/-- 's[k:]', where none is. -/
theorem Sl.suf0 {S : Nat → Prop} (h : Sl c size w S A n cap l) (hk : cap = n) : Sl c size w S A (n - n) (cap - n) (l.drop n) :=
  ⟨by rw [List.length_drop, h.len], by omega, Nat.le_trans (Nat.sub_le _ _) h.max, fun i x hx => by
    rw [List.getElem?_drop] at hx
    have := (List.getElem?_eq_some_iff.1 hx).1
    rw [h.len] at this
    omega⟩
end
end Go.Proofs.Ytlablioefblmkaa
