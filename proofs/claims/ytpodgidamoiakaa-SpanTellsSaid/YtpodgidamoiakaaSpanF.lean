/-
  Spans: span.Take.
-/
import Derived.Test.YtpodgidamoiakaaSpanE
namespace Go.Proofs.Ytpodgidamoiakaa
open Go.RowKit Go.Shelf

/-- A list without its first element that is s. -/
def delSp (l : List Span) (s : Span) : List Span := l.take (l.findIdx (spanQ s)) ++ l.drop (l.findIdx (spanQ s) + 1)
def takeE (l : List Span) (legs : Int) (s : Span) : Int := if readySpE l legs s ≠ 0 then readySpE l legs s else if l.any (spanQ s) then 0 else 5

set_option maxRecDepth 100000 in
set_option maxHeartbeats 4000000 in
theorem spanTake_any (A : Option Addr) (n cap : Nat) (l : List Span) (legs a b : Int) (w : World) (h : Sl spanC 2 w All A n cap l) :
    Calls Try.prog 24 #[.slice A n cap, .int .i64 legs, .agg #[.int .i64 a, .int .i64 b]] w fun e w' => ∃ v xs, e = .returned (.tuple #[v, .int .i64 (takeE l legs ⟨a, b⟩)]) ∧
      Own spanC 2 45 w' w.heap.size v (okL (takeE l legs ⟨a, b⟩) (delSp l ⟨a, b⟩)) xs ∧ Below w.heap.size w w' := by
  obtain ⟨r, hr⟩ : ∃ r, r = readySpE l legs ⟨a, b⟩ := ⟨_, rfl⟩
  obtain ⟨u, hu⟩ : ∃ u, u = takeE l legs ⟨a, b⟩ := ⟨_, rfl⟩
  have hru : u = if r ≠ 0 then r else if l.any (spanQ ⟨a, b⟩) then 0 else 5 := by rw [hu, hr]; rfl
  have hrd := fun W h => readySp_any A n cap l legs a b W h
  have hix := fun W h => Index_span A n cap l ⟨a, b⟩ W h
  rw [← hr] at hrd
  rw [← hu]
  obtain ⟨D, hD⟩ : ∃ D, D = delSp l ⟨a, b⟩ := ⟨_, rfl⟩
  rw [← hD]
  obtain ⟨ix, hixe⟩ : ∃ ix, ix = idxF (spanQ ⟨a, b⟩) l := ⟨_, rfl⟩
  rw [← hixe] at hix
  have HU := Lib.hid hru
  clear hru
  have HRD := Lib.hid hrd
  clear hrd
  have HIX := Lib.hid hix
  clear hix
  have HR := Lib.hid hr
  clear hr
  have HD := Lib.hid hD
  clear hD
  have HI := Lib.hid hixe
  clear hixe
  clear hu
  go_enter Try.func24, Try.ntmps24
  go_upto_region 0 with (fail)
  go_cut [5] (fun p wx => ∃ g, p = .pointer (some ⟨g, 0, none⟩) ∧ SpanAt wx g a b ∧ Below w.heap.size w wx)
  case first => as_aux_lemma =>
    go_wp2_with fail
    go_meet
    exact ⟨_, rfl, blk1 _ _, bel1 _ _⟩
  obtain ⟨g, rfl, hS, hb⟩ := hcut
  have c0 := hS.c0
  have c1 := hS.c1
  go_wp2_with fail
  refine (HRD.out _ (h.bel hb)).mono ?_
  rintro e w2 ⟨rfl, hb2⟩
  replace hb := hb.trans (hb2.mono hb.size)
  replace hS := hS.below hb2
  replace c0 := hS.c0
  replace c1 := hS.c1
  clear hb2
  go_wp2_with fail
  refine (HIX.out _ (h.bel hb)).mono ?_
  rintro e w3 ⟨rfl, hb2⟩
  replace hb := hb.trans (hb2.mono hb.size)
  clear hb2 hS c0 c1
  by_cases h0 : ¬ r = 0
  · obtain rfl : u = r := by rw [HU.out, if_pos h0]
    have h0' : (u == 0) = false := by simpa using h0
    have h0'' : (u != 0) = true := by simpa using h0
    have H0 := Lib.hid h0
    clear h0
    go_wp2_with fail
    go_ret2
    exact ⟨_, _, rfl, by rw [okL_ne H0.out]; exact Own.nil _ _ _ _ _, hb⟩
  have h0 : r = 0 := by omega
  subst h0
  have HU2 := Lib.hid (show u = if l.any (spanQ ⟨a, b⟩) then 0 else 5 by rw [HU.out, if_neg (by simp)])
  cases q : l.any (spanQ ⟨a, b⟩) with
  | false =>
    obtain rfl : u = 5 := by rw [HU2.out, if_neg (by simp [q])]
    obtain rfl : ix = -1 := by rw [HI.out, idxF_none q]
    clear q
    go_wp2_with fail
    go_ret2
    exact ⟨_, _, rfl, Own.nil _ _ _ _ _, hb⟩
  | true =>
    obtain rfl : u = 0 := by rw [HU2.out, if_pos q]
    obtain ⟨i, hi⟩ : ∃ i, i = l.findIdx (spanQ ⟨a, b⟩) := ⟨_, rfl⟩
    obtain rfl : ix = (i : Int) := by rw [HI.out, hi]; unfold idxF; rw [q]; rfl
    have hil : i < l.length := by rw [hi]; exact List.findIdx_lt_length_of_exists (by simpa using q)
    have HD2 := Lib.hid (show D = l.take i ++ l.drop (i + 1) by rw [HD.out, hi]; rfl)
    obtain ⟨hok, hsp⟩ := readySp_ok HR.out.symm
    have hln := hok.len
    have hhi := hok.hi
    have hnl := h.len
    have h8 : l.length ≤ 7 := by omega
    have hcl := Clone_span A n cap l w3 (h.bel hb) (by omega)
    have HCL := Lib.hid hcl
    clear hcl
    have HIE := Lib.hid hi
    clear hi
    clear q
    go_wp2_with fail
    refine HCL.out.mono ?_
    rintro e w4 ⟨v, xs, rfl, hown, hb2⟩
    obtain ⟨gg, cc, rfl, hgg, hgl⟩ := hown.form (by omega)
    have hdl := Delete_span hown hil
    rw [hnl] at hdl
    have hb4 := hb.trans (hb2.mono hb.size)
    have hsz := hb.size
    have HDL := Lib.hid hdl
    clear hdl
    have HB4 := Lib.hid hb4
    clear hb4
    clear hb hb2 hown hok hsp
    go_wp2_with fail
    refine HDL.out.mono ?_
    rintro e w5 ⟨v5, xs5, rfl, hown5, hk5⟩
    go_wp2_with fail
    go_ret2
    exact ⟨_, xs5, rfl, by rw [okL_zero, HD2.out]; exact hown5.mono spanC_good hsz, HB4.out.trans (hk5.below HB4.out.size (by intro j hj (e : j = gg); omega))⟩
end Go.Proofs.Ytpodgidamoiakaa
