/-
  Matchings: match.Most.
-/
import Derived.Test.YtpodgidamoiakaaMatchL
import Derived.Test.YtpodgidamoiakaaMatchO
namespace Go.Proofs.Ytpodgidamoiakaa
open Go.RowKit Go.Shelf

set_option maxRecDepth 100000 in
set_option maxHeartbeats 2000000 in
theorem Most_any (left right : Int) (A : Option Addr) (n cap : Nat) (l : List Edg) (w : World) (h : Sl edgC 2 w All A n cap l) :
    Calls Try.prog 36 #[.int .i64 left, .int .i64 right, .slice A n cap] w fun e w' => ∃ (v : Value) (ml : List Edg) (xs : List Value), e = .returned (.tuple #[v, .int .i64 (grE left right l)]) ∧ Own edgC 2 70 w' w.heap.size v ml xs ∧ MostOk left right l ml ∧ Below w.heap.size w w' := by
  have HC := Lib.hid (CheckM_any left right A n cap l w h)
  obtain ⟨r, hr⟩ : ∃ r, r = grE left right l := ⟨_, rfl⟩
  rw [← hr] at HC ⊢
  have HR := Lib.hid hr
  clear hr
  have HH := Lib.hid h
  clear h
  go_enter Try.func36, Try.ntmps36
  go_wp2_with fail
  refine HC.out.mono ?_
  rintro e w1 ⟨rfl, hb⟩
  by_cases h0 : r = 0
  · have hR := HR.out
    rw [h0] at hR
    obtain ⟨a, b, rfl, rfl, ha, hb16, hg, hnd⟩ := grE_ok hR.symm
    have hlen := HH.out.len
    have hsm := graph_small hg hnd ha hb16
    have HBS := Lib.hid (Best_any a b A n cap l w1 (HH.out.bel hb) ha hb16 hg (by omega))
    have HRR := Lib.hid hR
    have HB1 := Lib.hid hb
    subst h0
    clear hR HR hg hnd hlen hsm hb HC
    go_wp2_with fail
    refine HBS.out.mono ?_
    rintro e w2 ⟨v, ml, xs, rfl, hO, hbest, hsz, hb2⟩
    have HO := Lib.hid (hO.mono edgC_good HB1.out.size)
    have HM := Lib.hid (MostOk.of HRR.out.symm hbest hsz)
    have HB2 := Lib.hid (HB1.out.trans (hb2.mono HB1.out.size))
    clear hO hbest hsz hb2
    go_wp2_with fail
    go_ret2
    exact ⟨v, ml, xs, rfl, HO.out, HM.out, HB2.out⟩
  · have HM := Lib.hid (MostOk.none (left := left) (right := right) (l := l) (by rw [← HR.out]; exact h0))
    have h0' : (r == 0) = false := by simpa using h0
    clear h0
    go_wp2_with fail
    go_ret2
    exact ⟨_, [], [], rfl, Own.nil _ _ _ _ _, HM.out, hb⟩
end Go.Proofs.Ytpodgidamoiakaa
