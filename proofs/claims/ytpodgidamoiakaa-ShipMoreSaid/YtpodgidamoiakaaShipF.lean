/-
  Ships: May, Serves, Order.
-/
import Derived.Test.YtpodgidamoiakaaShipE
namespace Go.Proofs.Ytpodgidamoiakaa
open Go.RowKit Go.Shelf

/-- Does a serve b, or is it b? -/
def srvB (C : List (List Int)) (a b : Nat) : Bool := decide (a = b) || decide (Srv C a b)

structure OkShp (x : Shp) : Prop where
  legs : betB x.legs 1 7 = true
  souls : betB x.souls 1 60 = true
  cats5 : x.cats.length ≤ 5
  cats0 : 0 < x.cats.length
  cabs12 : x.cabs.length ≤ 12
  cabs0 : 0 < x.cabs.length
  ok : OkCats x.cats
  rnd : ∀ k, ¬ Srv (higC x.cats) k k
  names : firstE (nmE (catNames x.cats) (catE x.cats)) x.cats.length = 0
  cabs : firstE (nmE (cabNames x.cabs) (fun k => cabE x.cats.length (x.cabs.getD k default))) x.cabs.length = 0
theorem higC_len (cats : List Cat) : (higC cats).length = cats.length := by unfold higC; rw [List.length_map]
theorem shp_ok {x : Shp} (h : shipE x = 0) : OkShp x := by
  unfold shipE at h
  by_cases h1 : betB x.legs 1 7 = false ∨ betB x.souls 1 60 = false
  · rw [if_pos h1] at h; omega
  rw [if_neg h1] at h
  by_cases h2 : 5 < x.cats.length ∨ 12 < x.cabs.length
  · rw [if_pos h2] at h; omega
  rw [if_neg h2] at h
  by_cases h3 : x.cats.length = 0 ∨ x.cabs.length = 0
  · rw [if_pos h3] at h; omega
  rw [if_neg h3] at h
  by_cases h4 : firstE (nmE (catNames x.cats) (catE x.cats)) x.cats.length ≠ 0
  · rw [if_pos h4] at h; exact absurd h h4
  rw [if_neg h4] at h
  by_cases h5 : rndB (higC x.cats) x.cats.length = true
  · rw [if_pos h5] at h; omega
  rw [if_neg h5] at h
  have hok := okCats_of (cats := x.cats) (nms := catNames x.cats) (by omega) (by simpa using h4)
  refine ⟨?_, ?_, by omega, by omega, by omega, by omega, hok, fun k => rndB_none hok.inC (by rw [higC_len]; simpa using h5) k, by simpa using h4, h⟩
  · cases hh : betB x.legs 1 7
    · exact absurd (.inl hh) h1
    · rfl
  · cases hh : betB x.souls 1 60
    · exact absurd (.inr hh) h1
    · rfl

set_option maxRecDepth 100000 in
set_option maxHeartbeats 4000000 in
theorem May_any (legs souls : Int) (A : Option Addr) (n cap : Nat) (cats : List Cat) (vc : Value) (a b : Nat) (w : World) (h : Sl catC 2 w All A n cap cats) (ho : OkCats cats) (ha : a < n) (hb : b < n) :
    Calls Try.prog 45 #[.agg #[.int .i64 legs, .int .i64 souls, .slice A n cap, vc], .int .i64 (a : Int), .int .i64 (b : Int)] w fun e w' => e = .returned (.bool (srvB (higC cats) a b)) ∧ Below w.heap.size w w' := by
  have hl := h.len
  have h5 := ho.five
  have hn5 : n ≤ 5 := by omega
  have hab := fun W hW => above_any legs souls A n cap cats vc b W hW ho hb
  have HAB := Lib.hid hab
  clear hab
  have HSL := Lib.hid h
  obtain ⟨r, hr⟩ : ∃ r, r = srvB (higC cats) a b := ⟨_, rfl⟩
  rw [← hr]
  have HR := Lib.hid hr
  clear hr
  clear h hl h5
  go_enter Try.func45, Try.ntmps45
  go_upto_region 0 with (fail)
  go_cut [3, 6] (fun p _ wx => ∃ g, p = .pointer (some ⟨g, 0, none⟩) ∧ Blk wx g #[.int .i64 legs, .int .i64 souls, .slice A n cap, vc] 25 ∧ Below w.heap.size w wx)
  case first => as_aux_lemma =>
    go_wp2_with fail
    go_meet
    exact ⟨_, rfl, blk1 _ _, bel1 _ _⟩
  obtain ⟨g, rfl, hB, hb1⟩ := hcut
  have c0 : wc.cell? ⟨g, 0, none⟩ = some (.int .i64 legs) := hB.cell rfl
  have c1 : wc.cell? ⟨g, 1, none⟩ = some (.int .i64 souls) := hB.cell rfl
  have c2 : wc.cell? ⟨g, 2, none⟩ = some (.slice A n cap) := hB.cell rfl
  have c3 : wc.cell? ⟨g, 3, none⟩ = some vc := hB.cell rfl
  by_cases he : a = b
  · subst he
    have hr : r = true := by rw [HR.out]; unfold srvB; rw [decide_eq_true rfl]; rfl
    subst hr
    go_wp2_with fail
    go_ret
    exact ⟨rfl, hb1⟩
  · have hne : ((a : Int) == (b : Int)) = false := by rw [beq_eq_false_iff_ne]; omega
    have HR2 := Lib.hid (show r = decide (Srv (higC cats) a b) by rw [HR.out]; unfold srvB; rw [decide_eq_false he]; rfl)
    have hcall := HAB.out wc (HSL.out.bel hb1)
    have HCALL := Lib.hid hcall
    clear hcall
    clear he
    go_wp2_with fail
    refine HCALL.out.mono ?_
    rintro e w2 ⟨G, m, rfl, hrow, hml, hsrv, hlow, hb3⟩
    have e0 := hrow.cell (i := a) (by omega)
    obtain ⟨v, hv⟩ : ∃ v, v = m.getD a 0 := ⟨_, rfl⟩
    rw [← hv] at e0
    have hs := hsrv a
    rw [← hv] at hs
    have hb4 := hb1.trans (hb3.mono hb1.size)
    have HS := Lib.hid hs
    clear hs
    clear hsrv hlow hrow hb3 hv
    go_wp2_with fail
    go_ret
    refine ⟨retB ?_, hb4⟩
    rw [HR2.out]
    by_cases h0 : 0 < v
    · rw [decide_eq_true h0, decide_eq_true (HS.out.1 h0)]
    · rw [decide_eq_false h0, decide_eq_false (fun h => h0 (HS.out.2 h))]

/-- What Serves says besides. -/
def servE (x : Shp) (a b : Int) : Int := if shipE x ≠ 0 then shipE x else if betB a 0 (x.cats.length - 1) = false ∨ betB b 0 (x.cats.length - 1) = false then 3 else 0

set_option maxRecDepth 100000 in
set_option maxHeartbeats 4000000 in
theorem Serves_any (x : Shp) (A : Option Addr) (n cap : Nat) (B : Option Addr) (m cap2 : Nat) (a b : Int) (w : World) (hc : Sl catC 2 w All A n cap x.cats) (hb : Sl cabC 4 w All B m cap2 x.cabs) :
    Calls Try.prog 14 #[.agg #[.int .i64 x.legs, .int .i64 x.souls, .slice A n cap, .slice B m cap2], .int .i64 a, .int .i64 b] w fun e w' =>
      e = .returned (.tuple #[.bool (okB (servE x a b) (srvB (higC x.cats) a.toNat b.toNat)), .int .i64 (servE x a b)]) ∧ Below w.heap.size w w' := by
  have hck := fun W h1 h2 => shipCheck_any x A n cap B m cap2 W h1 h2
  have hmay := fun a b W hW ho h1 h2 => May_any x.legs x.souls A n cap x.cats (.slice B m cap2) a b W hW ho h1 h2
  have HOK := Lib.hid (fun h => shp_ok (x := x) h)
  obtain ⟨r, hr⟩ : ∃ r, r = servE x a b := ⟨_, rfl⟩
  obtain ⟨t, ht⟩ : ∃ t, t = okB (servE x a b) (srvB (higC x.cats) a.toNat b.toNat) := ⟨_, rfl⟩
  obtain ⟨v, hv⟩ : ∃ v, v = shipE x := ⟨_, rfl⟩
  rw [← ht, ← hr]
  rw [← hr] at ht
  rw [← hv] at hck HOK
  have HR := Lib.hid (show r = if v ≠ 0 then v else if betB a 0 ((n : Int) - 1) = false ∨ betB b 0 ((n : Int) - 1) = false then 3 else 0 by rw [hr, hv, ← hc.len]; rfl)
  have HL := Lib.hid hc.len
  have HT := Lib.hid ht
  clear ht
  have HCK := Lib.hid hck
  clear hck
  have HMAY := Lib.hid hmay
  clear hmay
  have HC := Lib.hid hc
  have HB := Lib.hid hb
  clear hr hv hc hb
  obtain ⟨legs, souls, cats, cabs⟩ := x
  simp only at *
  go_enter Try.func14, Try.ntmps14
  go_upto_region 0 with (fail)
  go_cut [3, 6, 7] (fun p _ _ wx => ∃ g, p = .pointer (some ⟨g, 0, none⟩) ∧ ShpAt wx g legs souls A n cap B m cap2 ∧ Below w.heap.size w wx)
  case first => as_aux_lemma =>
    go_wp2_with fail
    go_meet
    exact ⟨_, rfl, blk1 _ _, bel1 _ _⟩
  obtain ⟨g, rfl, hG, hb1⟩ := hcut
  obtain ⟨g0, g1, g2, g3⟩ := hG.all
  go_wp2_with fail
  refine (HCK.out _ (HC.out.bel hb1) (HB.out.bel hb1)).mono ?_
  rintro e w2 ⟨rfl, hb2⟩
  have hb3 := hb1.trans (hb2.mono hb1.size)
  clear g0 g1 g2 g3
  obtain ⟨g0, g1, g2, g3⟩ := (hG.bel hb2).all
  clear hb1 hb2 hG
  by_cases h0 : v = 0
  · have hok := HOK.out h0
    have HR2 := Lib.hid (HR.out.trans (if_neg (by simp [h0])))
    subst h0
    have hl5 : n ≤ 5 := by rw [← HL.out]; exact hok.cats5
    have hl0 : 0 < n := by rw [← HL.out]; exact hok.cats0
    have HSO := Lib.hid hok
    clear hok
    have hw1 := fun W => swithin_any a 0 ((n : Int) - 1) W
    have hw2 := fun W => swithin_any b 0 ((n : Int) - 1) W
    cases b1 : betB a 0 ((n : Int) - 1)
    · have hr : r = 3 := HR2.out.trans (if_pos (.inl b1))
      have ht : t = false := by rw [HT.out, hr]; rfl
      subst hr ht
      rw [b1] at hw1
      clear b1
      go_wp2_with fail
      refine (hw1 _).mono ?_
      rintro e w9 ⟨rfl, rfl⟩
      go_wp2_with fail
      go_ret2
      exact ⟨rfl, hb3⟩
    have HB1 := Lib.hid b1
    rw [b1] at hw1
    clear b1
    go_wp2_with fail
    refine (hw1 _).mono ?_
    rintro e w9 ⟨rfl, rfl⟩
    cases b2 : betB b 0 ((n : Int) - 1)
    · have hr : r = 3 := HR2.out.trans (if_pos (.inr b2))
      have ht : t = false := by rw [HT.out, hr]; rfl
      subst hr ht
      rw [b2] at hw2
      clear b2
      go_wp2_with fail
      refine (hw2 _).mono ?_
      rintro e w9 ⟨rfl, rfl⟩
      go_wp2_with fail
      go_ret2
      exact ⟨rfl, hb3⟩
    have hr : r = 0 := HR2.out.trans (if_neg (by rw [HB1.out, b2]; simp))
    have ha := betB_iff.1 HB1.out
    have hbb := betB_iff.1 b2
    rw [b2] at hw2
    clear b2
    obtain ⟨a', rfl⟩ := Int.eq_ofNat_of_zero_le ha.1
    obtain ⟨b', rfl⟩ := Int.eq_ofNat_of_zero_le hbb.1
    have HT2 := Lib.hid (show t = srvB (higC cats) a' b' by rw [HT.out, hr]; rfl)
    subst hr
    have hm := HMAY.out a' b' w9 (HC.out.bel hb3) HSO.out.ok (by omega) (by omega)
    rw [← HT2.out] at hm
    have HM := Lib.hid hm
    clear hm
    clear ha hbb hw1
    go_wp2_with fail
    refine (hw2 _).mono ?_
    rintro e w9 ⟨rfl, rfl⟩
    go_wp2_with fail
    refine HM.out.mono ?_
    rintro e w10 ⟨rfl, hb4⟩
    have hb5 := hb3.trans (hb4.mono hb3.size)
    go_wp2_with fail
    go_ret2
    exact ⟨rfl, hb5⟩
  · have hr : r = v := HR.out.trans (if_pos h0)
    have ht : t = false := by rw [HT.out, hr]; exact okB_ne h0 _
    subst hr ht
    have h0' : (r != 0) = true := by simpa using h0
    clear h0
    go_wp2_with fail
    go_ret2
    exact ⟨rfl, hb3⟩
end Go.Proofs.Ytpodgidamoiakaa
