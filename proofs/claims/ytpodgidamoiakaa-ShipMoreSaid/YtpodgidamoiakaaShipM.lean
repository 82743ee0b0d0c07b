/-
  Ships: the laws' helpers vessel, shipBegun.
-/
import Derived.Test.YtpodgidamoiakaaShipI
import Derived.Test.YtpodgidamoiakaaSameI
namespace Go.Proofs.Ytpodgidamoiakaa
open Go.RowKit Go.Shelf

def vesselX : Shp := ⟨3, 6, [⟨[73, 78], [1]⟩, ⟨[79, 85, 84], [2]⟩, ⟨[83, 85, 73, 84, 69], []⟩], [⟨[65, 49], 0, 2, false⟩, ⟨[66, 49], 1, 4, true⟩, ⟨[67, 49], 2, 2, false⟩]⟩
theorem mlen {n : Nat} (h : n ≤ 1000) : n ≤ maxLen := by simp only [maxLen]; omega

set_option maxRecDepth 100000 in
set_option maxHeartbeats 2000000 in
theorem vessel_any (w : World) : Calls Try.prog 43 #[] w fun e w' => ∃ A n cap B m cap2, e = .returned (.agg #[.int .i64 vesselX.legs, .int .i64 vesselX.souls, .slice A n cap, .slice B m cap2]) ∧ Sl catC 2 w' All A n cap vesselX.cats ∧ Sl cabC 4 w' All B m cap2 vesselX.cabs ∧ Below w.heap.size w w' := by
  go_enter Try.func43, Try.ntmps43
  go_wp2_with fail
  refine bodyPost_ret (v := .agg #[.int .i64 3, .int .i64 6, .slice (some ⟨w.heap.size + 1 + 1 + 1, 0, none⟩) 3 3, .slice (some ⟨w.heap.size + 1 + 1 + 1 + 1, 0, none⟩) 3 3]) (by simp [results, Try.results43, go_sem]) rfl ?_
  refine ⟨_, _, _, _, _, _, rfl, ?_, ?_, ?_⟩
  · refine Sl.ofBlk (l := vesselX.cats) (((Blk.new3 w _ _ _ _ _).old _)) (by decide) trivial fun i x hx => ?_
    rcases i with _ | _ | _ | i
    · obtain rfl : (⟨[73, 78], [1]⟩ : Cat) = x := by simpa [vesselX] using hx
      exact ⟨[strV [73, 78], .slice (some ⟨w.heap.size + 1, 0, none⟩) 1 1], ⟨_, _, _, rfl, Sl.ofInts [1] ((((Blk.new1 w _ _ _).old _).old _).old _) (by decide) trivial (by decide), mlen (by decide)⟩, rfl, fun j u hu => by rcases j with _ | _ | j <;> simp_all⟩
    · obtain rfl : (⟨[79, 85, 84], [2]⟩ : Cat) = x := by simpa [vesselX] using hx
      exact ⟨[strV [79, 85, 84], .slice (some ⟨w.heap.size + 1 + 1, 0, none⟩) 1 1], ⟨_, _, _, rfl, Sl.ofInts [2] (((Blk.new2 w _ _ _ _).old _).old _) (by decide) trivial (by decide), mlen (by decide)⟩, rfl, fun j u hu => by rcases j with _ | _ | j <;> simp_all⟩
    · obtain rfl : (⟨[83, 85, 73, 84, 69], []⟩ : Cat) = x := by simpa [vesselX] using hx
      exact ⟨[strV [83, 85, 73, 84, 69], .slice none 0 0], ⟨_, _, _, rfl, Sl.nil _ _ _ _, mlen (by decide)⟩, rfl, fun j u hu => by rcases j with _ | _ | j <;> simp_all⟩
    · simp [vesselX] at hx
  · refine Sl.ofBlk (l := vesselX.cabs) (Blk.new4 w _ _ _ _ _ _) (by decide) trivial fun i x hx => ?_
    rcases i with _ | _ | _ | i
    · obtain rfl : (⟨[65, 49], 0, 2, false⟩ : Cab) = x := by simpa [vesselX] using hx
      exact ⟨[strV [65, 49], .int .i64 0, .int .i64 2, .bool false], ⟨rfl, mlen (by decide), .of (by decide) (by decide), .of (by decide) (by decide)⟩, rfl, fun j u hu => by rcases j with _ | _ | _ | _ | j <;> simp_all⟩
    · obtain rfl : (⟨[66, 49], 1, 4, true⟩ : Cab) = x := by simpa [vesselX] using hx
      exact ⟨[strV [66, 49], .int .i64 1, .int .i64 4, .bool true], ⟨rfl, mlen (by decide), .of (by decide) (by decide), .of (by decide) (by decide)⟩, rfl, fun j u hu => by rcases j with _ | _ | _ | _ | j <;> simp_all⟩
    · obtain rfl : (⟨[67, 49], 2, 2, false⟩ : Cab) = x := by simpa [vesselX] using hx
      exact ⟨[strV [67, 49], .int .i64 2, .int .i64 2, .bool false], ⟨rfl, mlen (by decide), .of (by decide) (by decide), .of (by decide) (by decide)⟩, rfl, fun j u hu => by rcases j with _ | _ | _ | _ | j <;> simp_all⟩
    · simp [vesselX] at hx
  · exact ((bel3 w _ _ _).alloc (by simp; omega) _).alloc (by simp; omega) _

theorem vessel_e : shipE vesselX = 0 := by decide
theorem vessel_s1 : servE vesselX 2 0 = 0 := by decide
theorem vessel_s2 : servE vesselX 0 1 = 0 := by decide
theorem vessel_b1 : srvB (higC vesselX.cats) 2 0 = true := by decide
theorem vessel_b2 : srvB (higC vesselX.cats) 0 1 = false := by decide
theorem vessel_o : ordF (higC vesselX.cats) 3 = [2, 1, 0] := by decide

set_option maxRecDepth 100000 in
set_option maxHeartbeats 8000000 in
theorem shipBegun_any (w : World) : Calls Try.prog 13 #[] w fun e w' => e = .returned (.bool true) ∧ Below w.heap.size w w' := by
  have hb := Below.refl w.heap.size w
  have hS := fun a b A n cap B m cap2 W hc hb => Serves_any vesselX A n cap B m cap2 a b W hc hb
  have hS1 := hS 2 0
  have hS2 := hS 0 1
  rw [vessel_s1, show okB 0 (srvB (higC vesselX.cats) (2 : Int).toNat (0 : Int).toNat) = true from vessel_b1] at hS1
  rw [vessel_s2, show okB 0 (srvB (higC vesselX.cats) (0 : Int).toNat (1 : Int).toNat) = false from vessel_b2] at hS2
  have hO := fun A cap B m cap2 W hc hb => Order_any vesselX A 3 cap B m cap2 W hc hb
  rw [vessel_e, okL_zero, vessel_o] at hO
  have hK := fun A n cap B m cap2 W hc hb => shipCheck_any vesselX A n cap B m cap2 W hc hb
  rw [vessel_e] at hK
  have HS1 := Lib.hid hS1
  clear hS1
  have HS2 := Lib.hid hS2
  clear hS2
  have HO := Lib.hid hO
  clear hO
  have HK := Lib.hid hK
  clear hK
  clear hS
  go_enter Try.func13, Try.ntmps13
  go_wp2_with fail
  refine (vessel_any _).mono ?_
  rintro e w1 ⟨A1, n1, k1, B1, m1, q1, rfl, hc1, hd1, hb1⟩
  replace hb := hb.trans (hb1.mono hb.size)
  go_wp2_with fail
  refine (HS1.out _ _ _ _ _ _ _ hc1 hd1).mono ?_
  rintro e w2 ⟨rfl, hb2⟩
  replace hb := hb.trans (hb2.mono hb.size)
  clear hb1 hc1 hd1 hb2
  go_wp2_with fail
  refine (vessel_any _).mono ?_
  rintro e w3 ⟨A2, n2, k2, B2, m2, q2, rfl, hc2, hd2, hb3⟩
  replace hb := hb.trans (hb3.mono hb.size)
  go_wp2_with fail
  refine (HS2.out _ _ _ _ _ _ _ hc2 hd2).mono ?_
  rintro e w4 ⟨rfl, hb4⟩
  replace hb := hb.trans (hb4.mono hb.size)
  clear hb3 hc2 hd2 hb4
  go_wp2_with fail
  refine (vessel_any _).mono ?_
  rintro e w5 ⟨A3, n3, k3, B3, m3, q3, rfl, hc3, hd3, hb5⟩
  obtain rfl : n3 = 3 := hc3.len.symm
  replace hb := hb.trans (hb5.mono hb.size)
  go_wp2_with fail
  refine (HO.out _ _ _ _ _ _ hc3 hd3).mono ?_
  rintro e w6 ⟨v, xs, rfl, ho, hb6⟩
  obtain ⟨A4, n4, k4, rfl, hs⟩ := ho.sl intC_good
  replace hs := hs.all intC_good (by omega)
  replace hb := hb.trans (hb6.mono hb.size)
  clear hb5 hc3 hd3 hb6 ho
  go_wp2_with fail
  refine (vessel_any _).mono ?_
  rintro e w7 ⟨A5, n5, k5, B5, m5, q5, rfl, hc5, hd5, hb7⟩
  replace hb := hb.trans (hb7.mono hb.size)
  go_wp2_with fail
  refine (HK.out _ _ _ _ _ _ _ hc5 hd5).mono ?_
  rintro e w8 ⟨rfl, hb8⟩
  replace hs := (hs.bel hb7).bel hb8
  replace hb := hb.trans (hb8.mono hb.size)
  clear hb7 hc5 hd5 hb8
  have hlit := Sl.ofInts [2, 1, 0] (Blk.new w8 #[.int .i64 2, .int .i64 1, .int .i64 0] 3) (by decide) (S := All) trivial (by decide)
  have hsi := SameInts_any _ _ _ _ _ _ _ _ _ (hs.bel (bel1 w8 (.cells #[.int .i64 2, .int .i64 1, .int .i64 0] 3))) hlit
  rw [decide_eq_true rfl] at hsi
  have HSI := Lib.hid hsi
  clear hsi
  have HB := Lib.hid (hb.alloc hb.size (.cells #[.int .i64 2, .int .i64 1, .int .i64 0] 3))
  clear hlit hs hb
  go_wp2_with fail
  refine HSI.out.mono ?_
  rintro e w9 ⟨rfl, q, rfl⟩
  go_wp2_with fail
  go_ret
  exact ⟨rfl, below_drewN HB.out _⟩
end Go.Proofs.Ytpodgidamoiakaa
