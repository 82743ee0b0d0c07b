/-
  Ships: climbing from a category to those that serve it (climb, above, round).
-/
import Derived.Test.YtpodgidamoiakaaShipB
import Derived.Test.YtpodgidamoiakaaBlkSet
import Derived.Deep.RegionHeld3
import Derived.KernelRfl
namespace Go.Proofs.Ytpodgidamoiakaa
open Go.RowKit Go.Shelf

def higC (cats : List Cat) : List (List Int) := cats.map (·.high)
theorem higC_getD (cats : List Cat) (i : Nat) {x : Cat} (h : cats[i]? = some x) : (higC cats).getD i [] = x.high := by
  unfold higC
  rw [List.getD_eq_getElem?_getD, List.getElem?_map, h]; rfl
structure OkCats (cats : List Cat) : Prop where
  five : cats.length ≤ 5
  inC : OkC (higC cats)
  few : ∀ c ∈ cats, c.high.length ≤ 5

/-- What a climber reads and writes. -/
structure ClAt (w : World) (B P G : Nat) (A : Option Addr) (n cap : Nat) (cats : List Cat) (m : List Int) : Prop where
  sl : Sl catC 2 w (fun b => b < B) A n cap cats
  st : Blk w P #[.slice A n cap, .slice (some ⟨G, 0, none⟩) n n] 123
  row : RowI w G m 3
  len : m.length = n
theorem ClAt.set {w : World} {B P G : Nat} {A : Option Addr} {n cap : Nat} {cats : List Cat} {m : List Int} (h : ClAt w B P G A n cap cats m) (hg : B ≤ G) (hpg : P ≠ G) (i : Nat) (v : Int) :
    ClAt (w.setCell ⟨G, i, none⟩ (.int .i64 v)) B P G A n cap cats (m.set i v) :=
  ⟨h.sl.keep catC_good (by omega) fun b hb _ => ⟨Below.heap_setCell _ _ _ _ (by simp; omega), hb⟩, h.st.other (by simpa using hpg.symm) _, h.row.set _ _, by rw [List.length_set]; exact h.len⟩

set_option maxRecDepth 100000 in
set_option maxHeartbeats 4000000 in
theorem climb_any (B P G : Nat) (A : Option Addr) (n cap : Nat) (cats : List Cat) (ho : OkCats cats) (hG : B ≤ G) (hPG : P ≠ G) :
    ∀ (z : Nat) (m : List Int) (i : Nat) (c : Int) (w : World), ClAt w B P G A n cap cats m → i < n → zeros m ≤ z → (∀ x, 0 ≤ m.getD x 0) → (∀ x, m.getD x 0 ≤ c) → c + 5 * (1 + (zeros m : Int)) ≤ 1000000000 →
    Calls Try.prog 90 #[.pointer (some ⟨P, 0, none⟩), .int .i64 (i : Int)] w fun e w' => e = .returned (.tuple #[]) ∧ ∃ m', Cl (higC cats) 5 i 5 ((higC cats).getD i []) m m' ∧ ClAt w' B P G A n cap cats m' ∧ Below B w w' := by
  intro z
  induction z using Nat.strongRecOn with
  | _ z ih =>
    intro m i c w hA hi hz hlow hc hroom
    obtain ⟨hsl, hst, hrow, hml⟩ := hA
    obtain ⟨b, off, x, c0, c1, rfl, hx, ⟨A2, n2, cap2, hcs, hs2, _⟩, g0, g1⟩ := hsl.at2 hi
    simp only [List.cons.injEq, and_true] at hcs
    obtain ⟨rfl, rfl⟩ := hcs
    have p0 := hst.cell (j := 0) rfl
    have p1 := hst.cell (j := 1) rfl
    have hfew := ho.few x (List.mem_of_getElem? hx)
    have hn2 := hs2.len
    have hn5 : n2 ≤ 5 := by omega
    have hn := hsl.len
    have hcg := higC_getD cats i hx
    have HA0 := Lib.hid (show ClAt w B P G (some ⟨b, off, none⟩) n cap cats m from ⟨hsl, hst, hrow, hml⟩)
    have hel : ∀ (k : Nat) (y : Int), x.high[k]? = some y → 0 ≤ y ∧ y < n := fun k y hy => by
      have := ho.inC.getD (b := i) (h := y) (by rw [hcg]; exact List.mem_of_getElem? hy)
      simpa [higC, hn] using this
    rw [hcg]
    have HEL := Lib.hid hel
    clear hel
    have HLOW := Lib.hid hlow
    clear hlow
    have HC := Lib.hid hc
    clear hc
    have HZ := Lib.hid hz
    clear hz
    have HROOM := Lib.hid hroom
    clear hroom
    have HN2 := Lib.hid hn2
    clear hn2
    have HCG := Lib.hid hcg
    clear hcg
    have HS2 := Lib.hid hs2
    clear hs2
    have IH := Lib.hid ih
    clear ih
    have HHI := Lib.hid hi
    clear hi
    clear hsl hst hrow hml hx hfew
    go_enter Try.func90, Try.ntmps90
    go_wp2_with fail
    go_loopg [15] n2 (fun gk iv wr => ∃ (k : Nat) (m1 : List Int), k ≤ n2 ∧ n2 - k ≤ gk ∧ iv = .int .i64 k ∧ Cl (higC cats) 5 i k (x.high.take k) m m1 ∧ ClAt wr B P G (some ⟨b, off, none⟩) n cap cats m1 ∧ Below B w wr)
    case atStart => exact ⟨0, m, Nat.zero_le _, by omega, rfl, by rw [List.take_zero]; exact Cl.refl _ _ _ _, HA0.out, Below.refl _ _⟩
    case round =>
      obtain ⟨k, m1, hk, hgk, rfl, hCl, hA1, hb⟩ := hrel
      by_cases hlt : k < n2
      · obtain ⟨b2, off2, y, d0, rfl, hy, ⟨hd, _⟩, e0⟩ := (HS2.out.keep (w' := wr) (S' := All) intC_good (by omega) (fun q hq _ => ⟨hb.block q hq, trivial⟩)).at1 hlt
        simp only [List.cons.injEq, and_true] at hd
        obtain rfl := hd
        obtain ⟨hy0, hy1⟩ := HEL.out k y hy
        obtain ⟨j, rfl⟩ := Int.eq_ofNat_of_zero_le hy0
        have hj : j < n := by omega
        have hjm : j < m1.length := by rw [hA1.len]; exact hj
        have q0 := hA1.st.cell (j := 0) rfl
        have q1 := hA1.st.cell (j := 1) rfl
        have r0 := hA1.row.cell hjm
        have f0 := hA1.row.free j
        obtain ⟨v, hv⟩ : ∃ v, v = m1.getD j 0 := ⟨_, rfl⟩
        rw [← hv] at r0
        have v0 : 0 ≤ v := by rw [hv]; exact hCl.low HLOW.out j
        have v1 : v ≤ 1000000000 := by
          have h1 := hCl.bnd c HC.out j
          have h2 := hCl.zer
          have h3 := HROOM.out
          rw [← hv] at h1
          omega
        have HT := Lib.hid (take_snoc hy)
        have hup : Up (higC cats) i j := by unfold Up; rw [HCG.out]; exact List.mem_of_getElem? hy
        have HUP := Lib.hid hup
        clear hup
        have HCL := Lib.hid hCl
        clear hCl
        have HA1 := Lib.hid hA1
        clear hA1
        have HJM := Lib.hid hjm
        clear hjm
        have HV := Lib.hid hv
        clear hv
        clear hy hy0
        by_cases h0 : v = 0
        · subst h0
          have hz1 := zeros_set m1 j 1 HJM.out (by omega)
          rw [if_pos (by rw [← HV.out]; omega)] at hz1
          have hcall := IH.out (zeros (m1.set j 1)) (by have := HZ.out; have := HCL.out.zer; omega) (m1.set j 1) j (c + (k + 1) + 5 * ((zeros m : Int) - zeros m1)) _ (HA1.out.set hG hPG j 1) hj (Nat.le_refl _)
            (fun q => by rw [getD_set _ _ _ _ HJM.out]; have := HCL.out.low HLOW.out q; split <;> omega)
            (fun q => by
              rw [getD_set _ _ _ _ HJM.out]
              have h1 := HCL.out.bnd c HC.out q
              have h2 := HCL.out.bnd c HC.out j
              rw [← HV.out] at h2
              split <;> omega)
            (by have := HROOM.out; have := HCL.out.zer; omega)
          have HB2 := Lib.hid (hb.setCell (p := ⟨G, j, none⟩) hG (.int .i64 1))
          have HCALL := Lib.hid hcall
          clear hcall
          clear hz1
          go_wp2_with fail
          refine HCALL.out.mono ?_
          rintro e w2 ⟨rfl, m2, hCl2, hA2, hb2⟩
          have HCL2 := Lib.hid (Cl.new HCL.out j HJM.out HV.out.symm HUP.out hCl2)
          have HB3 := Lib.hid (HB2.out.trans hb2)
          have HA2 := Lib.hid hA2
          clear hA2
          clear hCl2 hb2
          go_wp2_with fail
          go_roundg (n2 - (k + 1))
          case measure => omega
          case rel => exact ⟨k + 1, m2, by omega, by omega, by go_num, by rw [HT.out]; exact HCL2.out, HA2.out, HB3.out⟩
        · have hne : ¬ v + 1 = 1 := by omega
          have hw : wrap64 (v + 1) = v + 1 := by unfold wrap64; omega
          have HCL2 := Lib.hid (Cl.old HCL.out j HJM.out (by rw [← HV.out]; omega))
          rw [← HV.out] at HCL2
          have HA2 := Lib.hid (HA1.out.set hG hPG j (v + 1))
          have HB2 := Lib.hid (hb.setCell (p := ⟨G, j, none⟩) hG (.int .i64 (v + 1)))
          go_wp2_with fail
          go_roundg (n2 - (k + 1))
          case measure => omega
          case rel => exact ⟨k + 1, _, by omega, by omega, by go_num, by rw [HT.out]; exact HCL2.out, HA2.out, HB2.out⟩
      · obtain rfl : k = n2 := by omega
        have HCL := Lib.hid (hCl.le (k' := 5) (by omega))
        have HA1 := Lib.hid hA1
        clear hA1
        clear hCl
        go_wp2_with fail
        go_end0
        rw [List.take_of_length_le (Nat.le_of_eq HN2.out)] at HCL
        exact ⟨rfl, m1, HCL.out, HA1.out, hb⟩

theorem mkInts0 (W : World) : (Instr.makeSlice 30 (.int .i64 0) (.int .i64 0)).run Try.prog W = .ok (.slice (some ⟨W.heap.size, 0, none⟩) 0 0) (W.alloc (.cells ((List.replicate 0 (0 : Int)).map (Value.int .i64)).toArray 3)) := by kernel_rfl
theorem mkInts1 (W : World) : (Instr.makeSlice 30 (.int .i64 1) (.int .i64 1)).run Try.prog W = .ok (.slice (some ⟨W.heap.size, 0, none⟩) 1 1) (W.alloc (.cells ((List.replicate 1 (0 : Int)).map (Value.int .i64)).toArray 3)) := by kernel_rfl
theorem mkInts2 (W : World) : (Instr.makeSlice 30 (.int .i64 2) (.int .i64 2)).run Try.prog W = .ok (.slice (some ⟨W.heap.size, 0, none⟩) 2 2) (W.alloc (.cells ((List.replicate 2 (0 : Int)).map (Value.int .i64)).toArray 3)) := by kernel_rfl
theorem mkInts3 (W : World) : (Instr.makeSlice 30 (.int .i64 3) (.int .i64 3)).run Try.prog W = .ok (.slice (some ⟨W.heap.size, 0, none⟩) 3 3) (W.alloc (.cells ((List.replicate 3 (0 : Int)).map (Value.int .i64)).toArray 3)) := by kernel_rfl
theorem mkInts4 (W : World) : (Instr.makeSlice 30 (.int .i64 4) (.int .i64 4)).run Try.prog W = .ok (.slice (some ⟨W.heap.size, 0, none⟩) 4 4) (W.alloc (.cells ((List.replicate 4 (0 : Int)).map (Value.int .i64)).toArray 3)) := by kernel_rfl
theorem mkInts5 (W : World) : (Instr.makeSlice 30 (.int .i64 5) (.int .i64 5)).run Try.prog W = .ok (.slice (some ⟨W.heap.size, 0, none⟩) 5 5) (W.alloc (.cells ((List.replicate 5 (0 : Int)).map (Value.int .i64)).toArray 3)) := by kernel_rfl
theorem mkInts (n : Nat) (hn : n ≤ 5) (W : World) : (Instr.makeSlice 30 (.int .i64 n) (.int .i64 n)).run Try.prog W = .ok (.slice (some ⟨W.heap.size, 0, none⟩) n n) (W.alloc (.cells ((List.replicate n (0 : Int)).map (Value.int .i64)).toArray 3)) := by
  have h : n = 0 ∨ n = 1 ∨ n = 2 ∨ n = 3 ∨ n = 4 ∨ n = 5 := by omega
  rcases h with rfl | rfl | rfl | rfl | rfl | rfl
  · exact mkInts0 W
  · exact mkInts1 W
  · exact mkInts2 W
  · exact mkInts3 W
  · exact mkInts4 W
  · exact mkInts5 W

set_option maxRecDepth 100000 in
set_option maxHeartbeats 4000000 in
theorem above_any (legs souls : Int) (A : Option Addr) (n cap : Nat) (cats : List Cat) (vc : Value) (i : Nat) (w : World) (h : Sl catC 2 w All A n cap cats) (ho : OkCats cats) (hi : i < n) :
    Calls Try.prog 78 #[.agg #[.int .i64 legs, .int .i64 souls, .slice A n cap, vc], .int .i64 (i : Int)] w fun e w' => ∃ (G : Nat) (m : List Int), e = .returned (.slice (some ⟨G, 0, none⟩) n n) ∧
      RowI w' G m 3 ∧ m.length = n ∧ (∀ x, 0 < m.getD x 0 ↔ Srv (higC cats) x i) ∧ (∀ x, 0 ≤ m.getD x 0) ∧ Below w.heap.size w w' := by
  have h5 := ho.five
  have hl := h.len
  have hn5 : n ≤ 5 := by omega
  have hmk := fun W => mkInts n hn5 W
  have HSL := Lib.hid (h.keep (w' := w) (S' := fun b => b < w.heap.size) catC_good (by omega) (fun b _ hb => ⟨rfl, hb⟩))
  have HL := Lib.hid hl
  clear hl
  clear h
  go_enter Try.func78, Try.ntmps78
  go_upto_region 0 with (fail)
  go_cut [2, 4] (fun p _ wx => ∃ g, p = .pointer (some ⟨g, 0, none⟩) ∧ Blk wx g #[.int .i64 legs, .int .i64 souls, .slice A n cap, vc] 25 ∧ Below w.heap.size w wx)
  case first => as_aux_lemma =>
    go_wp2_with fail
    go_meet
    exact ⟨_, rfl, blk1 _ _, bel1 _ _⟩
  obtain ⟨g, rfl, hB, hb⟩ := hcut
  have q2 : wc.cell? ⟨g, 2, none⟩ = some (.slice A n cap) := hB.cell rfl
  have hsl := Lib.hid (HSL.out.keep (w' := wc) (S' := fun b => b < w.heap.size) catC_good (by omega) (fun b hq _ => ⟨hb.block b hq, hq⟩))
  go_upto_region 1 with (fail)
  go_cut [5] (fun p wx => ∃ P G, p = .pointer (some ⟨P, 0, none⟩) ∧ w.heap.size ≤ P ∧ w.heap.size ≤ G ∧ P ≠ G ∧ ClAt wx w.heap.size P G A n cap cats (List.replicate n 0) ∧ Below w.heap.size w wx)
  case first => as_aux_lemma =>
    go_region_held3 (fun w' => w'.cell? ⟨g, 2, none⟩ = some (.slice A n cap)) (first | assumption | go_keep) (first | fail)
    all_goals
      go_wp2_with fail
      go_meet
    all_goals
      have hB2 := (bel2 wc (.cells (Array.replicate n (Value.int IntKind.i64 0)) 3) (.cells #[Value.slice A n cap, Value.slice (some ⟨wc.heap.size, 0, none⟩) n n] 123)).drew
      refine ⟨wc.heap.size + 1, wc.heap.size, rfl, by have := hb.size; omega, hb.size, by omega, ⟨hsl.out.below catC_good (by omega) hB2, blk2_1 _ _ _, ?_, by simp⟩, hb.trans (hB2.mono hb.size)⟩
      unfold RowI
      rw [show ((List.replicate n (0 : Int)).map (Value.int .i64)).toArray = Array.replicate n (.int .i64 0) by simp]
      exact blk2_0 _ _ _
  obtain ⟨P, G, rfl, hP, hG, hPG, hA, hb⟩ := hcut
  have h0 : ∀ x, (List.replicate n (0 : Int)).getD x 0 = 0 := fun x => by
    simp only [List.getD_eq_getElem?_getD, List.getElem?_replicate]; split <;> rfl
  have hz : zeros (List.replicate n (0 : Int)) ≤ n := by
    have := List.countP_le_length (p := fun x => decide (x ≤ 0)) (l := List.replicate n (0 : Int))
    rw [List.length_replicate] at this
    exact this
  have hcl := climb_any w.heap.size P G A n cap cats ho hG hPG n (List.replicate n 0) i 0 _ hA hi hz (fun x => by rw [h0]; omega) (fun x => by rw [h0]; omega) (by omega)
  have HCL := Lib.hid hcl
  clear hcl
  have HB := Lib.hid hb
  clear hb
  have H0 := Lib.hid h0
  clear hA hz h0
  go_wp2_with fail
  refine HCL.out.mono ?_
  rintro e w2 ⟨rfl, m, hc2, hA2, hb2⟩
  have q1 : w2.cell? ⟨P, 1, none⟩ = some (.slice (some ⟨G, 0, none⟩) n n) := hA2.st.cell rfl
  have HC2 := Lib.hid hc2
  clear hc2
  have HA2 := Lib.hid hA2
  clear hA2
  have HB2 := Lib.hid (HB.out.trans hb2)
  clear hb2
  go_wp2_with fail
  go_ret
  exact ⟨G, m, rfl, HA2.out.row, HA2.out.len, above_srv HC2.out, HC2.out.low (fun x => by rw [H0.out]; omega), HB2.out⟩

/-- Does one of the first n serve itself? -/
def rndB (C : List (List Int)) (n : Nat) : Bool := (List.range n).any (fun x => decide (Srv C x x))
theorem rndB_succ (C : List (List Int)) (n : Nat) : rndB C (n + 1) = (rndB C n || decide (Srv C n n)) := by
  unfold rndB; rw [List.range_succ, List.any_append]; simp
theorem rndB_hit {C : List (List Int)} {n k : Nat} (h : Srv C k k) (hk : k < n) : rndB C n = true := List.any_eq_true.2 ⟨k, List.mem_range.2 hk, decide_eq_true h⟩
theorem rndB_none {C : List (List Int)} (ho : OkC C) (h : rndB C C.length = false) (x : Nat) : ¬ Srv C x x := fun hs => by
  rw [rndB_hit hs (hs.lt ho).1] at h; exact absurd h (by simp)

set_option maxRecDepth 100000 in
set_option maxHeartbeats 4000000 in
theorem round_any (legs souls : Int) (A : Option Addr) (n cap : Nat) (cats : List Cat) (vc : Value) (w : World) (h : Sl catC 2 w All A n cap cats) (ho : OkCats cats) :
    Calls Try.prog 56 #[.agg #[.int .i64 legs, .int .i64 souls, .slice A n cap, vc]] w fun e w' => e = .returned (.bool (rndB (higC cats) n)) ∧ Below w.heap.size w w' := by
  have h5 := ho.five
  have hl := h.len
  have hn5 : n ≤ 5 := by omega
  have hab := fun i W h hi => above_any legs souls A n cap cats vc i W h ho hi
  have HAB := Lib.hid hab
  clear hab
  have HL := Lib.hid hl
  clear hl
  have HSL := Lib.hid h
  clear h
  obtain ⟨r, hr⟩ : ∃ r, r = rndB (higC cats) n := ⟨_, rfl⟩
  rw [← hr]
  have HR := Lib.hid hr
  clear hr
  go_enter Try.func56, Try.ntmps56
  go_upto_region 0 with (fail)
  go_cut [1] (fun p wx => ∃ g, p = .pointer (some ⟨g, 0, none⟩) ∧ Blk wx g #[.int .i64 legs, .int .i64 souls, .slice A n cap, vc] 25 ∧ Below w.heap.size w wx)
  case first => as_aux_lemma =>
    go_wp2_with fail
    go_meet
    exact ⟨_, rfl, blk1 _ _, bel1 _ _⟩
  obtain ⟨g, rfl, hB, hb⟩ := hcut
  have q2 : wc.cell? ⟨g, 2, none⟩ = some (.slice A n cap) := hB.cell rfl
  go_wp2_with fail
  go_loopg [7] n (fun gk i wr => ∃ k : Nat, k ≤ n ∧ n - k ≤ gk ∧ i = .int .i64 k ∧ Aside (rndB (higC cats) k = false) ∧ Below wc.heap.size wc wr)
  case atStart => exact ⟨0, Nat.zero_le _, by omega, rfl, rfl, Below.refl _ _⟩
  case round =>
    obtain ⟨k, hk, hgk, rfl, HA, hb2⟩ := hrel
    by_cases hlt : k < n
    · have hB2 := hB.bel hb2
      have c0 : wr.cell? ⟨g, 0, none⟩ = some (.int .i64 legs) := hB2.cell rfl
      have c1 : wr.cell? ⟨g, 1, none⟩ = some (.int .i64 souls) := hB2.cell rfl
      have c2 : wr.cell? ⟨g, 2, none⟩ = some (.slice A n cap) := hB2.cell rfl
      have c3 : wr.cell? ⟨g, 3, none⟩ = some vc := hB2.cell rfl
      have hcall := HAB.out k wr (HSL.out.bel (hb.trans (hb2.mono hb.size))) hlt
      have HCALL := Lib.hid hcall
      clear hcall
      go_wp2_with fail
      refine HCALL.out.mono ?_
      rintro e w2 ⟨G, m, rfl, hrow, hml, hsrv, hlow, hb3⟩
      have e0 := hrow.cell (i := k) (by omega)
      obtain ⟨v, hv⟩ : ∃ v, v = m.getD k 0 := ⟨_, rfl⟩
      rw [← hv] at e0
      have hs := hsrv k
      rw [← hv] at hs
      have hb4 := hb2.trans (hb3.mono hb2.size)
      have HS := Lib.hid hs
      clear hs
      clear hsrv hlow hrow hb3 hv
      by_cases h0 : 0 < v
      · have hr : r = true := by rw [HR.out]; exact rndB_hit (HS.out.1 h0) hlt
        subst hr
        go_wp2_with fail
        go_ret
        exact ⟨rfl, hb.trans (hb4.mono hb.size)⟩
      · have HN := Lib.hid (show rndB (higC cats) (k + 1) = false by rw [rndB_succ, show rndB (higC cats) k = false from HA, decide_eq_false (fun h => h0 (HS.out.2 h))]; rfl)
        go_wp2_with fail
        go_roundg (n - (k + 1))
        case measure => omega
        case rel => exact ⟨k + 1, by omega, by omega, by go_num, HN.out, hb4⟩
    · obtain rfl : k = n := by omega
      have hr : r = false := by rw [HR.out]; exact HA
      subst hr
      go_wp2_with fail
      go_ret
      exact ⟨rfl, hb.trans (hb2.mono hb.size)⟩
end Go.Proofs.Ytpodgidamoiakaa
