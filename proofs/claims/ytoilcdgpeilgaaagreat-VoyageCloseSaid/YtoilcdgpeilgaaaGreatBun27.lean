/-
  Words, laws and contracts: StockU, StockH.
-/
import Derived.Test.YtoilcdgpeilgaaaGreatBun17
import Derived.Test.YtoilcdgpeilgaaaGreatBun25
set_option linter.unusedSimpArgs false
set_option linter.unusedVariables false
namespace Go.Proofs.YtoilcdgpeilgaaaGreat
open Go.RowKit Go.Shelf
set_option maxRecDepth 100000 in
theorem edg_ne (x y : Edg) (W : World) : (binOp .neq 115 (.agg #[.int .i64 x.lft, .int .i64 x.rgt]) (.agg #[.int .i64 y.lft, .int .i64 y.rgt])).run Tryz.prog W = .ok (.bool (decide (x ≠ y))) W := by
  obtain ⟨a, b⟩ := x
  obtain ⟨c, d⟩ := y
  simp only [Edg.mk.injEq, ne_eq]
  go_simp
  repeat' split
  all_goals simp_all
set_option maxHeartbeats 1000000 in
theorem SameEdges_any (A B : Option Addr) (n cap m cap2 : Nat) (l l2 : List Edg) (w : World) (h : Sl edgC 2 w All A n cap l) (h2 : Sl edgC 2 w All B m cap2 l2) :
    Calls Tryz.prog 50 #[.slice A n cap, .slice B m cap2] w fun e w' => e = .returned (.bool (decide (l = l2))) ∧ ∃ q, w' = w.drewN q := by
  have hbd := h.bd
  have hlen := Lib.hid h.len
  have hlen2 := Lib.hid h2.len
  by_cases hnm : n = m
  · subst hnm
    go_enter Tryz.func50, Tryz.ntmps50
    go_wp2_with fail
    go_loopg [5] n (fun gk i wr => ∃ k q : Nat, k ≤ n ∧ n - k ≤ gk ∧ i = .int .i64 k ∧ Aside (∀ j, j < k → l[j]? = l2[j]?) ∧ wr = w.drewN q)
    case atStart => exact ⟨0, 0, Nat.zero_le _, by omega, rfl, fun j hj => absurd hj (by omega), rfl⟩
    case round =>
      obtain ⟨k, q, hk, hgk, rfl, HE, rfl⟩ := hrel
      by_cases hlt : k < n
      · obtain ⟨b, off, x, c0, c1, rfl, hx, hc, g0, g1⟩ := h.at2 hlt
        obtain ⟨hc, hw⟩ := hc
        simp only [List.cons.injEq, and_true] at hc
        obtain ⟨rfl, rfl⟩ := hc
        obtain ⟨b', off', y, d0, d1, rfl, hy, hd, e0, e1⟩ := h2.at2 hlt
        obtain ⟨hd, hw'⟩ := hd
        simp only [List.cons.injEq, and_true] at hd
        obtain ⟨rfl, rfl⟩ := hd
        have HX := Lib.hid hx
        have HY := Lib.hid hy
        clear hx hy
        have hqn := fun W => edg_ne x y W
        by_cases hxy : x = y
        · have he : (decide (x ≠ y)) = false := by subst hxy; simp
          have HXY := Lib.hid hxy
          clear hxy
          go_wp2_with fail
          go_quiet (fail)
          go_wp2_with fail
          go_roundg (n - (k + 1))
          case measure => omega
          case rel =>
            refine ⟨k + 1, _, by omega, by omega, by go_num, (show Aside _ from fun j hj => ?_), rfl⟩
            by_cases e : j = k
            · subst e; rw [HX.out, HY.out, HXY.out]
            · exact HE.out j (by omega)
        · have he : (decide (x ≠ y)) = true := by simpa using hxy
          have HXY := Lib.hid hxy
          clear hxy
          go_wp2_with fail
          go_quiet (fail)
          go_wp2_with fail
          go_ret
          refine ⟨retB ?_, _, World.drewN_drewN _ _ _⟩
          symm
          rw [decide_eq_false_iff_not]
          intro hll
          subst hll
          rw [HX.out] at HY
          exact HXY.out (by have := HY.out; injection this)
      · obtain rfl : k = n := by omega
        have hll : l = l2 := by
          apply List.ext_getElem?
          intro j
          by_cases hj : j < k
          · exact HE.out j hj
          · rw [List.getElem?_eq_none (by rw [hlen.out]; omega), List.getElem?_eq_none (by rw [hlen2.out]; omega)]
        have HLL := Lib.hid hll
        clear hll
        go_wp2_with fail
        go_ret
        exact ⟨retB (by rw [decide_eq_true HLL.out]), _, rfl⟩
  · have hnm' : ((n : Int) != (m : Int)) = true := by simp; omega
    have hll : ¬ l = l2 := fun e => hnm (by rw [← hlen.out, ← hlen2.out, e])
    have HLL := Lib.hid hll
    clear hll hnm
    go_enter Tryz.func50, Tryz.ntmps50
    go_wp2_with fail
    go_ret
    exact ⟨retB (by rw [decide_eq_false HLL.out]), 0, rfl⟩
set_option maxRecDepth 100000 in
set_option maxHeartbeats 2000000 in
theorem vesselS_any (w : World) : Calls Tryz.prog 128 #[] w fun e w' => ∃ A n cap B m cap2, e = .returned (.agg #[.int .i64 vesselX.legs, .int .i64 vesselX.souls, .slice A n cap, .slice B m cap2]) ∧ Sl catC 2 w' (fun b => w.heap.size ≤ b) A n cap vesselX.cats ∧ Sl cabC 4 w' (fun b => w.heap.size ≤ b) B m cap2 vesselX.cabs ∧ Below w.heap.size w w' := by
  go_enter Tryz.func128, Tryz.ntmps128
  go_wp2_with fail
  refine bodyPost_ret (v := .agg #[.int .i64 3, .int .i64 6, .slice (some ⟨w.heap.size + 1 + 1 + 1, 0, none⟩) 3 3, .slice (some ⟨w.heap.size + 1 + 1 + 1 + 1, 0, none⟩) 3 3]) (by simp [results, Tryz.results128, go_sem]) rfl ?_
  refine ⟨_, _, _, _, _, _, rfl, ?_, ?_, ?_⟩
  · refine Sl.ofBlk (l := vesselX.cats) (((Blk.new3 w _ _ _ _ _).old _)) (by decide) (by first | (show _ ≤ _; omega) | (show _ ≤ _; simp; omega)) fun i x hx => ?_
    rcases i with _ | _ | _ | i
    · obtain rfl : (⟨[73, 78], [1]⟩ : Cat) = x := by simpa [vesselX] using hx
      exact ⟨[strV [73, 78], .slice (some ⟨w.heap.size + 1, 0, none⟩) 1 1], ⟨_, _, _, rfl, Sl.ofInts [1] ((((Blk.new1 w _ _ _).old _).old _).old _) (by decide) (by first | (show _ ≤ _; omega) | (show _ ≤ _; simp; omega)) (by decide), mlen (by decide)⟩, rfl, fun j u hu => by rcases j with _ | _ | j <;> simp_all⟩
    · obtain rfl : (⟨[79, 85, 84], [2]⟩ : Cat) = x := by simpa [vesselX] using hx
      exact ⟨[strV [79, 85, 84], .slice (some ⟨w.heap.size + 1 + 1, 0, none⟩) 1 1], ⟨_, _, _, rfl, Sl.ofInts [2] (((Blk.new2 w _ _ _ _).old _).old _) (by decide) (by first | (show _ ≤ _; omega) | (show _ ≤ _; simp; omega)) (by decide), mlen (by decide)⟩, rfl, fun j u hu => by rcases j with _ | _ | j <;> simp_all⟩
    · obtain rfl : (⟨[83, 85, 73, 84, 69], []⟩ : Cat) = x := by simpa [vesselX] using hx
      exact ⟨[strV [83, 85, 73, 84, 69], .slice none 0 0], ⟨_, _, _, rfl, Sl.nil _ _ _ _, mlen (by decide)⟩, rfl, fun j u hu => by rcases j with _ | _ | j <;> simp_all⟩
    · simp [vesselX] at hx
  · refine Sl.ofBlk (l := vesselX.cabs) (Blk.new4 w _ _ _ _ _ _) (by decide) (by first | (show _ ≤ _; omega) | (show _ ≤ _; simp; omega)) fun i x hx => ?_
    rcases i with _ | _ | _ | i
    · obtain rfl : (⟨[65, 49], 0, 2, false⟩ : Cab) = x := by simpa [vesselX] using hx
      exact ⟨[strV [65, 49], .int .i64 0, .int .i64 2, .bool false], ⟨rfl, mlen (by decide), .of (by decide) (by decide), .of (by decide) (by decide)⟩, rfl, fun j u hu => by rcases j with _ | _ | _ | _ | j <;> simp_all⟩
    · obtain rfl : (⟨[66, 49], 1, 4, true⟩ : Cab) = x := by simpa [vesselX] using hx
      exact ⟨[strV [66, 49], .int .i64 1, .int .i64 4, .bool true], ⟨rfl, mlen (by decide), .of (by decide) (by decide), .of (by decide) (by decide)⟩, rfl, fun j u hu => by rcases j with _ | _ | _ | _ | j <;> simp_all⟩
    · obtain rfl : (⟨[67, 49], 2, 2, false⟩ : Cab) = x := by simpa [vesselX] using hx
      exact ⟨[strV [67, 49], .int .i64 2, .int .i64 2, .bool false], ⟨rfl, mlen (by decide), .of (by decide) (by decide), .of (by decide) (by decide)⟩, rfl, fun j u hu => by rcases j with _ | _ | _ | _ | j <;> simp_all⟩
    · simp [vesselX] at hx
  · exact ((bel3 w _ _ _).alloc (by simp; omega) _).alloc (by simp; omega) _
set_option maxRecDepth 100000 in
set_option maxHeartbeats 2000000 in
theorem tableS_any (w : World) : Calls Tryz.prog 140 #[] w fun e w' => ∃ A n cap B m cap2, e = .returned (.agg #[.slice A n cap, .int .i64 50, .int .i64 33, .slice B m cap2, .int .i64 20]) ∧ Sl (slC intC 1) 1 w' (fun b => w.heap.size ≤ b) A n cap tableX.leg ∧ Sl bandC 2 w' (fun b => w.heap.size ≤ b) B m cap2 tableX.bands ∧ Below w.heap.size w w' := by
  go_enter Tryz.func140, Tryz.ntmps140
  go_wp2_with fail
  refine bodyPost_ret (v := .agg #[.slice (some ⟨w.heap.size + 1 + 1 + 1 + 1, 0, none⟩) 3 3, .int .i64 50, .int .i64 33, .slice (some ⟨w.heap.size + 1 + 1 + 1 + 1 + 1, 0, none⟩) 2 2, .int .i64 20]) (by simp [results, Tryz.results140, go_sem]) rfl ?_
  refine ⟨_, _, _, _, _, _, rfl, ?_, ?_, ?_⟩
  · refine Sl.ofBlk (l := tableX.leg) (((Blk.new4 w _ _ _ _ _ _).old _)) (by decide) (by first | (show _ ≤ _; omega) | (show _ ≤ _; simp; omega)) fun i x hx => ?_
    rcases i with _ | _ | _ | i
    · obtain rfl : [100, 200, 301] = x := by simpa [tableX] using hx
      exact ⟨[.slice (some ⟨w.heap.size + 1, 0, none⟩) 3 3], ⟨_, _, _, rfl, Sl.ofInts [100, 200, 301] (((((Blk.new1 w _ _ _).old _).old _).old _).old _) (by decide) (by first | (show _ ≤ _; omega) | (show _ ≤ _; simp; omega)) (by decide)⟩, rfl, fun j u hu => by rcases j with _ | j <;> simp_all⟩
    · obtain rfl : [150, 250, 350] = x := by simpa [tableX] using hx
      exact ⟨[.slice (some ⟨w.heap.size + 1 + 1, 0, none⟩) 3 3], ⟨_, _, _, rfl, Sl.ofInts [150, 250, 350] ((((Blk.new2 w _ _ _ _).old _).old _).old _) (by decide) (by first | (show _ ≤ _; omega) | (show _ ≤ _; simp; omega)) (by decide)⟩, rfl, fun j u hu => by rcases j with _ | j <;> simp_all⟩
    · obtain rfl : [500, 500, 500] = x := by simpa [tableX] using hx
      exact ⟨[.slice (some ⟨w.heap.size + 1 + 1 + 1, 0, none⟩) 3 3], ⟨_, _, _, rfl, Sl.ofInts [500, 500, 500] (((Blk.new3 w _ _ _ _ _).old _).old _) (by decide) (by first | (show _ ≤ _; omega) | (show _ ≤ _; simp; omega)) (by decide)⟩, rfl, fun j u hu => by rcases j with _ | j <;> simp_all⟩
    · simp [tableX] at hx
  · refine Sl.ofBlk (l := tableX.bands) (Blk.new5 w _ _ _ _ _ _ _) (by decide) (by first | (show _ ≤ _; omega) | (show _ ≤ _; simp; omega)) fun i x hx => ?_
    rcases i with _ | _ | i
    · simp [tableX] at hx; subst hx
      exact ⟨_, ⟨rfl, .of (by decide) (by decide), .of (by decide) (by decide)⟩, rfl, fun j u hu => by rcases j with _ | _ | j <;> simp_all⟩
    · simp [tableX] at hx; subst hx
      exact ⟨_, ⟨rfl, .of (by decide) (by decide), .of (by decide) (by decide)⟩, rfl, fun j u hu => by rcases j with _ | _ | j <;> simp_all⟩
    · simp [tableX] at hx
  · exact ((bel3 w _ _ _).alloc (by simp; omega) _ |>.alloc (by simp; omega) _).alloc (by simp; omega) _
theorem Blk.neTy {w : World} {a z : Nat} {xs ys : Array Value} {t u : TypeId} (h : Blk w a xs t) (h2 : Blk w z ys u) (hne : t ≠ u) : a ≠ z := fun e => by
  subst e
  have h : w.heap[a]? = some (.cells xs t (0, 0)) := h
  have h2 : w.heap[a]? = some (.cells ys u (0, 0)) := h2
  rw [h] at h2
  simp only [Option.some.injEq, Obj.cells.injEq] at h2
  exact hne h2.2.1
theorem newOf {n : Nat} {a w : World} (_ : Below n a w) (cs : Array Value) (t : TypeId) : Blk (w.alloc (.cells cs t)) w.heap.size cs t := Blk.new w cs t
def namedF : Bkg := { namedX with fol := [⟨1, 1, 1200⟩] }
def promisedF : Bkg := { promisedX with fol := [⟨1, 1, 1202⟩] }
def cruiseX : Sai := ⟨vesselX, tableX, 2, 40, [namedF, promisedF], false⟩
theorem sl_entryU {w : World} {e : Nat} {a b c : Int} (h : Blk w e #[.int .i64 a, .int .i64 b, .int .i64 c] 57) (ha : InI a) (hb : InI b) (hc : InI c) : Sl entryC 3 w All (some ⟨e, 0, none⟩) 1 1 [⟨a, b, c⟩] := by
  refine Sl.ofBlk (l := ([⟨a, b, c⟩] : List Entry)) h (by simp) trivial fun i x hx => ?_
  rcases i with _ | i
  · obtain rfl : (⟨a, b, c⟩ : Entry) = x := by simpa using hx
    exact ⟨[.int .i64 a, .int .i64 b, .int .i64 c], ⟨rfl, ha, hb, hc⟩, rfl, fun j u hu => by rcases j with _ | _ | _ | j <;> simp_all⟩
  · simp at hx
theorem bk_inF {b : Bkg} {f : List Entry} (h : BkIn b) : BkIn { b with fol := f } := ⟨h.id, h.kind, h.state, h.gst, h.cab, h.cat, h.frm, h.upto, h.til⟩
theorem keptRow {n : Nat} {a w : World} (_ : Below n a w) (z : Nat) (us : Array Value) : Kept (fun k => k = z) w (w.setRow z us) := (Kept.refl (fun k => k = z) w).setRow (.inl rfl) us
theorem sl_cruise {w : World} {q e1 e2 : Nat} (hL : Blk w q #[.int .i64 7, .int .i64 1, .int .i64 2, .int .i64 3, .bool false, .int .i64 1, .int .i64 0, .int .i64 1, .int .i64 3, .int .i64 0, .slice (some ⟨e1, 0, none⟩) 1 1, .int .i64 9, .int .i64 2, .int .i64 1, .int .i64 2, .bool false, .int .i64 (-1), .int .i64 0, .int .i64 0, .int .i64 3, .int .i64 4, .slice (some ⟨e2, 0, none⟩) 1 1] 37) (h1 : Blk w e1 #[.int .i64 1, .int .i64 1, .int .i64 1200] 57) (h2 : Blk w e2 #[.int .i64 1, .int .i64 1, .int .i64 1202] 57) : Sl bkgC 11 w All (some ⟨q, 0, none⟩) 2 2 [namedF, promisedF] := by
  refine Sl.ofBlk (l := [namedF, promisedF]) hL (by decide) trivial fun i x hx => ?_
  rcases i with _ | _ | i
  · obtain rfl : namedF = x := by simpa using hx
    exact ⟨[.int .i64 7, .int .i64 1, .int .i64 2, .int .i64 3, .bool false, .int .i64 1, .int .i64 0, .int .i64 1, .int .i64 3, .int .i64 0, .slice (some ⟨e1, 0, none⟩) 1 1], ⟨_, _, _, rfl, sl_entryU h1 (.of (by decide) (by decide)) (.of (by decide) (by decide)) (.of (by decide) (by decide)), bk_inF (bookX_in namedX (by simp [bookX])).1⟩, rfl, fun j u hu => by rcases j with _ | _ | _ | _ | _ | _ | _ | _ | _ | _ | _ | j <;> simp_all⟩
  · obtain rfl : promisedF = x := by simpa using hx
    exact ⟨[.int .i64 9, .int .i64 2, .int .i64 1, .int .i64 2, .bool false, .int .i64 (-1), .int .i64 0, .int .i64 0, .int .i64 3, .int .i64 4, .slice (some ⟨e2, 0, none⟩) 1 1], ⟨_, _, _, rfl, sl_entryU h2 (.of (by decide) (by decide)) (.of (by decide) (by decide)) (.of (by decide) (by decide)), bk_inF (bookX_in promisedX (by simp [bookX])).1⟩, rfl, fun j u hu => by rcases j with _ | _ | _ | _ | _ | _ | _ | _ | _ | _ | _ | j <;> simp_all⟩
  · simp at hx
theorem cruise_end {w W4 w6 : World} {A : Option Addr} {n cap : Nat} {B : Option Addr} {m cap2 : Nat} {D : Option Addr} {nd cd : Nat} {E : Option Addr} {ne ce z q e1 e2 : Nat} {zs : Array Value} (hz : w.heap.size ≤ z) (hb : Below w.heap.size w W4) (hbx : Below W4.heap.size W4 w6)
    (hL : Blk w6 q #[.int .i64 7, .int .i64 1, .int .i64 2, .int .i64 3, .bool false, .int .i64 1, .int .i64 0, .int .i64 1, .int .i64 3, .int .i64 0, .slice (some ⟨e1, 0, none⟩) 1 1, .int .i64 9, .int .i64 2, .int .i64 1, .int .i64 2, .bool false, .int .i64 (-1), .int .i64 0, .int .i64 0, .int .i64 3, .int .i64 4, .slice (some ⟨e2, 0, none⟩) 1 1] 37) (hc : Sl catC 2 w6 (fun b => b ≠ z) A n cap vesselX.cats) (hd : Sl cabC 4 w6 (fun b => b ≠ z) B m cap2 vesselX.cabs) (hf : Sl (slC intC 1) 1 w6 (fun b => b ≠ z) D nd cd tableX.leg) (hg : Sl bandC 2 w6 (fun b => b ≠ z) E ne ce tableX.bands)
    (h1 : Blk W4 e1 #[.int .i64 1, .int .i64 1, .int .i64 1200] 57) (h2 : Blk W4 e2 #[.int .i64 1, .int .i64 1, .int .i64 1202] 57) (hZ : Blk W4 z zs 32) (us : Array Value) :
    SaiR (w6.setRow z us) cruiseX ⟨A, n, cap, B, m, cap2, D, nd, cd, E, ne, ce, some ⟨q, 0, none⟩, 2, 2⟩ ∧ Below w.heap.size w (w6.setRow z us) := by
  have hK := keptRow hbx z us
  have hZ6 := hZ.bel hbx
  have h1 := h1.bel hbx
  have h2 := h2.bel hbx
  exact ⟨⟨(hc.kept hK (fun b _ hb e => hb e)).all catC_good (by omega), (hd.kept hK (fun b _ hb e => hb e)).all cabC_good (by omega), ⟨(hf.keep (S' := All) (slC_good intC_good (by omega)) (by omega) (fun b hb hlt => ⟨hK.block b hlt hb, trivial⟩)), (hg.kept hK (fun b _ hb e => hb e)).all bandC_good (by omega), .of (by decide) (by decide), .of (by decide) (by decide), .of (by decide) (by decide)⟩,
    sl_cruise (hL.rowOther (hL.neTy hZ6 (by decide)) _) (h1.rowOther (h1.neTy hZ6 (by decide)) _) (h2.rowOther (h2.neTy hZ6 (by decide)) _)⟩, (hb.trans (hbx.mono hb.size)).trans (hK.below (B := w.heap.size) (Nat.le_trans hb.size hbx.size) (fun k hk e => by omega))⟩
set_option maxRecDepth 100000 in
set_option maxHeartbeats 4000000 in
theorem cruise_any (w : World) : Calls Tryz.prog 83 #[] w fun e w' => ∃ p, e = .returned (.agg (saiA cruiseX p)) ∧ SaiR w' cruiseX p ∧ Below w.heap.size w w' := by
  go_enter Tryz.func83, Tryz.ntmps83
  go_wp2_with fail
  refine (namedL_any _).mono ?_
  rintro e w1 ⟨rfl, hb1⟩
  have hZ := (Blk.new w #[.int .i64 0, .int .i64 0, .slice none 0 0, .slice none 0 0, .slice none 0 0, .int .i64 0, .int .i64 0, .slice none 0 0, .int .i64 0, .int .i64 0, .int .i64 0, .slice none 0 0, .bool false] 32).bel hb1
  have hb := (bel1 w (.cells #[.int .i64 0, .int .i64 0, .slice none 0 0, .slice none 0 0, .slice none 0 0, .int .i64 0, .int .i64 0, .slice none 0 0, .int .i64 0, .int .i64 0, .int .i64 0, .slice none 0 0, .bool false] 32)).trans (hb1.mono (by simp))
  clear hb1
  go_wp2_with fail
  refine (promisedL_any _).mono ?_
  rintro e w2 ⟨rfl, hb1⟩
  replace hZ := hZ.bel hb1
  replace hb := hb.trans (hb1.mono hb.size)
  clear hb1
  have hs := hb.size
  have hzl := hZ.lt
  go_upto_region 3 with (fail)
  go_cut [0, 1, 2] (fun p p1 p2 wx => ∃ z a b e e', p = .pointer (some ⟨z, 0, none⟩) ∧ p1 = .pointer (some ⟨a, 0, none⟩) ∧ p2 = .pointer (some ⟨b, 0, none⟩) ∧ a ≠ b ∧ a ≠ z ∧ b ≠ z ∧ w.heap.size ≤ z ∧ w.heap.size ≤ a ∧ w.heap.size ≤ b ∧ Blk wx z #[.int .i64 0, .int .i64 0, .slice none 0 0, .slice none 0 0, .slice none 0 0, .int .i64 0, .int .i64 0, .slice none 0 0, .int .i64 0, .int .i64 0, .int .i64 0, .slice none 0 0, .bool false] 32 ∧ Blk wx a (bkgA namedX (.slice (some ⟨e, 0, none⟩) 1 1)) 37 ∧ Blk wx b (bkgA promisedX (.slice (some ⟨e', 0, none⟩) 1 1)) 37 ∧ Blk wx e #[.int .i64 1, .int .i64 1, .int .i64 1200] 57 ∧ Blk wx e' #[.int .i64 1, .int .i64 1, .int .i64 1202] 57 ∧ Below w.heap.size w wx)
  case first =>
    go_wp2_with fail
    go_meet
    exact ⟨_, _, _, _, _, rfl, rfl, rfl, by omega, by omega, by omega, Nat.le_refl _, by omega, by omega, ((((hZ.old _).old _).old _).old _), (((Blk.new w2 _ _).old _).old _).old _, ((Blk.new1 w2 _ _ _).old _).old _, (Blk.new2 w2 _ _ _ _).old _, Blk.new3 w2 _ _ _ _ _, (((hb.alloc hb.size _).alloc (by simp; omega) _).alloc (by simp; omega) _).alloc (by simp; omega) _⟩
  obtain ⟨z, a, b, e1, e2, rfl, rfl, rfl, hab, haz, hbz, hz, ha, hbb, hZ, hA, hB, hE1, hE2, hb⟩ := hcut
  obtain ⟨W4, hW4⟩ : ∃ V, V = wc := ⟨_, rfl⟩
  subst hW4
  have hzl := hZ.lt
  have HSX := Lib.hid (show ∀ X, Blk X a (bkgA namedX (.slice (some ⟨e1, 0, none⟩) 1 1)) 37 → Blk X b (bkgA promisedX (.slice (some ⟨e2, 0, none⟩) 1 1)) 37 → (fun w' => (w'.cell? ⟨a, 0, none⟩ = some (.int .i64 7) ∧ w'.cell? ⟨a, 1, none⟩ = some (.int .i64 1) ∧ w'.cell? ⟨a, 2, none⟩ = some (.int .i64 2) ∧ w'.cell? ⟨a, 3, none⟩ = some (.int .i64 3) ∧ w'.cell? ⟨a, 4, none⟩ = some (.bool false) ∧ w'.cell? ⟨a, 5, none⟩ = some (.int .i64 1) ∧ w'.cell? ⟨a, 6, none⟩ = some (.int .i64 0) ∧ w'.cell? ⟨a, 7, none⟩ = some (.int .i64 1) ∧ w'.cell? ⟨a, 8, none⟩ = some (.int .i64 3) ∧ w'.cell? ⟨a, 9, none⟩ = some (.int .i64 0) ∧ w'.cell? ⟨a, 10, none⟩ = some (.slice (some ⟨e1, 0, none⟩) 1 1)) ∧ (w'.cell? ⟨b, 0, none⟩ = some (.int .i64 9) ∧ w'.cell? ⟨b, 1, none⟩ = some (.int .i64 2) ∧ w'.cell? ⟨b, 2, none⟩ = some (.int .i64 1) ∧ w'.cell? ⟨b, 3, none⟩ = some (.int .i64 2) ∧ w'.cell? ⟨b, 4, none⟩ = some (.bool false) ∧ w'.cell? ⟨b, 5, none⟩ = some (.int .i64 (-1)) ∧ w'.cell? ⟨b, 6, none⟩ = some (.int .i64 0) ∧ w'.cell? ⟨b, 7, none⟩ = some (.int .i64 0) ∧ w'.cell? ⟨b, 8, none⟩ = some (.int .i64 3) ∧ w'.cell? ⟨b, 9, none⟩ = some (.int .i64 4) ∧ w'.cell? ⟨b, 10, none⟩ = some (.slice (some ⟨e2, 0, none⟩) 1 1))) X from fun X hX hY => ⟨⟨hX.cell rfl, hX.cell rfl, hX.cell rfl, hX.cell rfl, hX.cell rfl, hX.cell rfl, hX.cell rfl, hX.cell rfl, hX.cell rfl, hX.cell rfl, hX.cell rfl⟩, ⟨hY.cell rfl, hY.cell rfl, hY.cell rfl, hY.cell rfl, hY.cell rfl, hY.cell rfl, hY.cell rfl, hY.cell rfl, hY.cell rfl, hY.cell rfl, hY.cell rfl⟩⟩)
  have HA := Lib.hid (fun X (hX : Below W4.heap.size W4 X) => HSX.out X (hA.bel hX) (hB.bel hX))
  have HZ := Lib.hid hZ
  clear hZ
  have HB := Lib.hid hb
  clear hb
  have HE1 := Lib.hid hE1
  clear hE1
  have HE2 := Lib.hid hE2
  clear hE2
  have HAA := Lib.hid hA
  clear hA
  have HBB := Lib.hid hB
  clear hB
  go_wp2_with fail
  have hbx : Below W4.heap.size W4 W4.drew := (Below.refl _ W4).drew
  refine wp_region_held_drew (S := (fun w' => (w'.cell? ⟨a, 0, none⟩ = some (.int .i64 7) ∧ w'.cell? ⟨a, 1, none⟩ = some (.int .i64 1) ∧ w'.cell? ⟨a, 2, none⟩ = some (.int .i64 2) ∧ w'.cell? ⟨a, 3, none⟩ = some (.int .i64 3) ∧ w'.cell? ⟨a, 4, none⟩ = some (.bool false) ∧ w'.cell? ⟨a, 5, none⟩ = some (.int .i64 1) ∧ w'.cell? ⟨a, 6, none⟩ = some (.int .i64 0) ∧ w'.cell? ⟨a, 7, none⟩ = some (.int .i64 1) ∧ w'.cell? ⟨a, 8, none⟩ = some (.int .i64 3) ∧ w'.cell? ⟨a, 9, none⟩ = some (.int .i64 0) ∧ w'.cell? ⟨a, 10, none⟩ = some (.slice (some ⟨e1, 0, none⟩) 1 1)) ∧ (w'.cell? ⟨b, 0, none⟩ = some (.int .i64 9) ∧ w'.cell? ⟨b, 1, none⟩ = some (.int .i64 2) ∧ w'.cell? ⟨b, 2, none⟩ = some (.int .i64 1) ∧ w'.cell? ⟨b, 3, none⟩ = some (.int .i64 2) ∧ w'.cell? ⟨b, 4, none⟩ = some (.bool false) ∧ w'.cell? ⟨b, 5, none⟩ = some (.int .i64 (-1)) ∧ w'.cell? ⟨b, 6, none⟩ = some (.int .i64 0) ∧ w'.cell? ⟨b, 7, none⟩ = some (.int .i64 0) ∧ w'.cell? ⟨b, 8, none⟩ = some (.int .i64 3) ∧ w'.cell? ⟨b, 9, none⟩ = some (.int .i64 4) ∧ w'.cell? ⟨b, 10, none⟩ = some (.slice (some ⟨e2, 0, none⟩) 1 1)))) (by kernel_rfl) (HA.out _ hbx) (fun hHeld => ?_)
  refine wpAnyH_take (i := 2) (v := ?v9) (gA rfl) (by kernel_rfl) (by kernel_rfl) (by kernel_rfl) (fun _ _ _ h => h) (Or.inl ⟨rfl, ?y9⟩) (by assumption) ?_
  case y9 => (intro w hSw; (try dsimp only at hSw); go_simp <;> with_reducible rfl)
  simp only [Act.put, List.setIfInBounds_toArray, List.set_cons_zero, List.set_cons_succ]
  refine wpAnyH_take (i := 3) (v := ?v10) (gA rfl) (by kernel_rfl) (by kernel_rfl) (by kernel_rfl) (fun _ _ _ h => h) (Or.inl ⟨rfl, ?y10⟩) (by assumption) ?_
  case y10 => (intro w hSw; (try dsimp only at hSw); go_simp <;> with_reducible rfl)
  simp only [Act.put, List.setIfInBounds_toArray, List.set_cons_zero, List.set_cons_succ]
  refine wpAnyH_ready (rs := [0, 4]) (by kernel_rfl) (by simp) ?_
  refine AllReadyH.cons (gA rfl) (fun K hK => ?_) ?m_1
  case m_1 =>
    refine AllReadyH.cons (gA rfl) (fun K hK => ?_) AllReadyH.nil
    go_simp
    refine hK.out _ _ ?_ (fun hHeld => ?_)
    · exact HA.out _ (hbx.alloc hbx.size (.cells #[.int .i64 7, .int .i64 1, .int .i64 2, .int .i64 3, .bool false, .int .i64 1, .int .i64 0, .int .i64 1, .int .i64 3, .int .i64 0, .slice (some ⟨e1, 0, none⟩) 1 1, .int .i64 9, .int .i64 2, .int .i64 1, .int .i64 2, .bool false, .int .i64 (-1), .int .i64 0, .int .i64 0, .int .i64 3, .int .i64 4, .slice (some ⟨e2, 0, none⟩) 1 1] 37))
    clear hK K
    try simp only [Act.put, List.setIfInBounds_toArray, List.set_cons_zero, List.set_cons_succ]
    ((try replace hc := hc.bel (bel1 _ (.cells #[.int .i64 7, .int .i64 1, .int .i64 2, .int .i64 3, .bool false, .int .i64 1, .int .i64 0, .int .i64 1, .int .i64 3, .int .i64 0, .slice (some ⟨e1, 0, none⟩) 1 1, .int .i64 9, .int .i64 2, .int .i64 1, .int .i64 2, .bool false, .int .i64 (-1), .int .i64 0, .int .i64 0, .int .i64 3, .int .i64 4, .slice (some ⟨e2, 0, none⟩) 1 1] 37))); (try replace hd := hd.bel (bel1 _ (.cells #[.int .i64 7, .int .i64 1, .int .i64 2, .int .i64 3, .bool false, .int .i64 1, .int .i64 0, .int .i64 1, .int .i64 3, .int .i64 0, .slice (some ⟨e1, 0, none⟩) 1 1, .int .i64 9, .int .i64 2, .int .i64 1, .int .i64 2, .bool false, .int .i64 (-1), .int .i64 0, .int .i64 0, .int .i64 3, .int .i64 4, .slice (some ⟨e2, 0, none⟩) 1 1] 37))); (try replace hf := hf.bel (bel1 _ (.cells #[.int .i64 7, .int .i64 1, .int .i64 2, .int .i64 3, .bool false, .int .i64 1, .int .i64 0, .int .i64 1, .int .i64 3, .int .i64 0, .slice (some ⟨e1, 0, none⟩) 1 1, .int .i64 9, .int .i64 2, .int .i64 1, .int .i64 2, .bool false, .int .i64 (-1), .int .i64 0, .int .i64 0, .int .i64 3, .int .i64 4, .slice (some ⟨e2, 0, none⟩) 1 1] 37))); (try replace hg := hg.bel (bel1 _ (.cells #[.int .i64 7, .int .i64 1, .int .i64 2, .int .i64 3, .bool false, .int .i64 1, .int .i64 0, .int .i64 1, .int .i64 3, .int .i64 0, .slice (some ⟨e1, 0, none⟩) 1 1, .int .i64 9, .int .i64 2, .int .i64 1, .int .i64 2, .bool false, .int .i64 (-1), .int .i64 0, .int .i64 0, .int .i64 3, .int .i64 4, .slice (some ⟨e2, 0, none⟩) 1 1] 37))); have hL := newOf hbx #[.int .i64 7, .int .i64 1, .int .i64 2, .int .i64 3, .bool false, .int .i64 1, .int .i64 0, .int .i64 1, .int .i64 3, .int .i64 0, .slice (some ⟨e1, 0, none⟩) 1 1, .int .i64 9, .int .i64 2, .int .i64 1, .int .i64 2, .bool false, .int .i64 (-1), .int .i64 0, .int .i64 0, .int .i64 3, .int .i64 4, .slice (some ⟨e2, 0, none⟩) 1 1] 37; replace hbx := hbx.alloc hbx.size (.cells #[.int .i64 7, .int .i64 1, .int .i64 2, .int .i64 3, .bool false, .int .i64 1, .int .i64 0, .int .i64 1, .int .i64 3, .int .i64 0, .slice (some ⟨e1, 0, none⟩) 1 1, .int .i64 9, .int .i64 2, .int .i64 1, .int .i64 2, .bool false, .int .i64 (-1), .int .i64 0, .int .i64 0, .int .i64 3, .int .i64 4, .slice (some ⟨e2, 0, none⟩) 1 1] 37))
    refine wpAnyH_ready (rs := [0]) (by kernel_rfl) (by simp) ?_
    refine AllReadyH.cons (gA rfl) (fun K hK => ?_) AllReadyH.nil
    go_simp
    (go_at_call 128; refine (vesselS_any _).mono ?_; rintro e w5 ⟨A, n, cap, B, m, cap2, rfl, hc, hd, hb5⟩; (try replace hL := hL.bel hb5); replace hc := hc.keep (S' := fun b => b ≠ z) catC_good (by omega) (fun b hb _ => ⟨rfl, Ne.symm (Nat.ne_of_lt (Nat.lt_of_lt_of_le hzl (Nat.le_trans hbx.size hb)))⟩); replace hd := hd.keep (S' := fun b => b ≠ z) cabC_good (by omega) (fun b hb _ => ⟨rfl, Ne.symm (Nat.ne_of_lt (Nat.lt_of_lt_of_le hzl (Nat.le_trans hbx.size hb)))⟩); replace hbx := hbx.trans (hb5.mono hbx.size); clear hb5)
    go_wp2_with fail
    refine hK.out _ _ ?_ (fun hHeld => ?_)
    · exact HA.out _ hbx
    clear hK K
    try simp only [Act.put, List.setIfInBounds_toArray, List.set_cons_zero, List.set_cons_succ]
    refine wpAnyH_ready (rs := [1]) (by kernel_rfl) (by simp) ?_
    refine AllReadyH.cons (gA rfl) (fun K hK => ?_) AllReadyH.nil
    go_simp
    (go_at_call 140; refine (tableS_any _).mono ?_; rintro e w6 ⟨D, nd, cd, E, ne, ce, rfl, hf, hg, hb6⟩; (try replace hL := hL.bel hb6); replace hc := hc.bel hb6; replace hd := hd.bel hb6; replace hf := hf.keep (S' := fun b => b ≠ z) (slC_good intC_good (by omega)) (by omega) (fun b hb _ => ⟨rfl, Ne.symm (Nat.ne_of_lt (Nat.lt_of_lt_of_le hzl (Nat.le_trans hbx.size hb)))⟩); replace hg := hg.keep (S' := fun b => b ≠ z) bandC_good (by omega) (fun b hb _ => ⟨rfl, Ne.symm (Nat.ne_of_lt (Nat.lt_of_lt_of_le hzl (Nat.le_trans hbx.size hb)))⟩); replace hbx := hbx.trans (hb6.mono hbx.size); clear hb6)
    go_wp2_with fail
    refine hK.out _ _ ?_ (fun hHeld => ?_)
    · exact HA.out _ hbx
    clear hK K
    try simp only [Act.put, List.setIfInBounds_toArray, List.set_cons_zero, List.set_cons_succ]
    have hZ6 := HZ.out.bel hbx
    have hA6 := HAA.out.bel hbx
    have hB6 := HBB.out.bel hbx
    refine wpAnyH_take (i := 5) (v := ?v11) (gA rfl) (by kernel_rfl) (by kernel_rfl) (by kernel_rfl) (fun _ _ _ h => h) (Or.inl ⟨rfl, ?y11⟩) (by assumption) ?_
    case y11 => (intro w hSw; (try dsimp only at hSw); go_simp <;> with_reducible rfl)
    simp only [Act.put, List.setIfInBounds_toArray, List.set_cons_zero, List.set_cons_succ]
    refine wpAnyH_ready (rs := [6]) (by kernel_rfl) (by simp) (AllReadyH.cons (gA rfl) (fun K hK => ?_) AllReadyH.nil)
    (refine wp_store_row 32 (.tmp 0) (.tmp 16) rfl z (saiA cruiseX ⟨A, n, cap, B, m, cap2, D, nd, cd, E, ne, ce, some ⟨_, 0, none⟩, 2, 2⟩) rfl rfl 32 _ hZ6 (by kernel_rfl) rfl (by simp [Value.oneCell']) ?_)
    refine hK.out _ _ ?_ (fun hHeld => ?_)
    · exact HSX.out _ (hA6.rowOther haz _) (hB6.rowOther hbz _)
    clear hK K
    try simp only [Act.put, List.setIfInBounds_toArray, List.set_cons_zero, List.set_cons_succ]
    refine wpAnyH_done (by kernel_rfl) ?_ _
    go_wp2_with fail
    refine bodyPost_ret (v := .agg (saiA cruiseX ⟨A, n, cap, B, m, cap2, D, nd, cd, E, ne, ce, some ⟨_, 0, none⟩, 2, 2⟩)) ((hZ6.row _).ret (k := 0) (by kernel_rfl) rfl Tryz.underlying32 (by kernel_rfl) (by kernel_rfl)) rfl ?_
    exact ⟨_, rfl, cruise_end hz HB.out hbx hL hc hd hf hg HE1.out HE2.out HZ.out _⟩
  go_simp
  (go_at_call 128; refine (vesselS_any _).mono ?_; rintro e w5 ⟨A, n, cap, B, m, cap2, rfl, hc, hd, hb5⟩; (try replace hL := hL.bel hb5); replace hc := hc.keep (S' := fun b => b ≠ z) catC_good (by omega) (fun b hb _ => ⟨rfl, Ne.symm (Nat.ne_of_lt (Nat.lt_of_lt_of_le hzl (Nat.le_trans hbx.size hb)))⟩); replace hd := hd.keep (S' := fun b => b ≠ z) cabC_good (by omega) (fun b hb _ => ⟨rfl, Ne.symm (Nat.ne_of_lt (Nat.lt_of_lt_of_le hzl (Nat.le_trans hbx.size hb)))⟩); replace hbx := hbx.trans (hb5.mono hbx.size); clear hb5)
  go_wp2_with fail
  refine hK.out _ _ ?_ (fun hHeld => ?_)
  · exact HA.out _ hbx
  clear hK K
  try simp only [Act.put, List.setIfInBounds_toArray, List.set_cons_zero, List.set_cons_succ]
  refine wpAnyH_ready (rs := [1, 4]) (by kernel_rfl) (by simp) ?_
  refine AllReadyH.cons (gA rfl) (fun K hK => ?_) ?m_5
  case m_5 =>
    refine AllReadyH.cons (gA rfl) (fun K hK => ?_) AllReadyH.nil
    go_simp
    refine hK.out _ _ ?_ (fun hHeld => ?_)
    · exact HA.out _ (hbx.alloc hbx.size (.cells #[.int .i64 7, .int .i64 1, .int .i64 2, .int .i64 3, .bool false, .int .i64 1, .int .i64 0, .int .i64 1, .int .i64 3, .int .i64 0, .slice (some ⟨e1, 0, none⟩) 1 1, .int .i64 9, .int .i64 2, .int .i64 1, .int .i64 2, .bool false, .int .i64 (-1), .int .i64 0, .int .i64 0, .int .i64 3, .int .i64 4, .slice (some ⟨e2, 0, none⟩) 1 1] 37))
    clear hK K
    try simp only [Act.put, List.setIfInBounds_toArray, List.set_cons_zero, List.set_cons_succ]
    ((try replace hc := hc.bel (bel1 _ (.cells #[.int .i64 7, .int .i64 1, .int .i64 2, .int .i64 3, .bool false, .int .i64 1, .int .i64 0, .int .i64 1, .int .i64 3, .int .i64 0, .slice (some ⟨e1, 0, none⟩) 1 1, .int .i64 9, .int .i64 2, .int .i64 1, .int .i64 2, .bool false, .int .i64 (-1), .int .i64 0, .int .i64 0, .int .i64 3, .int .i64 4, .slice (some ⟨e2, 0, none⟩) 1 1] 37))); (try replace hd := hd.bel (bel1 _ (.cells #[.int .i64 7, .int .i64 1, .int .i64 2, .int .i64 3, .bool false, .int .i64 1, .int .i64 0, .int .i64 1, .int .i64 3, .int .i64 0, .slice (some ⟨e1, 0, none⟩) 1 1, .int .i64 9, .int .i64 2, .int .i64 1, .int .i64 2, .bool false, .int .i64 (-1), .int .i64 0, .int .i64 0, .int .i64 3, .int .i64 4, .slice (some ⟨e2, 0, none⟩) 1 1] 37))); (try replace hf := hf.bel (bel1 _ (.cells #[.int .i64 7, .int .i64 1, .int .i64 2, .int .i64 3, .bool false, .int .i64 1, .int .i64 0, .int .i64 1, .int .i64 3, .int .i64 0, .slice (some ⟨e1, 0, none⟩) 1 1, .int .i64 9, .int .i64 2, .int .i64 1, .int .i64 2, .bool false, .int .i64 (-1), .int .i64 0, .int .i64 0, .int .i64 3, .int .i64 4, .slice (some ⟨e2, 0, none⟩) 1 1] 37))); (try replace hg := hg.bel (bel1 _ (.cells #[.int .i64 7, .int .i64 1, .int .i64 2, .int .i64 3, .bool false, .int .i64 1, .int .i64 0, .int .i64 1, .int .i64 3, .int .i64 0, .slice (some ⟨e1, 0, none⟩) 1 1, .int .i64 9, .int .i64 2, .int .i64 1, .int .i64 2, .bool false, .int .i64 (-1), .int .i64 0, .int .i64 0, .int .i64 3, .int .i64 4, .slice (some ⟨e2, 0, none⟩) 1 1] 37))); have hL := newOf hbx #[.int .i64 7, .int .i64 1, .int .i64 2, .int .i64 3, .bool false, .int .i64 1, .int .i64 0, .int .i64 1, .int .i64 3, .int .i64 0, .slice (some ⟨e1, 0, none⟩) 1 1, .int .i64 9, .int .i64 2, .int .i64 1, .int .i64 2, .bool false, .int .i64 (-1), .int .i64 0, .int .i64 0, .int .i64 3, .int .i64 4, .slice (some ⟨e2, 0, none⟩) 1 1] 37; replace hbx := hbx.alloc hbx.size (.cells #[.int .i64 7, .int .i64 1, .int .i64 2, .int .i64 3, .bool false, .int .i64 1, .int .i64 0, .int .i64 1, .int .i64 3, .int .i64 0, .slice (some ⟨e1, 0, none⟩) 1 1, .int .i64 9, .int .i64 2, .int .i64 1, .int .i64 2, .bool false, .int .i64 (-1), .int .i64 0, .int .i64 0, .int .i64 3, .int .i64 4, .slice (some ⟨e2, 0, none⟩) 1 1] 37))
    refine wpAnyH_ready (rs := [1]) (by kernel_rfl) (by simp) ?_
    refine AllReadyH.cons (gA rfl) (fun K hK => ?_) AllReadyH.nil
    go_simp
    (go_at_call 140; refine (tableS_any _).mono ?_; rintro e w6 ⟨D, nd, cd, E, ne, ce, rfl, hf, hg, hb6⟩; (try replace hL := hL.bel hb6); replace hc := hc.bel hb6; replace hd := hd.bel hb6; replace hf := hf.keep (S' := fun b => b ≠ z) (slC_good intC_good (by omega)) (by omega) (fun b hb _ => ⟨rfl, Ne.symm (Nat.ne_of_lt (Nat.lt_of_lt_of_le hzl (Nat.le_trans hbx.size hb)))⟩); replace hg := hg.keep (S' := fun b => b ≠ z) bandC_good (by omega) (fun b hb _ => ⟨rfl, Ne.symm (Nat.ne_of_lt (Nat.lt_of_lt_of_le hzl (Nat.le_trans hbx.size hb)))⟩); replace hbx := hbx.trans (hb6.mono hbx.size); clear hb6)
    go_wp2_with fail
    refine hK.out _ _ ?_ (fun hHeld => ?_)
    · exact HA.out _ hbx
    clear hK K
    try simp only [Act.put, List.setIfInBounds_toArray, List.set_cons_zero, List.set_cons_succ]
    have hZ6 := HZ.out.bel hbx
    have hA6 := HAA.out.bel hbx
    have hB6 := HBB.out.bel hbx
    refine wpAnyH_take (i := 5) (v := ?v13) (gA rfl) (by kernel_rfl) (by kernel_rfl) (by kernel_rfl) (fun _ _ _ h => h) (Or.inl ⟨rfl, ?y13⟩) (by assumption) ?_
    case y13 => (intro w hSw; (try dsimp only at hSw); go_simp <;> with_reducible rfl)
    simp only [Act.put, List.setIfInBounds_toArray, List.set_cons_zero, List.set_cons_succ]
    refine wpAnyH_ready (rs := [6]) (by kernel_rfl) (by simp) (AllReadyH.cons (gA rfl) (fun K hK => ?_) AllReadyH.nil)
    (refine wp_store_row 32 (.tmp 0) (.tmp 16) rfl z (saiA cruiseX ⟨A, n, cap, B, m, cap2, D, nd, cd, E, ne, ce, some ⟨_, 0, none⟩, 2, 2⟩) rfl rfl 32 _ hZ6 (by kernel_rfl) rfl (by simp [Value.oneCell']) ?_)
    refine hK.out _ _ ?_ (fun hHeld => ?_)
    · exact HSX.out _ (hA6.rowOther haz _) (hB6.rowOther hbz _)
    clear hK K
    try simp only [Act.put, List.setIfInBounds_toArray, List.set_cons_zero, List.set_cons_succ]
    refine wpAnyH_done (by kernel_rfl) ?_ _
    go_wp2_with fail
    refine bodyPost_ret (v := .agg (saiA cruiseX ⟨A, n, cap, B, m, cap2, D, nd, cd, E, ne, ce, some ⟨_, 0, none⟩, 2, 2⟩)) ((hZ6.row _).ret (k := 0) (by kernel_rfl) rfl Tryz.underlying32 (by kernel_rfl) (by kernel_rfl)) rfl ?_
    exact ⟨_, rfl, cruise_end hz HB.out hbx hL hc hd hf hg HE1.out HE2.out HZ.out _⟩
  go_simp
  (go_at_call 140; refine (tableS_any _).mono ?_; rintro e w6 ⟨D, nd, cd, E, ne, ce, rfl, hf, hg, hb6⟩; (try replace hL := hL.bel hb6); replace hc := hc.bel hb6; replace hd := hd.bel hb6; replace hf := hf.keep (S' := fun b => b ≠ z) (slC_good intC_good (by omega)) (by omega) (fun b hb _ => ⟨rfl, Ne.symm (Nat.ne_of_lt (Nat.lt_of_lt_of_le hzl (Nat.le_trans hbx.size hb)))⟩); replace hg := hg.keep (S' := fun b => b ≠ z) bandC_good (by omega) (fun b hb _ => ⟨rfl, Ne.symm (Nat.ne_of_lt (Nat.lt_of_lt_of_le hzl (Nat.le_trans hbx.size hb)))⟩); replace hbx := hbx.trans (hb6.mono hbx.size); clear hb6)
  go_wp2_with fail
  refine hK.out _ _ ?_ (fun hHeld => ?_)
  · exact HA.out _ hbx
  clear hK K
  try simp only [Act.put, List.setIfInBounds_toArray, List.set_cons_zero, List.set_cons_succ]
  refine wpAnyH_ready (rs := [4]) (by kernel_rfl) (by simp) ?_
  refine AllReadyH.cons (gA rfl) (fun K hK => ?_) AllReadyH.nil
  go_simp
  refine hK.out _ _ ?_ (fun hHeld => ?_)
  · exact HA.out _ (hbx.alloc hbx.size (.cells #[.int .i64 7, .int .i64 1, .int .i64 2, .int .i64 3, .bool false, .int .i64 1, .int .i64 0, .int .i64 1, .int .i64 3, .int .i64 0, .slice (some ⟨e1, 0, none⟩) 1 1, .int .i64 9, .int .i64 2, .int .i64 1, .int .i64 2, .bool false, .int .i64 (-1), .int .i64 0, .int .i64 0, .int .i64 3, .int .i64 4, .slice (some ⟨e2, 0, none⟩) 1 1] 37))
  clear hK K
  try simp only [Act.put, List.setIfInBounds_toArray, List.set_cons_zero, List.set_cons_succ]
  ((try replace hc := hc.bel (bel1 _ (.cells #[.int .i64 7, .int .i64 1, .int .i64 2, .int .i64 3, .bool false, .int .i64 1, .int .i64 0, .int .i64 1, .int .i64 3, .int .i64 0, .slice (some ⟨e1, 0, none⟩) 1 1, .int .i64 9, .int .i64 2, .int .i64 1, .int .i64 2, .bool false, .int .i64 (-1), .int .i64 0, .int .i64 0, .int .i64 3, .int .i64 4, .slice (some ⟨e2, 0, none⟩) 1 1] 37))); (try replace hd := hd.bel (bel1 _ (.cells #[.int .i64 7, .int .i64 1, .int .i64 2, .int .i64 3, .bool false, .int .i64 1, .int .i64 0, .int .i64 1, .int .i64 3, .int .i64 0, .slice (some ⟨e1, 0, none⟩) 1 1, .int .i64 9, .int .i64 2, .int .i64 1, .int .i64 2, .bool false, .int .i64 (-1), .int .i64 0, .int .i64 0, .int .i64 3, .int .i64 4, .slice (some ⟨e2, 0, none⟩) 1 1] 37))); (try replace hf := hf.bel (bel1 _ (.cells #[.int .i64 7, .int .i64 1, .int .i64 2, .int .i64 3, .bool false, .int .i64 1, .int .i64 0, .int .i64 1, .int .i64 3, .int .i64 0, .slice (some ⟨e1, 0, none⟩) 1 1, .int .i64 9, .int .i64 2, .int .i64 1, .int .i64 2, .bool false, .int .i64 (-1), .int .i64 0, .int .i64 0, .int .i64 3, .int .i64 4, .slice (some ⟨e2, 0, none⟩) 1 1] 37))); (try replace hg := hg.bel (bel1 _ (.cells #[.int .i64 7, .int .i64 1, .int .i64 2, .int .i64 3, .bool false, .int .i64 1, .int .i64 0, .int .i64 1, .int .i64 3, .int .i64 0, .slice (some ⟨e1, 0, none⟩) 1 1, .int .i64 9, .int .i64 2, .int .i64 1, .int .i64 2, .bool false, .int .i64 (-1), .int .i64 0, .int .i64 0, .int .i64 3, .int .i64 4, .slice (some ⟨e2, 0, none⟩) 1 1] 37))); have hL := newOf hbx #[.int .i64 7, .int .i64 1, .int .i64 2, .int .i64 3, .bool false, .int .i64 1, .int .i64 0, .int .i64 1, .int .i64 3, .int .i64 0, .slice (some ⟨e1, 0, none⟩) 1 1, .int .i64 9, .int .i64 2, .int .i64 1, .int .i64 2, .bool false, .int .i64 (-1), .int .i64 0, .int .i64 0, .int .i64 3, .int .i64 4, .slice (some ⟨e2, 0, none⟩) 1 1] 37; replace hbx := hbx.alloc hbx.size (.cells #[.int .i64 7, .int .i64 1, .int .i64 2, .int .i64 3, .bool false, .int .i64 1, .int .i64 0, .int .i64 1, .int .i64 3, .int .i64 0, .slice (some ⟨e1, 0, none⟩) 1 1, .int .i64 9, .int .i64 2, .int .i64 1, .int .i64 2, .bool false, .int .i64 (-1), .int .i64 0, .int .i64 0, .int .i64 3, .int .i64 4, .slice (some ⟨e2, 0, none⟩) 1 1] 37))
  have hZ6 := HZ.out.bel hbx
  have hA6 := HAA.out.bel hbx
  have hB6 := HBB.out.bel hbx
  refine wpAnyH_take (i := 5) (v := ?v15) (gA rfl) (by kernel_rfl) (by kernel_rfl) (by kernel_rfl) (fun _ _ _ h => h) (Or.inl ⟨rfl, ?y15⟩) (by assumption) ?_
  case y15 => (intro w hSw; (try dsimp only at hSw); go_simp <;> with_reducible rfl)
  simp only [Act.put, List.setIfInBounds_toArray, List.set_cons_zero, List.set_cons_succ]
  refine wpAnyH_ready (rs := [6]) (by kernel_rfl) (by simp) (AllReadyH.cons (gA rfl) (fun K hK => ?_) AllReadyH.nil)
  (refine wp_store_row 32 (.tmp 0) (.tmp 16) rfl z (saiA cruiseX ⟨A, n, cap, B, m, cap2, D, nd, cd, E, ne, ce, some ⟨_, 0, none⟩, 2, 2⟩) rfl rfl 32 _ hZ6 (by kernel_rfl) rfl (by simp [Value.oneCell']) ?_)
  refine hK.out _ _ ?_ (fun hHeld => ?_)
  · exact HSX.out _ (hA6.rowOther haz _) (hB6.rowOther hbz _)
  clear hK K
  try simp only [Act.put, List.setIfInBounds_toArray, List.set_cons_zero, List.set_cons_succ]
  refine wpAnyH_done (by kernel_rfl) ?_ _
  go_wp2_with fail
  refine bodyPost_ret (v := .agg (saiA cruiseX ⟨A, n, cap, B, m, cap2, D, nd, cd, E, ne, ce, some ⟨_, 0, none⟩, 2, 2⟩)) ((hZ6.row _).ret (k := 0) (by kernel_rfl) rfl Tryz.underlying32 (by kernel_rfl) (by kernel_rfl)) rfl ?_
  exact ⟨_, rfl, cruise_end hz HB.out hbx hL hc hd hf hg HE1.out HE2.out HZ.out _⟩
end Go.Proofs.YtoilcdgpeilgaaaGreat
namespace Go.Proofs.YtoilcdgpeilgaaaGreat
open Go.RowKit Go.Shelf
set_option maxRecDepth 100000 in
set_option maxHeartbeats 8000000 in
theorem Promises_any (x : Sai) (p : SaiV) (w : World) (h : SaiR w x p) :
    Calls Tryz.prog 66 #[.agg (saiA x p)] w fun e w' => ∃ v1 v2 xs1 xs2, e = .returned (.tuple #[v1, v2, .int .i64 (saiE x)]) ∧ Own intC 1 3 w' w.heap.size v1 (okL (saiE x) (idsL x)) xs1 ∧ Own edgC 2 115 w' w.heap.size v2 (okL (saiE x) (edgL x)) xs2 ∧ Below w.heap.size w w' := by
  have HCK := Lib.hid (fun W h => saiCheck_any x p W h)
  have HOP := Lib.hid (fun W h (hb : OkBs x) => Open_any x p W h hb.ship hb.bk hb.len)
  have HS := Lib.hid h
  obtain ⟨A, n, cap, B, m, cap2, D, nd, cd, E, ne, ce, C, nb, cb⟩ := p
  obtain ⟨r, hr⟩ : ∃ r, r = saiE x := ⟨_, rfl⟩
  rw [← hr] at HCK
  rw [← hr]
  have HR := Lib.hid hr
  clear hr
  clear h
  go_enter Tryz.func66, Tryz.ntmps66
  go_upto_region 0 with (fail)
  go_cut [1, 2, 3, 4] (fun q _ _ _ wx => ∃ g, q = .pointer (some ⟨g, 0, none⟩) ∧ Blk wx g (saiA x ⟨A, n, cap, B, m, cap2, D, nd, cd, E, ne, ce, C, nb, cb⟩) 32 ∧ Below w.heap.size w wx)
  case first => as_aux_lemma =>
    go_wp2_with fail
    go_meet
    exact ⟨_, rfl, blk1 _ _, bel1 _ _⟩
  obtain ⟨g, rfl, hG, hbw⟩ := hcut
  have s0 : wc.cell? ⟨g, 0, none⟩ = some (.int .i64 x.ship.legs) := hG.cell rfl
  have s1 : wc.cell? ⟨g, 1, none⟩ = some (.int .i64 x.ship.souls) := hG.cell rfl
  have s2 : wc.cell? ⟨g, 2, none⟩ = some (.slice A n cap) := hG.cell rfl
  have s3 : wc.cell? ⟨g, 3, none⟩ = some (.slice B m cap2) := hG.cell rfl
  have s4 : wc.cell? ⟨g, 4, none⟩ = some (.slice D nd cd) := hG.cell rfl
  have s5 : wc.cell? ⟨g, 5, none⟩ = some (.int .i64 x.fares.alone) := hG.cell rfl
  have s6 : wc.cell? ⟨g, 6, none⟩ = some (.int .i64 x.fares.third) := hG.cell rfl
  have s7 : wc.cell? ⟨g, 7, none⟩ = some (.slice E ne ce) := hG.cell rfl
  have s8 : wc.cell? ⟨g, 8, none⟩ = some (.int .i64 x.fares.down) := hG.cell rfl
  have s9 : wc.cell? ⟨g, 9, none⟩ = some (.int .i64 x.day) := hG.cell rfl
  have s10 : wc.cell? ⟨g, 10, none⟩ = some (.int .i64 x.leaves) := hG.cell rfl
  have s11 : wc.cell? ⟨g, 11, none⟩ = some (.slice C nb cb) := hG.cell rfl
  have s12 : wc.cell? ⟨g, 12, none⟩ = some (.bool x.closed) := hG.cell rfl
  have HCALL := Lib.hid (HCK.out wc (HS.out.bel hbw))
  go_wp2_with fail
  refine HCALL.out.mono ?_
  rintro e w2 ⟨rfl, hb2⟩
  replace hG := hG.bel hb2
  replace hbw := hbw.trans (hb2.mono hbw.size)
  clear hb2 s0 s1 s2 s3 s4 s5 s6 s7 s8 s9 s10 s11 s12 HCALL HCK
  by_cases h0 : r = 0
  rotate_left
  · have h0' : (r != 0) = true := by simpa using h0
    have H0 := Lib.hid h0
    clear h0 hG
    go_wp2_with fail
    go_ret3
    exact ⟨_, _, [], [], rfl, Own.nilE H0.out, Own.nilE H0.out, hbw⟩
  subst h0
  have HOK := Lib.hid (sai_ok HR.out.symm)
  have s0 : w2.cell? ⟨g, 0, none⟩ = some (.int .i64 x.ship.legs) := hG.cell rfl
  have s1 : w2.cell? ⟨g, 1, none⟩ = some (.int .i64 x.ship.souls) := hG.cell rfl
  have s2 : w2.cell? ⟨g, 2, none⟩ = some (.slice A n cap) := hG.cell rfl
  have s3 : w2.cell? ⟨g, 3, none⟩ = some (.slice B m cap2) := hG.cell rfl
  have s4 : w2.cell? ⟨g, 4, none⟩ = some (.slice D nd cd) := hG.cell rfl
  have s5 : w2.cell? ⟨g, 5, none⟩ = some (.int .i64 x.fares.alone) := hG.cell rfl
  have s6 : w2.cell? ⟨g, 6, none⟩ = some (.int .i64 x.fares.third) := hG.cell rfl
  have s7 : w2.cell? ⟨g, 7, none⟩ = some (.slice E ne ce) := hG.cell rfl
  have s8 : w2.cell? ⟨g, 8, none⟩ = some (.int .i64 x.fares.down) := hG.cell rfl
  have s9 : w2.cell? ⟨g, 9, none⟩ = some (.int .i64 x.day) := hG.cell rfl
  have s10 : w2.cell? ⟨g, 10, none⟩ = some (.int .i64 x.leaves) := hG.cell rfl
  have s11 : w2.cell? ⟨g, 11, none⟩ = some (.slice C nb cb) := hG.cell rfl
  have s12 : w2.cell? ⟨g, 12, none⟩ = some (.bool x.closed) := hG.cell rfl
  have HCALL := Lib.hid (HOP.out w2 (HS.out.bel hbw) HOK.out.bs)
  have hsz := hbw.size
  clear hG HOP
  go_wp2_with fail
  refine HCALL.out.mono ?_
  rintro e w3 ⟨v1, v2, xs1, xs2, rfl, hO1, hO2, hb3⟩
  obtain ⟨A1, n1, c1, rfl, _⟩ := hO1.sl intC_good
  obtain ⟨A2, n2, c2, rfl, _⟩ := hO2.sl edgC_good
  have HO1 := Lib.hid (hO1.mono intC_good hsz)
  have HO2 := Lib.hid (hO2.mono edgC_good hsz)
  clear hO1 hO2
  go_wp2_with fail
  go_ret3
  exact ⟨_, _, xs1, xs2, rfl, HO1.out, HO2.out, hbw.trans (hb3.mono hbw.size)⟩
noncomputable def freeE (x : Sai) (c : Int) : Int := if saiE x ≠ 0 then saiE x else if betB c 0 ((x.ship.cabs.length : Int) - 1) = false then 3 else 0
set_option maxRecDepth 100000 in
set_option maxHeartbeats 8000000 in
theorem stockFree_any (x : Sai) (p : SaiV) (c : Int) (w : World) (h : SaiR w x p) :
    Calls Tryz.prog 67 #[.agg (saiA x p), .int .i64 c] w fun e w' => ∃ v xs, e = .returned (.tuple #[v, .int .i64 (freeE x c)]) ∧ Own spanC 2 34 w' w.heap.size v (okL (freeE x c) (gapsL (takL x.bks c) x.ship.legs)) xs ∧ Below w.heap.size w w' := by
  have HCK := Lib.hid (fun W h => saiCheck_any x p W h)
  have HS := Lib.hid h
  obtain ⟨A, n, cap, B, m, cap2, D, nd, cd, E, ne, ce, C, nb, cb⟩ := p
  have hl : Sl bkgC 11 w All C nb cb x.bks := h.bks
  have hd : Sl cabC 4 w All B m cap2 x.ship.cabs := h.cabs
  have HTK := Lib.hid (fun W hW (hb : OkBs x) => Taken_any C nb cb x.bks c W hW (spOk_of hb.ship hb.bk) (by have := hb.len; rw [hl.len] at this; omega))
  have hmb := hd.bd
  obtain ⟨r, hr⟩ : ∃ r, r = freeE x c := ⟨_, rfl⟩
  rw [← hr]
  obtain ⟨se, hse⟩ : ∃ q, q = saiE x := ⟨_, rfl⟩
  have HR := Lib.hid (show r = if se ≠ 0 then se else if betB c 0 ((m : Int) - 1) = false then 3 else 0 by rw [hr, hse, ← hd.len]; rfl)
  rw [← hse] at HCK
  have HSE := Lib.hid hse
  clear hse
  obtain ⟨tl, htl⟩ : ∃ q, q = takL x.bks c := ⟨_, rfl⟩
  rw [← htl] at HTK
  rw [← htl]
  have HTL := Lib.hid htl
  clear htl
  have HL := Lib.hid hl
  clear h hl hd hr
  go_enter Tryz.func67, Tryz.ntmps67
  go_upto_region 0 with (fail)
  go_cut [2, 4, 5] (fun q _ _ wx => ∃ g, q = .pointer (some ⟨g, 0, none⟩) ∧ Blk wx g (saiA x ⟨A, n, cap, B, m, cap2, D, nd, cd, E, ne, ce, C, nb, cb⟩) 32 ∧ Below w.heap.size w wx)
  case first => as_aux_lemma =>
    go_wp2_with fail
    go_meet
    exact ⟨_, rfl, blk1 _ _, bel1 _ _⟩
  obtain ⟨g, rfl, hG, hbw⟩ := hcut
  have s0 : wc.cell? ⟨g, 0, none⟩ = some (.int .i64 x.ship.legs) := hG.cell rfl
  have s1 : wc.cell? ⟨g, 1, none⟩ = some (.int .i64 x.ship.souls) := hG.cell rfl
  have s2 : wc.cell? ⟨g, 2, none⟩ = some (.slice A n cap) := hG.cell rfl
  have s3 : wc.cell? ⟨g, 3, none⟩ = some (.slice B m cap2) := hG.cell rfl
  have s4 : wc.cell? ⟨g, 4, none⟩ = some (.slice D nd cd) := hG.cell rfl
  have s5 : wc.cell? ⟨g, 5, none⟩ = some (.int .i64 x.fares.alone) := hG.cell rfl
  have s6 : wc.cell? ⟨g, 6, none⟩ = some (.int .i64 x.fares.third) := hG.cell rfl
  have s7 : wc.cell? ⟨g, 7, none⟩ = some (.slice E ne ce) := hG.cell rfl
  have s8 : wc.cell? ⟨g, 8, none⟩ = some (.int .i64 x.fares.down) := hG.cell rfl
  have s9 : wc.cell? ⟨g, 9, none⟩ = some (.int .i64 x.day) := hG.cell rfl
  have s10 : wc.cell? ⟨g, 10, none⟩ = some (.int .i64 x.leaves) := hG.cell rfl
  have s11 : wc.cell? ⟨g, 11, none⟩ = some (.slice C nb cb) := hG.cell rfl
  have s12 : wc.cell? ⟨g, 12, none⟩ = some (.bool x.closed) := hG.cell rfl
  have HCALL := Lib.hid (HCK.out wc (HS.out.bel hbw))
  go_wp2_with fail
  refine HCALL.out.mono ?_
  rintro e w2 ⟨rfl, hb2⟩
  replace hG := hG.bel hb2
  replace hbw := hbw.trans (hb2.mono hbw.size)
  clear hb2 s0 s1 s2 s3 s4 s5 s6 s7 s8 s9 s10 s11 s12 HCALL HCK
  by_cases h0 : se = 0
  rotate_left
  · obtain rfl : r = se := by rw [HR.out, if_pos h0]
    have h0' : (r != 0) = true := by simpa using h0
    have H0 := Lib.hid h0
    clear h0 hG
    go_wp2_with fail
    go_ret2
    exact ⟨_, [], rfl, Own.nilE H0.out, hbw⟩
  have HR2 := Lib.hid (HR.out.trans (if_neg (by rw [h0]; simp)))
  have HOK := Lib.hid (sai_ok (HSE.out.symm.trans h0))
  subst h0
  have s3 : w2.cell? ⟨g, 3, none⟩ = some (.slice B m cap2) := hG.cell rfl
  by_cases hc0 : c < 0
  · obtain rfl : r = 3 := HR2.out.trans (if_pos (betB_false (.inl hc0)))
    clear hG
    go_wp2_with fail
    go_ret2
    exact ⟨_, [], rfl, Own.nilE (by decide), hbw⟩
  by_cases hc1 : (m : Int) ≤ c
  · obtain rfl : r = 3 := HR2.out.trans (if_pos (betB_false (.inr (by omega))))
    clear hG
    go_wp2_with fail
    go_ret2
    exact ⟨_, [], rfl, Own.nilE (by decide), hbw⟩
  obtain rfl : r = 0 := HR2.out.trans (if_neg (by rw [betB_true (by omega) (by omega)]; simp))
  have s11 : w2.cell? ⟨g, 11, none⟩ = some (.slice C nb cb) := hG.cell rfl
  have HCALL := Lib.hid (HTK.out w2 (HL.out.bel hbw) HOK.out.bs)
  have hsz := hbw.size
  have HGG := Lib.hid hG
  clear hG
  go_wp2_with fail
  refine HCALL.out.mono ?_
  rintro e w3 ⟨v1, xs1, rfl, hO1, hb3⟩
  obtain ⟨A1, n1, c1, rfl, hs1⟩ := hO1.sl spanC_good
  have hG := HGG.out.bel hb3
  replace hbw := hbw.trans (hb3.mono hbw.size)
  have s0 : w3.cell? ⟨g, 0, none⟩ = some (.int .i64 x.ship.legs) := hG.cell rfl
  have hlg := shp_legs HOK.out.bs.ship
  have hln : tl.length ≤ 1000 := by
    rw [HTL.out]
    unfold takL
    cases hq : spF (spL x.bks c) with
    | none => simp
    | some o =>
      have := (spF_len (spL_ok (spOk_of HOK.out.bs.ship HOK.out.bs.bk)) hq).1
      simp only [Option.getD_some]; omega
  have HCALL2 := Lib.hid (Gaps_any A1 n1 c1 tl x.ship.legs w3 (hs1.all spanC_good (by omega)) hln (.of (by omega) (by omega)))
  clear hO1 hs1 hb3 HCALL hlg hln hG s3 s11
  have hsz := hbw.size
  go_wp2_with fail
  refine HCALL2.out.mono ?_
  rintro e w4 ⟨v2, xs2, rfl, hO2, hb4⟩
  obtain ⟨A2, n2, c2, rfl, _⟩ := hO2.sl spanC_good
  have HO2 := Lib.hid (hO2.mono spanC_good hsz)
  clear hO2
  go_wp2_with fail
  go_ret2
  exact ⟨_, xs2, rfl, HO2.out, hbw.trans (hb4.mono hbw.size)⟩
end Go.Proofs.YtoilcdgpeilgaaaGreat
