/-
  Words, laws and contracts: StockU, StockV.
-/
import Derived.Test.YtoilcdgpeilgaaaGreatBun18
import Derived.BigQuiet
set_option linter.unusedSimpArgs false
set_option linter.unusedVariables false
namespace Go.Proofs.YtoilcdgpeilgaaaGreat
open Go.RowKit Go.Shelf
set_option maxRecDepth 100000 in
set_option maxHeartbeats 2000000 in
theorem vesselS_any (w : World) : Calls Tryz.prog 128 #[] w fun e w' => ∃ A n cap B m cap2, e = .returned (.agg #[.int .i64 vesselX.legs, .int .i64 vesselX.souls, .slice A n cap, .slice B m cap2]) ∧ Sl catC 2 w' (fun b => w.heap.size ≤ b) A n cap vesselX.cats ∧ Sl cabC 4 w' (fun b => w.heap.size ≤ b) B m cap2 vesselX.cabs ∧ Below w.heap.size w w' := by
  go_enter Tryz.func128, Tryz.ntmps128
  go_wp2_with fail
  refine bodyPost_ret (v := .agg #[.int .i64 3, .int .i64 6, .slice (some ⟨w.heap.size + 1 + 1 + 1, 0, none⟩) 3 3, .slice (some ⟨w.heap.size + 1 + 1 + 1 + 1, 0, none⟩) 3 3]) (by simp [results, Tryz.results128, go_sem]) rfl ?_
  refine ⟨_, _, _, _, _, _, rfl, ?_, ?_, ?_⟩
  · refine Sl.ofBlk (l := vesselX.cats) (((Blk.new3 w _ _ _ _ _).old _)) (by decide) (by first | (show _ ≤ _; omega) | (show _ ≤ _; simp; omega)) fun i x hx => ?_
    rcases i with _ | _ | _ | i
    · obtain rfl : (⟨[73, 78], [1]⟩ : Cat) = x := by simpa [vesselX] using hx
      exact ⟨[strV [73, 78], .slice (some ⟨w.heap.size + 1, 0, none⟩) 1 1], ⟨_, _, _, rfl, Sl.ofInts [1] ((((Blk.new1 w _ _ _).old _).old _).old _) (by decide) (by first | (show _ ≤ _; omega) | (show _ ≤ _; simp; omega)) (by decide), mlen (by decide)⟩, rfl, fun j u hu => by rcases j with _ | _ | j <;> simp_all⟩
    · obtain rfl : (⟨[79, 85, 84], [2]⟩ : Cat) = x := by simpa [vesselX] using hx
      exact ⟨[strV [79, 85, 84], .slice (some ⟨w.heap.size + 1 + 1, 0, none⟩) 1 1], ⟨_, _, _, rfl, Sl.ofInts [2] (((Blk.new2 w _ _ _ _).old _).old _) (by decide) (by first | (show _ ≤ _; omega) | (show _ ≤ _; simp; omega)) (by decide), mlen (by decide)⟩, rfl, fun j u hu => by rcases j with _ | _ | j <;> simp_all⟩
    · obtain rfl : (⟨[83, 85, 73, 84, 69], []⟩ : Cat) = x := by simpa [vesselX] using hx
      exact ⟨[strV [83, 85, 73, 84, 69], .slice none 0 0], ⟨_, _, _, rfl, Sl.nil _ _ _ _, mlen (by decide)⟩, rfl, fun j u hu => by rcases j with _ | _ | j <;> simp_all⟩
    · simp [vesselX] at hx
  · refine Sl.ofBlk (l := vesselX.cabs) (Blk.new4 w _ _ _ _ _ _) (by decide) (by first | (show _ ≤ _; omega) | (show _ ≤ _; simp; omega)) fun i x hx => ?_
    rcases i with _ | _ | _ | i
    · obtain rfl : (⟨[65, 49], 0, 2, false⟩ : Cab) = x := by simpa [vesselX] using hx
      exact ⟨[strV [65, 49], .int .i64 0, .int .i64 2, .bool false], ⟨rfl, mlen (by decide), .of (by decide) (by decide), .of (by decide) (by decide)⟩, rfl, fun j u hu => by rcases j with _ | _ | _ | _ | j <;> simp_all⟩
    · obtain rfl : (⟨[66, 49], 1, 4, true⟩ : Cab) = x := by simpa [vesselX] using hx
      exact ⟨[strV [66, 49], .int .i64 1, .int .i64 4, .bool true], ⟨rfl, mlen (by decide), .of (by decide) (by decide), .of (by decide) (by decide)⟩, rfl, fun j u hu => by rcases j with _ | _ | _ | _ | j <;> simp_all⟩
    · obtain rfl : (⟨[67, 49], 2, 2, false⟩ : Cab) = x := by simpa [vesselX] using hx
      exact ⟨[strV [67, 49], .int .i64 2, .int .i64 2, .bool false], ⟨rfl, mlen (by decide), .of (by decide) (by decide), .of (by decide) (by decide)⟩, rfl, fun j u hu => by rcases j with _ | _ | _ | _ | j <;> simp_all⟩
    · simp [vesselX] at hx
  · exact ((bel3 w _ _ _).alloc (by simp; omega) _).alloc (by simp; omega) _
set_option maxRecDepth 100000 in
set_option maxHeartbeats 2000000 in
theorem tableS_any (w : World) : Calls Tryz.prog 140 #[] w fun e w' => ∃ A n cap B m cap2, e = .returned (.agg #[.slice A n cap, .int .i64 50, .int .i64 33, .slice B m cap2, .int .i64 20]) ∧ Sl (slC intC 1) 1 w' (fun b => w.heap.size ≤ b) A n cap tableX.leg ∧ Sl bandC 2 w' (fun b => w.heap.size ≤ b) B m cap2 tableX.bands ∧ Below w.heap.size w w' := by
  go_enter Tryz.func140, Tryz.ntmps140
  go_wp2_with fail
  refine bodyPost_ret (v := .agg #[.slice (some ⟨w.heap.size + 1 + 1 + 1 + 1, 0, none⟩) 3 3, .int .i64 50, .int .i64 33, .slice (some ⟨w.heap.size + 1 + 1 + 1 + 1 + 1, 0, none⟩) 2 2, .int .i64 20]) (by simp [results, Tryz.results140, go_sem]) rfl ?_
  refine ⟨_, _, _, _, _, _, rfl, ?_, ?_, ?_⟩
  · refine Sl.ofBlk (l := tableX.leg) (((Blk.new4 w _ _ _ _ _ _).old _)) (by decide) (by first | (show _ ≤ _; omega) | (show _ ≤ _; simp; omega)) fun i x hx => ?_
    rcases i with _ | _ | _ | i
    · obtain rfl : [100, 200, 301] = x := by simpa [tableX] using hx
      exact ⟨[.slice (some ⟨w.heap.size + 1, 0, none⟩) 3 3], ⟨_, _, _, rfl, Sl.ofInts [100, 200, 301] (((((Blk.new1 w _ _ _).old _).old _).old _).old _) (by decide) (by first | (show _ ≤ _; omega) | (show _ ≤ _; simp; omega)) (by decide)⟩, rfl, fun j u hu => by rcases j with _ | j <;> simp_all⟩
    · obtain rfl : [150, 250, 350] = x := by simpa [tableX] using hx
      exact ⟨[.slice (some ⟨w.heap.size + 1 + 1, 0, none⟩) 3 3], ⟨_, _, _, rfl, Sl.ofInts [150, 250, 350] ((((Blk.new2 w _ _ _ _).old _).old _).old _) (by decide) (by first | (show _ ≤ _; omega) | (show _ ≤ _; simp; omega)) (by decide)⟩, rfl, fun j u hu => by rcases j with _ | j <;> simp_all⟩
    · obtain rfl : [500, 500, 500] = x := by simpa [tableX] using hx
      exact ⟨[.slice (some ⟨w.heap.size + 1 + 1 + 1, 0, none⟩) 3 3], ⟨_, _, _, rfl, Sl.ofInts [500, 500, 500] (((Blk.new3 w _ _ _ _ _).old _).old _) (by decide) (by first | (show _ ≤ _; omega) | (show _ ≤ _; simp; omega)) (by decide)⟩, rfl, fun j u hu => by rcases j with _ | j <;> simp_all⟩
    · simp [tableX] at hx
  · refine Sl.ofBlk (l := tableX.bands) (Blk.new5 w _ _ _ _ _ _ _) (by decide) (by first | (show _ ≤ _; omega) | (show _ ≤ _; simp; omega)) fun i x hx => ?_
    rcases i with _ | _ | i
    · simp [tableX] at hx; subst hx
      exact ⟨_, ⟨rfl, .of (by decide) (by decide), .of (by decide) (by decide)⟩, rfl, fun j u hu => by rcases j with _ | _ | j <;> simp_all⟩
    · simp [tableX] at hx; subst hx
      exact ⟨_, ⟨rfl, .of (by decide) (by decide), .of (by decide) (by decide)⟩, rfl, fun j u hu => by rcases j with _ | _ | j <;> simp_all⟩
    · simp [tableX] at hx
  · exact ((bel3 w _ _ _).alloc (by simp; omega) _ |>.alloc (by simp; omega) _).alloc (by simp; omega) _
theorem Blk.neTy {w : World} {a z : Nat} {xs ys : Array Value} {t u : TypeId} (h : Blk w a xs t) (h2 : Blk w z ys u) (hne : t ≠ u) : a ≠ z := fun e => by
  subst e
  have h : w.heap[a]? = some (.cells xs t (0, 0)) := h
  have h2 : w.heap[a]? = some (.cells ys u (0, 0)) := h2
  rw [h] at h2
  simp only [Option.some.injEq, Obj.cells.injEq] at h2
  exact hne h2.2.1
theorem newOf {n : Nat} {a w : World} (_ : Below n a w) (cs : Array Value) (t : TypeId) : Blk (w.alloc (.cells cs t)) w.heap.size cs t := Blk.new w cs t
def namedF : Bkg := { namedX with fol := [⟨1, 1, 1200⟩] }
def promisedF : Bkg := { promisedX with fol := [⟨1, 1, 1202⟩] }
def cruiseX : Sai := ⟨vesselX, tableX, 2, 40, [namedF, promisedF], false⟩
theorem sl_entryU {w : World} {e : Nat} {a b c : Int} (h : Blk w e #[.int .i64 a, .int .i64 b, .int .i64 c] 57) (ha : InI a) (hb : InI b) (hc : InI c) : Sl entryC 3 w All (some ⟨e, 0, none⟩) 1 1 [⟨a, b, c⟩] := by
  refine Sl.ofBlk (l := ([⟨a, b, c⟩] : List Entry)) h (by simp) trivial fun i x hx => ?_
  rcases i with _ | i
  · obtain rfl : (⟨a, b, c⟩ : Entry) = x := by simpa using hx
    exact ⟨[.int .i64 a, .int .i64 b, .int .i64 c], ⟨rfl, ha, hb, hc⟩, rfl, fun j u hu => by rcases j with _ | _ | _ | j <;> simp_all⟩
  · simp at hx
theorem bk_inF {b : Bkg} {f : List Entry} (h : BkIn b) : BkIn { b with fol := f } := ⟨h.id, h.kind, h.state, h.gst, h.cab, h.cat, h.frm, h.upto, h.til⟩
theorem keptRow {n : Nat} {a w : World} (_ : Below n a w) (z : Nat) (us : Array Value) : Kept (fun k => k = z) w (w.setRow z us) := (Kept.refl (fun k => k = z) w).setRow (.inl rfl) us
theorem sl_cruise {w : World} {q e1 e2 : Nat} (hL : Blk w q #[.int .i64 7, .int .i64 1, .int .i64 2, .int .i64 3, .bool false, .int .i64 1, .int .i64 0, .int .i64 1, .int .i64 3, .int .i64 0, .slice (some ⟨e1, 0, none⟩) 1 1, .int .i64 9, .int .i64 2, .int .i64 1, .int .i64 2, .bool false, .int .i64 (-1), .int .i64 0, .int .i64 0, .int .i64 3, .int .i64 4, .slice (some ⟨e2, 0, none⟩) 1 1] 37) (h1 : Blk w e1 #[.int .i64 1, .int .i64 1, .int .i64 1200] 57) (h2 : Blk w e2 #[.int .i64 1, .int .i64 1, .int .i64 1202] 57) : Sl bkgC 11 w All (some ⟨q, 0, none⟩) 2 2 [namedF, promisedF] := by
  refine Sl.ofBlk (l := [namedF, promisedF]) hL (by decide) trivial fun i x hx => ?_
  rcases i with _ | _ | i
  · obtain rfl : namedF = x := by simpa using hx
    exact ⟨[.int .i64 7, .int .i64 1, .int .i64 2, .int .i64 3, .bool false, .int .i64 1, .int .i64 0, .int .i64 1, .int .i64 3, .int .i64 0, .slice (some ⟨e1, 0, none⟩) 1 1], ⟨_, _, _, rfl, sl_entryU h1 (.of (by decide) (by decide)) (.of (by decide) (by decide)) (.of (by decide) (by decide)), bk_inF (bookX_in namedX (by simp [bookX])).1⟩, rfl, fun j u hu => by rcases j with _ | _ | _ | _ | _ | _ | _ | _ | _ | _ | _ | j <;> simp_all⟩
  · obtain rfl : promisedF = x := by simpa using hx
    exact ⟨[.int .i64 9, .int .i64 2, .int .i64 1, .int .i64 2, .bool false, .int .i64 (-1), .int .i64 0, .int .i64 0, .int .i64 3, .int .i64 4, .slice (some ⟨e2, 0, none⟩) 1 1], ⟨_, _, _, rfl, sl_entryU h2 (.of (by decide) (by decide)) (.of (by decide) (by decide)) (.of (by decide) (by decide)), bk_inF (bookX_in promisedX (by simp [bookX])).1⟩, rfl, fun j u hu => by rcases j with _ | _ | _ | _ | _ | _ | _ | _ | _ | _ | _ | j <;> simp_all⟩
  · simp at hx
theorem cruise_end {w W4 w6 : World} {A : Option Addr} {n cap : Nat} {B : Option Addr} {m cap2 : Nat} {D : Option Addr} {nd cd : Nat} {E : Option Addr} {ne ce z q e1 e2 : Nat} {zs : Array Value} (hz : w.heap.size ≤ z) (hb : Below w.heap.size w W4) (hbx : Below W4.heap.size W4 w6)
    (hL : Blk w6 q #[.int .i64 7, .int .i64 1, .int .i64 2, .int .i64 3, .bool false, .int .i64 1, .int .i64 0, .int .i64 1, .int .i64 3, .int .i64 0, .slice (some ⟨e1, 0, none⟩) 1 1, .int .i64 9, .int .i64 2, .int .i64 1, .int .i64 2, .bool false, .int .i64 (-1), .int .i64 0, .int .i64 0, .int .i64 3, .int .i64 4, .slice (some ⟨e2, 0, none⟩) 1 1] 37) (hc : Sl catC 2 w6 (fun b => b ≠ z) A n cap vesselX.cats) (hd : Sl cabC 4 w6 (fun b => b ≠ z) B m cap2 vesselX.cabs) (hf : Sl (slC intC 1) 1 w6 (fun b => b ≠ z) D nd cd tableX.leg) (hg : Sl bandC 2 w6 (fun b => b ≠ z) E ne ce tableX.bands)
    (h1 : Blk W4 e1 #[.int .i64 1, .int .i64 1, .int .i64 1200] 57) (h2 : Blk W4 e2 #[.int .i64 1, .int .i64 1, .int .i64 1202] 57) (hZ : Blk W4 z zs 32) (us : Array Value) :
    SaiR (w6.setRow z us) cruiseX ⟨A, n, cap, B, m, cap2, D, nd, cd, E, ne, ce, some ⟨q, 0, none⟩, 2, 2⟩ ∧ Below w.heap.size w (w6.setRow z us) := by
  have hK := keptRow hbx z us
  have hZ6 := hZ.bel hbx
  have h1 := h1.bel hbx
  have h2 := h2.bel hbx
  exact ⟨⟨(hc.kept hK (fun b _ hb e => hb e)).all catC_good (by omega), (hd.kept hK (fun b _ hb e => hb e)).all cabC_good (by omega), ⟨(hf.keep (S' := All) (slC_good intC_good (by omega)) (by omega) (fun b hb hlt => ⟨hK.block b hlt hb, trivial⟩)), (hg.kept hK (fun b _ hb e => hb e)).all bandC_good (by omega), .of (by decide) (by decide), .of (by decide) (by decide), .of (by decide) (by decide)⟩,
    sl_cruise (hL.rowOther (hL.neTy hZ6 (by decide)) _) (h1.rowOther (h1.neTy hZ6 (by decide)) _) (h2.rowOther (h2.neTy hZ6 (by decide)) _)⟩, (hb.trans (hbx.mono hb.size)).trans (hK.below (B := w.heap.size) (Nat.le_trans hb.size hbx.size) (fun k hk e => by omega))⟩
set_option maxRecDepth 100000 in
set_option maxHeartbeats 4000000 in
theorem cruise_any (w : World) : Calls Tryz.prog 83 #[] w fun e w' => ∃ p, e = .returned (.agg (saiA cruiseX p)) ∧ SaiR w' cruiseX p ∧ Below w.heap.size w w' := by
  go_enter Tryz.func83, Tryz.ntmps83
  go_wp2_with fail
  refine (namedL_any _).mono ?_
  rintro e w1 ⟨rfl, hb1⟩
  have hZ := (Blk.new w #[.int .i64 0, .int .i64 0, .slice none 0 0, .slice none 0 0, .slice none 0 0, .int .i64 0, .int .i64 0, .slice none 0 0, .int .i64 0, .int .i64 0, .int .i64 0, .slice none 0 0, .bool false] 32).bel hb1
  have hb := (bel1 w (.cells #[.int .i64 0, .int .i64 0, .slice none 0 0, .slice none 0 0, .slice none 0 0, .int .i64 0, .int .i64 0, .slice none 0 0, .int .i64 0, .int .i64 0, .int .i64 0, .slice none 0 0, .bool false] 32)).trans (hb1.mono (by simp))
  clear hb1
  go_wp2_with fail
  refine (promisedL_any _).mono ?_
  rintro e w2 ⟨rfl, hb1⟩
  replace hZ := hZ.bel hb1
  replace hb := hb.trans (hb1.mono hb.size)
  clear hb1
  have hs := hb.size
  have hzl := hZ.lt
  go_upto_region 3 with (fail)
  go_cut [0, 1, 2] (fun p p1 p2 wx => ∃ z a b e e', p = .pointer (some ⟨z, 0, none⟩) ∧ p1 = .pointer (some ⟨a, 0, none⟩) ∧ p2 = .pointer (some ⟨b, 0, none⟩) ∧ a ≠ b ∧ a ≠ z ∧ b ≠ z ∧ w.heap.size ≤ z ∧ w.heap.size ≤ a ∧ w.heap.size ≤ b ∧ Blk wx z #[.int .i64 0, .int .i64 0, .slice none 0 0, .slice none 0 0, .slice none 0 0, .int .i64 0, .int .i64 0, .slice none 0 0, .int .i64 0, .int .i64 0, .int .i64 0, .slice none 0 0, .bool false] 32 ∧ Blk wx a (bkgA namedX (.slice (some ⟨e, 0, none⟩) 1 1)) 37 ∧ Blk wx b (bkgA promisedX (.slice (some ⟨e', 0, none⟩) 1 1)) 37 ∧ Blk wx e #[.int .i64 1, .int .i64 1, .int .i64 1200] 57 ∧ Blk wx e' #[.int .i64 1, .int .i64 1, .int .i64 1202] 57 ∧ Below w.heap.size w wx)
  case first =>
    go_wp2_with fail
    go_meet
    exact ⟨_, _, _, _, _, rfl, rfl, rfl, by omega, by omega, by omega, Nat.le_refl _, by omega, by omega, ((((hZ.old _).old _).old _).old _), (((Blk.new w2 _ _).old _).old _).old _, ((Blk.new1 w2 _ _ _).old _).old _, (Blk.new2 w2 _ _ _ _).old _, Blk.new3 w2 _ _ _ _ _, (((hb.alloc hb.size _).alloc (by simp; omega) _).alloc (by simp; omega) _).alloc (by simp; omega) _⟩
  obtain ⟨z, a, b, e1, e2, rfl, rfl, rfl, hab, haz, hbz, hz, ha, hbb, hZ, hA, hB, hE1, hE2, hb⟩ := hcut
  obtain ⟨W4, hW4⟩ : ∃ V, V = wc := ⟨_, rfl⟩
  subst hW4
  have hzl := hZ.lt
  have HSX := Lib.hid (show ∀ X, Blk X a (bkgA namedX (.slice (some ⟨e1, 0, none⟩) 1 1)) 37 → Blk X b (bkgA promisedX (.slice (some ⟨e2, 0, none⟩) 1 1)) 37 → (fun w' => (w'.cell? ⟨a, 0, none⟩ = some (.int .i64 7) ∧ w'.cell? ⟨a, 1, none⟩ = some (.int .i64 1) ∧ w'.cell? ⟨a, 2, none⟩ = some (.int .i64 2) ∧ w'.cell? ⟨a, 3, none⟩ = some (.int .i64 3) ∧ w'.cell? ⟨a, 4, none⟩ = some (.bool false) ∧ w'.cell? ⟨a, 5, none⟩ = some (.int .i64 1) ∧ w'.cell? ⟨a, 6, none⟩ = some (.int .i64 0) ∧ w'.cell? ⟨a, 7, none⟩ = some (.int .i64 1) ∧ w'.cell? ⟨a, 8, none⟩ = some (.int .i64 3) ∧ w'.cell? ⟨a, 9, none⟩ = some (.int .i64 0) ∧ w'.cell? ⟨a, 10, none⟩ = some (.slice (some ⟨e1, 0, none⟩) 1 1)) ∧ (w'.cell? ⟨b, 0, none⟩ = some (.int .i64 9) ∧ w'.cell? ⟨b, 1, none⟩ = some (.int .i64 2) ∧ w'.cell? ⟨b, 2, none⟩ = some (.int .i64 1) ∧ w'.cell? ⟨b, 3, none⟩ = some (.int .i64 2) ∧ w'.cell? ⟨b, 4, none⟩ = some (.bool false) ∧ w'.cell? ⟨b, 5, none⟩ = some (.int .i64 (-1)) ∧ w'.cell? ⟨b, 6, none⟩ = some (.int .i64 0) ∧ w'.cell? ⟨b, 7, none⟩ = some (.int .i64 0) ∧ w'.cell? ⟨b, 8, none⟩ = some (.int .i64 3) ∧ w'.cell? ⟨b, 9, none⟩ = some (.int .i64 4) ∧ w'.cell? ⟨b, 10, none⟩ = some (.slice (some ⟨e2, 0, none⟩) 1 1))) X from fun X hX hY => ⟨⟨hX.cell rfl, hX.cell rfl, hX.cell rfl, hX.cell rfl, hX.cell rfl, hX.cell rfl, hX.cell rfl, hX.cell rfl, hX.cell rfl, hX.cell rfl, hX.cell rfl⟩, ⟨hY.cell rfl, hY.cell rfl, hY.cell rfl, hY.cell rfl, hY.cell rfl, hY.cell rfl, hY.cell rfl, hY.cell rfl, hY.cell rfl, hY.cell rfl, hY.cell rfl⟩⟩)
  have HA := Lib.hid (fun X (hX : Below W4.heap.size W4 X) => HSX.out X (hA.bel hX) (hB.bel hX))
  have HZ := Lib.hid hZ
  clear hZ
  have HB := Lib.hid hb
  clear hb
  have HE1 := Lib.hid hE1
  clear hE1
  have HE2 := Lib.hid hE2
  clear hE2
  have HAA := Lib.hid hA
  clear hA
  have HBB := Lib.hid hB
  clear hB
  go_wp2_with fail
  have hbx : Below W4.heap.size W4 W4.drew := (Below.refl _ W4).drew
  refine wp_region_held_drew (S := (fun w' => (w'.cell? ⟨a, 0, none⟩ = some (.int .i64 7) ∧ w'.cell? ⟨a, 1, none⟩ = some (.int .i64 1) ∧ w'.cell? ⟨a, 2, none⟩ = some (.int .i64 2) ∧ w'.cell? ⟨a, 3, none⟩ = some (.int .i64 3) ∧ w'.cell? ⟨a, 4, none⟩ = some (.bool false) ∧ w'.cell? ⟨a, 5, none⟩ = some (.int .i64 1) ∧ w'.cell? ⟨a, 6, none⟩ = some (.int .i64 0) ∧ w'.cell? ⟨a, 7, none⟩ = some (.int .i64 1) ∧ w'.cell? ⟨a, 8, none⟩ = some (.int .i64 3) ∧ w'.cell? ⟨a, 9, none⟩ = some (.int .i64 0) ∧ w'.cell? ⟨a, 10, none⟩ = some (.slice (some ⟨e1, 0, none⟩) 1 1)) ∧ (w'.cell? ⟨b, 0, none⟩ = some (.int .i64 9) ∧ w'.cell? ⟨b, 1, none⟩ = some (.int .i64 2) ∧ w'.cell? ⟨b, 2, none⟩ = some (.int .i64 1) ∧ w'.cell? ⟨b, 3, none⟩ = some (.int .i64 2) ∧ w'.cell? ⟨b, 4, none⟩ = some (.bool false) ∧ w'.cell? ⟨b, 5, none⟩ = some (.int .i64 (-1)) ∧ w'.cell? ⟨b, 6, none⟩ = some (.int .i64 0) ∧ w'.cell? ⟨b, 7, none⟩ = some (.int .i64 0) ∧ w'.cell? ⟨b, 8, none⟩ = some (.int .i64 3) ∧ w'.cell? ⟨b, 9, none⟩ = some (.int .i64 4) ∧ w'.cell? ⟨b, 10, none⟩ = some (.slice (some ⟨e2, 0, none⟩) 1 1)))) (by kernel_rfl) (HA.out _ hbx) (fun hHeld => ?_)
  refine wpAnyH_take (i := 2) (v := ?v9) (gA rfl) (by kernel_rfl) (by kernel_rfl) (by kernel_rfl) (fun _ _ _ h => h) (Or.inl ⟨rfl, ?y9⟩) (by assumption) ?_
  case y9 => (intro w hSw; (try dsimp only at hSw); go_simp <;> with_reducible rfl)
  simp only [Act.put, List.setIfInBounds_toArray, List.set_cons_zero, List.set_cons_succ]
  refine wpAnyH_take (i := 3) (v := ?v10) (gA rfl) (by kernel_rfl) (by kernel_rfl) (by kernel_rfl) (fun _ _ _ h => h) (Or.inl ⟨rfl, ?y10⟩) (by assumption) ?_
  case y10 => (intro w hSw; (try dsimp only at hSw); go_simp <;> with_reducible rfl)
  simp only [Act.put, List.setIfInBounds_toArray, List.set_cons_zero, List.set_cons_succ]
  refine wpAnyH_ready (rs := [0, 4]) (by kernel_rfl) (by simp) ?_
  refine AllReadyH.cons (gA rfl) (fun K hK => ?_) ?m_1
  case m_1 =>
    refine AllReadyH.cons (gA rfl) (fun K hK => ?_) AllReadyH.nil
    go_simp
    refine hK.out _ _ ?_ (fun hHeld => ?_)
    · exact HA.out _ (hbx.alloc hbx.size (.cells #[.int .i64 7, .int .i64 1, .int .i64 2, .int .i64 3, .bool false, .int .i64 1, .int .i64 0, .int .i64 1, .int .i64 3, .int .i64 0, .slice (some ⟨e1, 0, none⟩) 1 1, .int .i64 9, .int .i64 2, .int .i64 1, .int .i64 2, .bool false, .int .i64 (-1), .int .i64 0, .int .i64 0, .int .i64 3, .int .i64 4, .slice (some ⟨e2, 0, none⟩) 1 1] 37))
    clear hK K
    try simp only [Act.put, List.setIfInBounds_toArray, List.set_cons_zero, List.set_cons_succ]
    ((try replace hc := hc.bel (bel1 _ (.cells #[.int .i64 7, .int .i64 1, .int .i64 2, .int .i64 3, .bool false, .int .i64 1, .int .i64 0, .int .i64 1, .int .i64 3, .int .i64 0, .slice (some ⟨e1, 0, none⟩) 1 1, .int .i64 9, .int .i64 2, .int .i64 1, .int .i64 2, .bool false, .int .i64 (-1), .int .i64 0, .int .i64 0, .int .i64 3, .int .i64 4, .slice (some ⟨e2, 0, none⟩) 1 1] 37))); (try replace hd := hd.bel (bel1 _ (.cells #[.int .i64 7, .int .i64 1, .int .i64 2, .int .i64 3, .bool false, .int .i64 1, .int .i64 0, .int .i64 1, .int .i64 3, .int .i64 0, .slice (some ⟨e1, 0, none⟩) 1 1, .int .i64 9, .int .i64 2, .int .i64 1, .int .i64 2, .bool false, .int .i64 (-1), .int .i64 0, .int .i64 0, .int .i64 3, .int .i64 4, .slice (some ⟨e2, 0, none⟩) 1 1] 37))); (try replace hf := hf.bel (bel1 _ (.cells #[.int .i64 7, .int .i64 1, .int .i64 2, .int .i64 3, .bool false, .int .i64 1, .int .i64 0, .int .i64 1, .int .i64 3, .int .i64 0, .slice (some ⟨e1, 0, none⟩) 1 1, .int .i64 9, .int .i64 2, .int .i64 1, .int .i64 2, .bool false, .int .i64 (-1), .int .i64 0, .int .i64 0, .int .i64 3, .int .i64 4, .slice (some ⟨e2, 0, none⟩) 1 1] 37))); (try replace hg := hg.bel (bel1 _ (.cells #[.int .i64 7, .int .i64 1, .int .i64 2, .int .i64 3, .bool false, .int .i64 1, .int .i64 0, .int .i64 1, .int .i64 3, .int .i64 0, .slice (some ⟨e1, 0, none⟩) 1 1, .int .i64 9, .int .i64 2, .int .i64 1, .int .i64 2, .bool false, .int .i64 (-1), .int .i64 0, .int .i64 0, .int .i64 3, .int .i64 4, .slice (some ⟨e2, 0, none⟩) 1 1] 37))); have hL := newOf hbx #[.int .i64 7, .int .i64 1, .int .i64 2, .int .i64 3, .bool false, .int .i64 1, .int .i64 0, .int .i64 1, .int .i64 3, .int .i64 0, .slice (some ⟨e1, 0, none⟩) 1 1, .int .i64 9, .int .i64 2, .int .i64 1, .int .i64 2, .bool false, .int .i64 (-1), .int .i64 0, .int .i64 0, .int .i64 3, .int .i64 4, .slice (some ⟨e2, 0, none⟩) 1 1] 37; replace hbx := hbx.alloc hbx.size (.cells #[.int .i64 7, .int .i64 1, .int .i64 2, .int .i64 3, .bool false, .int .i64 1, .int .i64 0, .int .i64 1, .int .i64 3, .int .i64 0, .slice (some ⟨e1, 0, none⟩) 1 1, .int .i64 9, .int .i64 2, .int .i64 1, .int .i64 2, .bool false, .int .i64 (-1), .int .i64 0, .int .i64 0, .int .i64 3, .int .i64 4, .slice (some ⟨e2, 0, none⟩) 1 1] 37))
    refine wpAnyH_ready (rs := [0]) (by kernel_rfl) (by simp) ?_
    refine AllReadyH.cons (gA rfl) (fun K hK => ?_) AllReadyH.nil
    go_simp
    (go_at_call 128; refine (vesselS_any _).mono ?_; rintro e w5 ⟨A, n, cap, B, m, cap2, rfl, hc, hd, hb5⟩; (try replace hL := hL.bel hb5); replace hc := hc.keep (S' := fun b => b ≠ z) catC_good (by omega) (fun b hb _ => ⟨rfl, Ne.symm (Nat.ne_of_lt (Nat.lt_of_lt_of_le hzl (Nat.le_trans hbx.size hb)))⟩); replace hd := hd.keep (S' := fun b => b ≠ z) cabC_good (by omega) (fun b hb _ => ⟨rfl, Ne.symm (Nat.ne_of_lt (Nat.lt_of_lt_of_le hzl (Nat.le_trans hbx.size hb)))⟩); replace hbx := hbx.trans (hb5.mono hbx.size); clear hb5)
    go_wp2_with fail
    refine hK.out _ _ ?_ (fun hHeld => ?_)
    · exact HA.out _ hbx
    clear hK K
    try simp only [Act.put, List.setIfInBounds_toArray, List.set_cons_zero, List.set_cons_succ]
    refine wpAnyH_ready (rs := [1]) (by kernel_rfl) (by simp) ?_
    refine AllReadyH.cons (gA rfl) (fun K hK => ?_) AllReadyH.nil
    go_simp
    (go_at_call 140; refine (tableS_any _).mono ?_; rintro e w6 ⟨D, nd, cd, E, ne, ce, rfl, hf, hg, hb6⟩; (try replace hL := hL.bel hb6); replace hc := hc.bel hb6; replace hd := hd.bel hb6; replace hf := hf.keep (S' := fun b => b ≠ z) (slC_good intC_good (by omega)) (by omega) (fun b hb _ => ⟨rfl, Ne.symm (Nat.ne_of_lt (Nat.lt_of_lt_of_le hzl (Nat.le_trans hbx.size hb)))⟩); replace hg := hg.keep (S' := fun b => b ≠ z) bandC_good (by omega) (fun b hb _ => ⟨rfl, Ne.symm (Nat.ne_of_lt (Nat.lt_of_lt_of_le hzl (Nat.le_trans hbx.size hb)))⟩); replace hbx := hbx.trans (hb6.mono hbx.size); clear hb6)
    go_wp2_with fail
    refine hK.out _ _ ?_ (fun hHeld => ?_)
    · exact HA.out _ hbx
    clear hK K
    try simp only [Act.put, List.setIfInBounds_toArray, List.set_cons_zero, List.set_cons_succ]
    have hZ6 := HZ.out.bel hbx
    have hA6 := HAA.out.bel hbx
    have hB6 := HBB.out.bel hbx
    refine wpAnyH_take (i := 5) (v := ?v11) (gA rfl) (by kernel_rfl) (by kernel_rfl) (by kernel_rfl) (fun _ _ _ h => h) (Or.inl ⟨rfl, ?y11⟩) (by assumption) ?_
    case y11 => (intro w hSw; (try dsimp only at hSw); go_simp <;> with_reducible rfl)
    simp only [Act.put, List.setIfInBounds_toArray, List.set_cons_zero, List.set_cons_succ]
    refine wpAnyH_ready (rs := [6]) (by kernel_rfl) (by simp) (AllReadyH.cons (gA rfl) (fun K hK => ?_) AllReadyH.nil)
    (refine wp_store_row 32 (.tmp 0) (.tmp 16) rfl z (saiA cruiseX ⟨A, n, cap, B, m, cap2, D, nd, cd, E, ne, ce, some ⟨_, 0, none⟩, 2, 2⟩) rfl rfl 32 _ hZ6 (by kernel_rfl) rfl (by simp [Value.oneCell']) ?_)
    refine hK.out _ _ ?_ (fun hHeld => ?_)
    · exact HSX.out _ (hA6.rowOther haz _) (hB6.rowOther hbz _)
    clear hK K
    try simp only [Act.put, List.setIfInBounds_toArray, List.set_cons_zero, List.set_cons_succ]
    refine wpAnyH_done (by kernel_rfl) ?_ _
    go_wp2_with fail
    refine bodyPost_ret (v := .agg (saiA cruiseX ⟨A, n, cap, B, m, cap2, D, nd, cd, E, ne, ce, some ⟨_, 0, none⟩, 2, 2⟩)) ((hZ6.row _).ret (k := 0) (by kernel_rfl) rfl Tryz.underlying32 (by kernel_rfl) (by kernel_rfl)) rfl ?_
    exact ⟨_, rfl, cruise_end hz HB.out hbx hL hc hd hf hg HE1.out HE2.out HZ.out _⟩
  go_simp
  (go_at_call 128; refine (vesselS_any _).mono ?_; rintro e w5 ⟨A, n, cap, B, m, cap2, rfl, hc, hd, hb5⟩; (try replace hL := hL.bel hb5); replace hc := hc.keep (S' := fun b => b ≠ z) catC_good (by omega) (fun b hb _ => ⟨rfl, Ne.symm (Nat.ne_of_lt (Nat.lt_of_lt_of_le hzl (Nat.le_trans hbx.size hb)))⟩); replace hd := hd.keep (S' := fun b => b ≠ z) cabC_good (by omega) (fun b hb _ => ⟨rfl, Ne.symm (Nat.ne_of_lt (Nat.lt_of_lt_of_le hzl (Nat.le_trans hbx.size hb)))⟩); replace hbx := hbx.trans (hb5.mono hbx.size); clear hb5)
  go_wp2_with fail
  refine hK.out _ _ ?_ (fun hHeld => ?_)
  · exact HA.out _ hbx
  clear hK K
  try simp only [Act.put, List.setIfInBounds_toArray, List.set_cons_zero, List.set_cons_succ]
  refine wpAnyH_ready (rs := [1, 4]) (by kernel_rfl) (by simp) ?_
  refine AllReadyH.cons (gA rfl) (fun K hK => ?_) ?m_5
  case m_5 =>
    refine AllReadyH.cons (gA rfl) (fun K hK => ?_) AllReadyH.nil
    go_simp
    refine hK.out _ _ ?_ (fun hHeld => ?_)
    · exact HA.out _ (hbx.alloc hbx.size (.cells #[.int .i64 7, .int .i64 1, .int .i64 2, .int .i64 3, .bool false, .int .i64 1, .int .i64 0, .int .i64 1, .int .i64 3, .int .i64 0, .slice (some ⟨e1, 0, none⟩) 1 1, .int .i64 9, .int .i64 2, .int .i64 1, .int .i64 2, .bool false, .int .i64 (-1), .int .i64 0, .int .i64 0, .int .i64 3, .int .i64 4, .slice (some ⟨e2, 0, none⟩) 1 1] 37))
    clear hK K
    try simp only [Act.put, List.setIfInBounds_toArray, List.set_cons_zero, List.set_cons_succ]
    ((try replace hc := hc.bel (bel1 _ (.cells #[.int .i64 7, .int .i64 1, .int .i64 2, .int .i64 3, .bool false, .int .i64 1, .int .i64 0, .int .i64 1, .int .i64 3, .int .i64 0, .slice (some ⟨e1, 0, none⟩) 1 1, .int .i64 9, .int .i64 2, .int .i64 1, .int .i64 2, .bool false, .int .i64 (-1), .int .i64 0, .int .i64 0, .int .i64 3, .int .i64 4, .slice (some ⟨e2, 0, none⟩) 1 1] 37))); (try replace hd := hd.bel (bel1 _ (.cells #[.int .i64 7, .int .i64 1, .int .i64 2, .int .i64 3, .bool false, .int .i64 1, .int .i64 0, .int .i64 1, .int .i64 3, .int .i64 0, .slice (some ⟨e1, 0, none⟩) 1 1, .int .i64 9, .int .i64 2, .int .i64 1, .int .i64 2, .bool false, .int .i64 (-1), .int .i64 0, .int .i64 0, .int .i64 3, .int .i64 4, .slice (some ⟨e2, 0, none⟩) 1 1] 37))); (try replace hf := hf.bel (bel1 _ (.cells #[.int .i64 7, .int .i64 1, .int .i64 2, .int .i64 3, .bool false, .int .i64 1, .int .i64 0, .int .i64 1, .int .i64 3, .int .i64 0, .slice (some ⟨e1, 0, none⟩) 1 1, .int .i64 9, .int .i64 2, .int .i64 1, .int .i64 2, .bool false, .int .i64 (-1), .int .i64 0, .int .i64 0, .int .i64 3, .int .i64 4, .slice (some ⟨e2, 0, none⟩) 1 1] 37))); (try replace hg := hg.bel (bel1 _ (.cells #[.int .i64 7, .int .i64 1, .int .i64 2, .int .i64 3, .bool false, .int .i64 1, .int .i64 0, .int .i64 1, .int .i64 3, .int .i64 0, .slice (some ⟨e1, 0, none⟩) 1 1, .int .i64 9, .int .i64 2, .int .i64 1, .int .i64 2, .bool false, .int .i64 (-1), .int .i64 0, .int .i64 0, .int .i64 3, .int .i64 4, .slice (some ⟨e2, 0, none⟩) 1 1] 37))); have hL := newOf hbx #[.int .i64 7, .int .i64 1, .int .i64 2, .int .i64 3, .bool false, .int .i64 1, .int .i64 0, .int .i64 1, .int .i64 3, .int .i64 0, .slice (some ⟨e1, 0, none⟩) 1 1, .int .i64 9, .int .i64 2, .int .i64 1, .int .i64 2, .bool false, .int .i64 (-1), .int .i64 0, .int .i64 0, .int .i64 3, .int .i64 4, .slice (some ⟨e2, 0, none⟩) 1 1] 37; replace hbx := hbx.alloc hbx.size (.cells #[.int .i64 7, .int .i64 1, .int .i64 2, .int .i64 3, .bool false, .int .i64 1, .int .i64 0, .int .i64 1, .int .i64 3, .int .i64 0, .slice (some ⟨e1, 0, none⟩) 1 1, .int .i64 9, .int .i64 2, .int .i64 1, .int .i64 2, .bool false, .int .i64 (-1), .int .i64 0, .int .i64 0, .int .i64 3, .int .i64 4, .slice (some ⟨e2, 0, none⟩) 1 1] 37))
    refine wpAnyH_ready (rs := [1]) (by kernel_rfl) (by simp) ?_
    refine AllReadyH.cons (gA rfl) (fun K hK => ?_) AllReadyH.nil
    go_simp
    (go_at_call 140; refine (tableS_any _).mono ?_; rintro e w6 ⟨D, nd, cd, E, ne, ce, rfl, hf, hg, hb6⟩; (try replace hL := hL.bel hb6); replace hc := hc.bel hb6; replace hd := hd.bel hb6; replace hf := hf.keep (S' := fun b => b ≠ z) (slC_good intC_good (by omega)) (by omega) (fun b hb _ => ⟨rfl, Ne.symm (Nat.ne_of_lt (Nat.lt_of_lt_of_le hzl (Nat.le_trans hbx.size hb)))⟩); replace hg := hg.keep (S' := fun b => b ≠ z) bandC_good (by omega) (fun b hb _ => ⟨rfl, Ne.symm (Nat.ne_of_lt (Nat.lt_of_lt_of_le hzl (Nat.le_trans hbx.size hb)))⟩); replace hbx := hbx.trans (hb6.mono hbx.size); clear hb6)
    go_wp2_with fail
    refine hK.out _ _ ?_ (fun hHeld => ?_)
    · exact HA.out _ hbx
    clear hK K
    try simp only [Act.put, List.setIfInBounds_toArray, List.set_cons_zero, List.set_cons_succ]
    have hZ6 := HZ.out.bel hbx
    have hA6 := HAA.out.bel hbx
    have hB6 := HBB.out.bel hbx
    refine wpAnyH_take (i := 5) (v := ?v13) (gA rfl) (by kernel_rfl) (by kernel_rfl) (by kernel_rfl) (fun _ _ _ h => h) (Or.inl ⟨rfl, ?y13⟩) (by assumption) ?_
    case y13 => (intro w hSw; (try dsimp only at hSw); go_simp <;> with_reducible rfl)
    simp only [Act.put, List.setIfInBounds_toArray, List.set_cons_zero, List.set_cons_succ]
    refine wpAnyH_ready (rs := [6]) (by kernel_rfl) (by simp) (AllReadyH.cons (gA rfl) (fun K hK => ?_) AllReadyH.nil)
    (refine wp_store_row 32 (.tmp 0) (.tmp 16) rfl z (saiA cruiseX ⟨A, n, cap, B, m, cap2, D, nd, cd, E, ne, ce, some ⟨_, 0, none⟩, 2, 2⟩) rfl rfl 32 _ hZ6 (by kernel_rfl) rfl (by simp [Value.oneCell']) ?_)
    refine hK.out _ _ ?_ (fun hHeld => ?_)
    · exact HSX.out _ (hA6.rowOther haz _) (hB6.rowOther hbz _)
    clear hK K
    try simp only [Act.put, List.setIfInBounds_toArray, List.set_cons_zero, List.set_cons_succ]
    refine wpAnyH_done (by kernel_rfl) ?_ _
    go_wp2_with fail
    refine bodyPost_ret (v := .agg (saiA cruiseX ⟨A, n, cap, B, m, cap2, D, nd, cd, E, ne, ce, some ⟨_, 0, none⟩, 2, 2⟩)) ((hZ6.row _).ret (k := 0) (by kernel_rfl) rfl Tryz.underlying32 (by kernel_rfl) (by kernel_rfl)) rfl ?_
    exact ⟨_, rfl, cruise_end hz HB.out hbx hL hc hd hf hg HE1.out HE2.out HZ.out _⟩
  go_simp
  (go_at_call 140; refine (tableS_any _).mono ?_; rintro e w6 ⟨D, nd, cd, E, ne, ce, rfl, hf, hg, hb6⟩; (try replace hL := hL.bel hb6); replace hc := hc.bel hb6; replace hd := hd.bel hb6; replace hf := hf.keep (S' := fun b => b ≠ z) (slC_good intC_good (by omega)) (by omega) (fun b hb _ => ⟨rfl, Ne.symm (Nat.ne_of_lt (Nat.lt_of_lt_of_le hzl (Nat.le_trans hbx.size hb)))⟩); replace hg := hg.keep (S' := fun b => b ≠ z) bandC_good (by omega) (fun b hb _ => ⟨rfl, Ne.symm (Nat.ne_of_lt (Nat.lt_of_lt_of_le hzl (Nat.le_trans hbx.size hb)))⟩); replace hbx := hbx.trans (hb6.mono hbx.size); clear hb6)
  go_wp2_with fail
  refine hK.out _ _ ?_ (fun hHeld => ?_)
  · exact HA.out _ hbx
  clear hK K
  try simp only [Act.put, List.setIfInBounds_toArray, List.set_cons_zero, List.set_cons_succ]
  refine wpAnyH_ready (rs := [4]) (by kernel_rfl) (by simp) ?_
  refine AllReadyH.cons (gA rfl) (fun K hK => ?_) AllReadyH.nil
  go_simp
  refine hK.out _ _ ?_ (fun hHeld => ?_)
  · exact HA.out _ (hbx.alloc hbx.size (.cells #[.int .i64 7, .int .i64 1, .int .i64 2, .int .i64 3, .bool false, .int .i64 1, .int .i64 0, .int .i64 1, .int .i64 3, .int .i64 0, .slice (some ⟨e1, 0, none⟩) 1 1, .int .i64 9, .int .i64 2, .int .i64 1, .int .i64 2, .bool false, .int .i64 (-1), .int .i64 0, .int .i64 0, .int .i64 3, .int .i64 4, .slice (some ⟨e2, 0, none⟩) 1 1] 37))
  clear hK K
  try simp only [Act.put, List.setIfInBounds_toArray, List.set_cons_zero, List.set_cons_succ]
  ((try replace hc := hc.bel (bel1 _ (.cells #[.int .i64 7, .int .i64 1, .int .i64 2, .int .i64 3, .bool false, .int .i64 1, .int .i64 0, .int .i64 1, .int .i64 3, .int .i64 0, .slice (some ⟨e1, 0, none⟩) 1 1, .int .i64 9, .int .i64 2, .int .i64 1, .int .i64 2, .bool false, .int .i64 (-1), .int .i64 0, .int .i64 0, .int .i64 3, .int .i64 4, .slice (some ⟨e2, 0, none⟩) 1 1] 37))); (try replace hd := hd.bel (bel1 _ (.cells #[.int .i64 7, .int .i64 1, .int .i64 2, .int .i64 3, .bool false, .int .i64 1, .int .i64 0, .int .i64 1, .int .i64 3, .int .i64 0, .slice (some ⟨e1, 0, none⟩) 1 1, .int .i64 9, .int .i64 2, .int .i64 1, .int .i64 2, .bool false, .int .i64 (-1), .int .i64 0, .int .i64 0, .int .i64 3, .int .i64 4, .slice (some ⟨e2, 0, none⟩) 1 1] 37))); (try replace hf := hf.bel (bel1 _ (.cells #[.int .i64 7, .int .i64 1, .int .i64 2, .int .i64 3, .bool false, .int .i64 1, .int .i64 0, .int .i64 1, .int .i64 3, .int .i64 0, .slice (some ⟨e1, 0, none⟩) 1 1, .int .i64 9, .int .i64 2, .int .i64 1, .int .i64 2, .bool false, .int .i64 (-1), .int .i64 0, .int .i64 0, .int .i64 3, .int .i64 4, .slice (some ⟨e2, 0, none⟩) 1 1] 37))); (try replace hg := hg.bel (bel1 _ (.cells #[.int .i64 7, .int .i64 1, .int .i64 2, .int .i64 3, .bool false, .int .i64 1, .int .i64 0, .int .i64 1, .int .i64 3, .int .i64 0, .slice (some ⟨e1, 0, none⟩) 1 1, .int .i64 9, .int .i64 2, .int .i64 1, .int .i64 2, .bool false, .int .i64 (-1), .int .i64 0, .int .i64 0, .int .i64 3, .int .i64 4, .slice (some ⟨e2, 0, none⟩) 1 1] 37))); have hL := newOf hbx #[.int .i64 7, .int .i64 1, .int .i64 2, .int .i64 3, .bool false, .int .i64 1, .int .i64 0, .int .i64 1, .int .i64 3, .int .i64 0, .slice (some ⟨e1, 0, none⟩) 1 1, .int .i64 9, .int .i64 2, .int .i64 1, .int .i64 2, .bool false, .int .i64 (-1), .int .i64 0, .int .i64 0, .int .i64 3, .int .i64 4, .slice (some ⟨e2, 0, none⟩) 1 1] 37; replace hbx := hbx.alloc hbx.size (.cells #[.int .i64 7, .int .i64 1, .int .i64 2, .int .i64 3, .bool false, .int .i64 1, .int .i64 0, .int .i64 1, .int .i64 3, .int .i64 0, .slice (some ⟨e1, 0, none⟩) 1 1, .int .i64 9, .int .i64 2, .int .i64 1, .int .i64 2, .bool false, .int .i64 (-1), .int .i64 0, .int .i64 0, .int .i64 3, .int .i64 4, .slice (some ⟨e2, 0, none⟩) 1 1] 37))
  have hZ6 := HZ.out.bel hbx
  have hA6 := HAA.out.bel hbx
  have hB6 := HBB.out.bel hbx
  refine wpAnyH_take (i := 5) (v := ?v15) (gA rfl) (by kernel_rfl) (by kernel_rfl) (by kernel_rfl) (fun _ _ _ h => h) (Or.inl ⟨rfl, ?y15⟩) (by assumption) ?_
  case y15 => (intro w hSw; (try dsimp only at hSw); go_simp <;> with_reducible rfl)
  simp only [Act.put, List.setIfInBounds_toArray, List.set_cons_zero, List.set_cons_succ]
  refine wpAnyH_ready (rs := [6]) (by kernel_rfl) (by simp) (AllReadyH.cons (gA rfl) (fun K hK => ?_) AllReadyH.nil)
  (refine wp_store_row 32 (.tmp 0) (.tmp 16) rfl z (saiA cruiseX ⟨A, n, cap, B, m, cap2, D, nd, cd, E, ne, ce, some ⟨_, 0, none⟩, 2, 2⟩) rfl rfl 32 _ hZ6 (by kernel_rfl) rfl (by simp [Value.oneCell']) ?_)
  refine hK.out _ _ ?_ (fun hHeld => ?_)
  · exact HSX.out _ (hA6.rowOther haz _) (hB6.rowOther hbz _)
  clear hK K
  try simp only [Act.put, List.setIfInBounds_toArray, List.set_cons_zero, List.set_cons_succ]
  refine wpAnyH_done (by kernel_rfl) ?_ _
  go_wp2_with fail
  refine bodyPost_ret (v := .agg (saiA cruiseX ⟨A, n, cap, B, m, cap2, D, nd, cd, E, ne, ce, some ⟨_, 0, none⟩, 2, 2⟩)) ((hZ6.row _).ret (k := 0) (by kernel_rfl) rfl Tryz.underlying32 (by kernel_rfl) (by kernel_rfl)) rfl ?_
  exact ⟨_, rfl, cruise_end hz HB.out hbx hL hc hd hf hg HE1.out HE2.out HZ.out _⟩
end Go.Proofs.YtoilcdgpeilgaaaGreat
namespace Go.Proofs.YtoilcdgpeilgaaaGreat
open Go.RowKit Go.Shelf
theorem namedF_of : ofE vesselX namedF = 0 := by decide
theorem promisedF_of : ofE vesselX promisedF = 0 := by decide
theorem cruise_ids : idsL cruiseX = [9] := by decide
theorem cruise_edg : edgL cruiseX = [⟨0, 0⟩, ⟨0, 2⟩] := by decide
theorem cruise_all : allB 1 [⟨0, 0⟩, ⟨0, 2⟩] = true := allB_true ⟨[(0, 0)], ⟨by decide, by decide, by decide⟩, rfl⟩
theorem table_e : fareE tableX 3 3 = 0 := by decide
theorem cruise_souls : soulL cruiseX.bks 3 = [2, 5, 5] := by decide
theorem cruise_bad : cruiseX.bks.any (badB cruiseX.closed) = false := by decide
theorem cruise_b0 : bkE1 cruiseX 0 = 0 := by unfold bkE1; rw [show cruiseX.bks.getD 0 default = namedF from rfl, show cruiseX.ship = vesselX from rfl, namedF_of]; simp
theorem cruise_b1 : bkE1 cruiseX 1 = 0 := by
  unfold bkE1
  rw [show cruiseX.bks.getD 1 default = promisedF from rfl, show cruiseX.ship = vesselX from rfl, promisedF_of, show cruiseX.bks.getD (1 - 1) default = namedF from rfl]
  decide
theorem cruise_bks : bksE cruiseX = 0 := by
  unfold bksE
  rw [if_neg (by decide), show cruiseX.bks.length = 2 from rfl, show firstE (bkE1 cruiseX) 2 = 0 from firstE_succ (firstE_succ rfl cruise_b0) cruise_b1, if_neg (by simp), cruise_bad]
  decide
theorem cruise_tak (c : Nat) (hc : c < 3) : takB cruiseX.bks (c : Int) = true := by
  rcases c with _ | _ | _ | c
  · exact (tak_of (show spF (spL cruiseX.bks 0) = some [] by decide)).1
  · exact (tak_of (show spF (spL cruiseX.bks 1) = some [⟨1, 3⟩] by decide)).1
  · exact (tak_of (show spF (spL cruiseX.bks 2) = some [] by decide)).1
  · omega
theorem cruise_room : roomE cruiseX = 0 := by
  unfold roomE
  rw [if_neg (by
    unfold twiceB
    simp only [List.any_eq_true, not_exists, not_and, List.mem_range]
    intro c hc
    rw [cruise_tak c hc]; simp), show cruiseX.ship.legs.toNat = 3 from rfl, cruise_souls, if_neg (by decide), cruise_ids, cruise_edg, show ([9] : List Int).length = 1 from rfl, cruise_all]
  rfl
theorem cruise_e : saiE cruiseX = 0 := by
  unfold saiE
  rw [show shipE cruiseX.ship = 0 from vessel_e, if_neg (by simp), show fareE cruiseX.fares cruiseX.ship.cats.length cruiseX.ship.legs = 0 from table_e, if_neg (by simp), if_neg (by decide), cruise_bks, if_neg (by simp), cruise_room]
  rfl
end Go.Proofs.YtoilcdgpeilgaaaGreat
