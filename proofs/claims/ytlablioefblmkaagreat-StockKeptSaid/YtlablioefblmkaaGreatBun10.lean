/-
  Words, laws and contracts: BookI, BookJ, BookK, BookM, MatchG.
-/
import Derived.Test.YtlablioefblmkaaGreatBun9
import Derived.Deep.RegionHeld3
/-
  Bookings: how many are on board: Aboard, and the reference SoulsOf.
-/
namespace Go.Proofs.YtlablioefblmkaaGreat
open Go.RowKit Go.Shelf

/-- Numbers, some of which are more by g. -/
def addP (m : List Int) (p : Nat → Bool) (g : Int) : List Int := m.mapIdx (fun i v => if p i = true then v + g else v)
theorem addP_len (m : List Int) (p : Nat → Bool) (g : Int) : (addP m p g).length = m.length := by unfold addP; simp
theorem addP_get (m : List Int) (p : Nat → Bool) (g : Int) (i : Nat) : (addP m p g)[i]? = m[i]?.map (fun v => if p i = true then v + g else v) := by unfold addP; simp
theorem addP_congr {m : List Int} {p p' : Nat → Bool} {g : Int} (h : ∀ i, i < m.length → p i = p' i) : addP m p g = addP m p' g := by
  refine List.ext_getElem? fun i => ?_
  rw [addP_get, addP_get]
  by_cases hi : i < m.length
  · rw [h i hi]
  · rw [List.getElem?_eq_none (by omega)]; rfl
theorem addP_none {m : List Int} {p : Nat → Bool} {g : Int} (h : ∀ i, i < m.length → p i = false) : addP m p g = m := by
  refine List.ext_getElem? fun i => ?_
  rw [addP_get]
  by_cases hi : i < m.length
  · rw [h i hi, List.getElem?_eq_getElem hi]; simp
  · rw [List.getElem?_eq_none (by omega)]; rfl
theorem addP_step {m : List Int} {p p' : Nat → Bool} {g : Int} {j : Nat} (hj : j < m.length) (h0 : p j = false) (h1 : p' j = true) (h2 : ∀ i, i < m.length → i ≠ j → p' i = p i) : addP m p' g = (addP m p g).set j ((addP m p g).getD j 0 + g) := by
  refine List.ext_getElem? fun i => ?_
  rw [addP_get]
  by_cases hi : i = j
  · subst hi
    rw [List.getElem?_set_self (by rw [addP_len]; exact hj), List.getD_eq_getElem?_getD, addP_get, List.getElem?_eq_getElem hj, h0, h1]
    simp
  · rw [List.getElem?_set_ne (fun e => hi e.symm), addP_get]
    by_cases hl : i < m.length
    · rw [h2 i hl hi]
    · rw [List.getElem?_eq_none (by omega)]; rfl

def inB (b : Bkg) (i : Nat) : Bool := liveB b && (decide (b.frm ≤ i) && decide ((i : Int) < b.upto))
theorem soulK_snoc (l : List Bkg) (b : Bkg) (i : Nat) : soulK (l ++ [b]) i = if inB b i = true then soulK l i + b.gst else soulK l i := by
  unfold soulK
  rw [List.map_append, List.sum_append]
  by_cases h : liveB b = true ∧ b.frm ≤ i ∧ (i : Int) < b.upto
  · have hb : inB b i = true := by unfold inB; simp [h]
    rw [hb]; simp [h]
  · have hb : inB b i = false := by
      cases e : inB b i
      · rfl
      · unfold inB at e; simp at e; exact absurd ⟨e.1, e.2⟩ h
    rw [hb]; simp [h]
theorem soulL_len (l : List Bkg) (N : Nat) : (soulL l N).length = N := by unfold soulL; simp
theorem soulL_get (l : List Bkg) (N i : Nat) (h : i < N) : (soulL l N)[i]? = some (soulK l i) := by unfold soulL; simp [h]
theorem soulL_succ {l : List Bkg} {k N : Nat} {b : Bkg} (h : l[k]? = some b) : soulL (l.take (k + 1)) N = addP (soulL (l.take k) N) (inB b) b.gst := by
  refine List.ext_getElem? fun i => ?_
  rw [addP_get, take_snoc h]
  by_cases hi : i < N
  · rw [soulL_get _ _ _ hi, soulL_get _ _ _ hi, soulK_snoc]; rfl
  · rw [List.getElem?_eq_none (by rw [soulL_len]; omega), List.getElem?_eq_none (by rw [soulL_len]; omega)]; rfl
/-- Bookings with spans of N legs and guests that are right. -/
def AbOk (l : List Bkg) (N : Nat) : Prop := ∀ b ∈ l, (0 ≤ b.frm ∧ b.frm < b.upto ∧ b.upto ≤ N) ∧ 1 ≤ b.gst ∧ b.gst ≤ 4
theorem soulK_bd : ∀ {l : List Bkg}, (∀ b ∈ l, 1 ≤ b.gst ∧ b.gst ≤ 4) → ∀ i, 0 ≤ soulK l i ∧ soulK l i ≤ 4 * l.length
  | [], _, i => by simp [soulK]
  | b :: l, h, i => by
    have ih := soulK_bd (l := l) (fun x hx => h x (List.mem_cons_of_mem _ hx)) i
    have hb := h b (List.mem_cons_self ..)
    have : soulK (b :: l) i = (if liveB b = true ∧ b.frm ≤ i ∧ (i : Int) < b.upto then b.gst else 0) + soulK l i := by unfold soulK; simp
    rw [this, List.length_cons]
    split <;> omega
theorem addP_bd {m : List Int} {p : Nat → Bool} {g M : Int} (h : ∀ i, 0 ≤ m.getD i 0 ∧ m.getD i 0 ≤ M) (hg : 0 ≤ g ∧ g ≤ 4) (i : Nat) : 0 ≤ (addP m p g).getD i 0 ∧ (addP m p g).getD i 0 ≤ M + 4 := by
  have := h i
  rw [List.getD_eq_getElem?_getD] at this
  rw [List.getD_eq_getElem?_getD, addP_get]
  cases e : m[i]? with
  | none => rw [e] at this; simp at this ⊢; omega
  | some v =>
    rw [e] at this
    simp only [Option.getD_some, Option.map_some] at this ⊢
    split <;> omega
theorem soulL_bd {l : List Bkg} {N : Nat} (h : AbOk l N) (k i : Nat) : 0 ≤ (soulL (l.take k) N).getD i 0 ∧ (soulL (l.take k) N).getD i 0 ≤ 4 * l.length := by
  rw [List.getD_eq_getElem?_getD]
  by_cases hi : i < N
  · rw [soulL_get _ _ _ hi]
    have := soulK_bd (l := l.take k) (fun b hb => (h b (List.mem_of_mem_take hb)).2) i
    rw [List.length_take] at this
    simp only [Option.getD_some]
    omega
  · rw [List.getElem?_eq_none (by rw [soulL_len]; omega)]
    simp
    omega
theorem soulL_nil (N : Nat) : soulL [] N = List.replicate N 0 := by
  unfold soulL soulK
  simp [List.eq_replicate_iff]

theorem mkInts6 (W : World) : (Instr.makeSlice 44 (.int .i64 6) (.int .i64 6)).run Tryz.prog W = .ok (.slice (some ⟨W.heap.size, 0, none⟩) 6 6) (W.alloc (.cells ((List.replicate 6 (0 : Int)).map (Value.int .i64)).toArray 3)) := by kernel_rfl
theorem mkInts7 (W : World) : (Instr.makeSlice 44 (.int .i64 7) (.int .i64 7)).run Tryz.prog W = .ok (.slice (some ⟨W.heap.size, 0, none⟩) 7 7) (W.alloc (.cells ((List.replicate 7 (0 : Int)).map (Value.int .i64)).toArray 3)) := by kernel_rfl
theorem mkIntsL (n : Nat) (hn : n ≤ 7) (W : World) : (Instr.makeSlice 44 (.int .i64 n) (.int .i64 n)).run Tryz.prog W = .ok (.slice (some ⟨W.heap.size, 0, none⟩) n n) (W.alloc (.cells ((List.replicate n (0 : Int)).map (Value.int .i64)).toArray 3)) := by
  have h : n ≤ 5 ∨ n = 6 ∨ n = 7 := by omega
  rcases h with h | rfl | rfl
  · exact mkInts n h W
  · exact mkInts6 W
  · exact mkInts7 W
/-- A block of numbers is an own row. -/
theorem RowI.own {w : World} {G base : Nat} {m : List Int} (h : RowI w G m 3) (hb : base ≤ G) (hi : ∀ x ∈ m, InI x) (hm : m.length ≤ 1000000) : Own intC 1 3 w base (.slice (some ⟨G, 0, none⟩) m.length m.length) m (m.map (Value.int .i64)) := by
  refine ⟨⟨by simp, .inr ⟨G, m.length, _, rfl, hb, h, Nat.le_refl _, by simp only [maxLen]; omega, by simp, by simp; exact List.take_of_length_le (by simp)⟩⟩, fun i x hx => ⟨[.int .i64 x], ⟨rfl, hi x (List.mem_of_getElem? hx)⟩, rfl, fun j u hu => ?_⟩⟩
  rcases j with _ | j
  · simp at hu; subst hu; simp [hx]
  · simp at hu

set_option maxRecDepth 100000 in
set_option maxHeartbeats 8000000 in
theorem Aboard_any (N : Nat) (C : Option Addr) (nb cb : Nat) (l : List Bkg) (w : World) (hl : Sl bkgC 11 w All C nb cb l) (hok : AbOk l N) (hN : N ≤ 7) (hn : nb ≤ 2000000000000) :
    Calls Tryz.prog 88 #[.int .i64 (N : Int), .slice C nb cb] w fun e w' => ∃ G, e = .returned (.slice (some ⟨G, 0, none⟩) N N) ∧ w.heap.size ≤ G ∧ RowI w' G (soulL l N) 3 ∧ Below w.heap.size w w' := by
  have hbd := hl.bd
  have HL := Lib.hid hl
  have HN := Lib.hid hl.len
  have HOK := Lib.hid hok
  clear hok
  have hmk := fun W => mkIntsL N hN W
  clear hl
  go_enter Tryz.func88, Tryz.ntmps88
  go_upto_region 1 with (fail)
  go_cut [5] (fun p wx => ∃ G, p = .slice (some ⟨G, 0, none⟩) N N ∧ w.heap.size ≤ G ∧ RowI wx G (soulL (l.take 0) N) 3 ∧ Below w.heap.size w wx)
  case first => as_aux_lemma =>
    go_wp2_with fail
    go_meet
    exact ⟨_, rfl, Nat.le_refl _, by rw [List.take_zero, soulL_nil]; unfold RowI; rw [show ((List.replicate N (0 : Int)).map (Value.int .i64)).toArray = Array.replicate N (.int .i64 0) by simp]; exact blk1 _ _, bel1 _ _⟩
  obtain ⟨G, rfl, hG, hR, hb0⟩ := hcut
  have HR := Lib.hid hR
  clear hR
  have HB0 := Lib.hid hb0
  clear hb0
  clear hmk
  obtain ⟨W0, hW0⟩ : ∃ W, W = wc := ⟨_, rfl⟩
  subst hW0
  go_wp2_with fail
  go_loopg [13] nb (fun gk i wr => ∃ k : Nat, k ≤ nb ∧ nb - k ≤ gk ∧ i = .int .i64 k ∧ RowI wr G (soulL (l.take k) N) 3 ∧ Below w.heap.size w wr)
  case atStart => exact ⟨0, Nat.zero_le _, by omega, rfl, HR.out, HB0.out⟩
  case round =>
    obtain ⟨k, hk, hgk, rfl, hR, hb⟩ := hrel
    by_cases hlt : k < nb
    · have hGl := Blk.lt hR
      obtain ⟨ab, off, ⟨id, kind, state, gst, lev, cab, cat, frm, upto, til, fol⟩, A3, n3, c3, hA, hx, hF, hI, hcel⟩ := (HL.out.bel hb).bkg hlt
      subst hA
      simp only at hF
      have y0 : wr.cell? ⟨ab, off + k * 11, none⟩ = some (.int .i64 id) := hcel 0 _ rfl
      have y1 : wr.cell? ⟨ab, off + k * 11 + 1, none⟩ = some (.int .i64 kind) := hcel 1 _ rfl
      have y2 : wr.cell? ⟨ab, off + k * 11 + 2, none⟩ = some (.int .i64 state) := hcel 2 _ rfl
      have y3 : wr.cell? ⟨ab, off + k * 11 + 3, none⟩ = some (.int .i64 gst) := hcel 3 _ rfl
      have y4 : wr.cell? ⟨ab, off + k * 11 + 4, none⟩ = some (.bool lev) := hcel 4 _ rfl
      have y5 : wr.cell? ⟨ab, off + k * 11 + 5, none⟩ = some (.int .i64 cab) := hcel 5 _ rfl
      have y6 : wr.cell? ⟨ab, off + k * 11 + 6, none⟩ = some (.int .i64 cat) := hcel 6 _ rfl
      have y7 : wr.cell? ⟨ab, off + k * 11 + 7, none⟩ = some (.int .i64 frm) := hcel 7 _ rfl
      have y8 : wr.cell? ⟨ab, off + k * 11 + 8, none⟩ = some (.int .i64 upto) := hcel 8 _ rfl
      have y9 : wr.cell? ⟨ab, off + k * 11 + 9, none⟩ = some (.int .i64 til) := hcel 9 _ rfl
      have y10 : wr.cell? ⟨ab, off + k * 11 + 10, none⟩ = some (.slice A3 n3 c3) := hcel 10 _ rfl
      clear hcel
      go_upto_region 4 with (fail)
      go_cut [7] (fun p wx => ∃ z, p = .pointer (some ⟨z, 0, none⟩) ∧ wr.heap.size ≤ z ∧ Blk wx z (bkgA ⟨id, kind, state, gst, lev, cab, cat, frm, upto, til, fol⟩ (.slice A3 n3 c3)) 42 ∧ Below wr.heap.size wr wx)
      case first => as_aux_lemma =>
        go_wp2_with fail
        go_meet
        exact ⟨_, rfl, Nat.le_refl _, blk1 _ _, bel1 _ _⟩
      obtain ⟨z, rfl, hzs, hZ, hbz⟩ := hcut
      clear y0 y1 y2 y3 y4 y5 y6 y7 y8 y9 y10
      replace hF := hF.bel hbz
      have hR := hR.bel hbz
      have hzG : z ≠ G := by omega
      replace hb := hb.trans (hbz.mono hb.size)
      clear hbz hF
      have z0 : wc.cell? ⟨z, 0, none⟩ = some (.int .i64 id) := hZ.cell rfl
      have z1 : wc.cell? ⟨z, 1, none⟩ = some (.int .i64 kind) := hZ.cell rfl
      have z2 : wc.cell? ⟨z, 2, none⟩ = some (.int .i64 state) := hZ.cell rfl
      have z3 : wc.cell? ⟨z, 3, none⟩ = some (.int .i64 gst) := hZ.cell rfl
      have z4 : wc.cell? ⟨z, 4, none⟩ = some (.bool lev) := hZ.cell rfl
      have z5 : wc.cell? ⟨z, 5, none⟩ = some (.int .i64 cab) := hZ.cell rfl
      have z6 : wc.cell? ⟨z, 6, none⟩ = some (.int .i64 cat) := hZ.cell rfl
      have z7 : wc.cell? ⟨z, 7, none⟩ = some (.int .i64 frm) := hZ.cell rfl
      have z8 : wc.cell? ⟨z, 8, none⟩ = some (.int .i64 upto) := hZ.cell rfl
      have z9 : wc.cell? ⟨z, 9, none⟩ = some (.int .i64 til) := hZ.cell rfl
      have z10 : wc.cell? ⟨z, 10, none⟩ = some ((.slice A3 n3 c3)) := hZ.cell rfl
      have hLv := fun W => Live_any ⟨id, kind, state, gst, lev, cab, cat, frm, upto, til, fol⟩ (.slice A3 n3 c3) W
      obtain ⟨q, hq⟩ : ∃ q, q = liveB ⟨id, kind, state, gst, lev, cab, cat, frm, upto, til, fol⟩ := ⟨_, rfl⟩
      rw [← hq] at hLv
      have HLV := Lib.hid hLv
      have HSU := Lib.hid (soulL_succ (N := N) hx)
      have HBD := Lib.hid (fun i => soulL_bd (HOK.out) k i)
      obtain ⟨⟨o1, o2, o3⟩, o4, o5⟩ := HOK.out _ (List.mem_of_getElem? hx)
      simp only at o1 o2 o3 o4 o5
      obtain ⟨f, rfl⟩ : ∃ f : Nat, frm = f := ⟨frm.toNat, by omega⟩
      obtain ⟨t, rfl⟩ : ∃ t : Nat, upto = t := ⟨upto.toNat, by omega⟩
      obtain ⟨M, hM⟩ : ∃ M, M = soulL (l.take k) N := ⟨_, rfl⟩
      rw [← hM] at HSU HBD hR
      have HML := Lib.hid (show M.length = N by rw [hM]; exact soulL_len _ _)
      have HQ := Lib.hid hq
      have HR := Lib.hid hR
      clear hR
      clear hLv hq hx hI hGl hM
      go_wp2_with fail
      refine (HLV.out _).mono ?_
      rintro e w2 ⟨rfl, hb2⟩
      replace hZ := hZ.bel hb2
      have hR := HR.out.bel hb2
      replace hb := hb.trans (hb2.mono hb.size)
      clear hb2 z0 z1 z2 z3 z4 z5 z6 z7 z8 z9 z10 HLV HR
      cases q
      · have HV := Lib.hid (show soulL (l.take (k + 1)) N = M by rw [HSU.out]; exact addP_none (fun i _ => by unfold inB; rw [← HQ.out]; rfl))
        have HR := Lib.hid hR
        clear hR
        go_wp2_with fail
        go_roundg (nb - (k + 1))
        case measure => omega
        case rel => exact ⟨k + 1, by omega, by omega, by go_num, by rw [HV.out]; exact HR.out, hb⟩
      · have z7 : w2.cell? ⟨z, 7, none⟩ = some (.int .i64 (f : Int)) := hZ.cell rfl
        have HZ := Lib.hid hZ
        clear hZ
        have HR := Lib.hid hR
        clear hR
        have HB := Lib.hid hb
        clear hb
        go_wp2_with fail
        go_loopg [8] (t - f) (fun gk2 j wr2 => ∃ j0 : Nat, f ≤ j0 ∧ j0 ≤ t ∧ t - j0 ≤ gk2 ∧ j = .int .i64 j0 ∧ RowI wr2 G (addP M (fun i => decide (f ≤ i) && decide (i < j0)) gst) 3 ∧ Blk wr2 z (bkgA ⟨id, kind, state, gst, lev, cab, cat, f, t, til, fol⟩ (.slice A3 n3 c3)) 42 ∧ Below w.heap.size w wr2)
        case atStart => exact ⟨f, Nat.le_refl _, by omega, by omega, rfl, by rw [addP_none (fun i _ => by simp <;> omega)]; exact HR.out, HZ.out, HB.out⟩
        case round =>
          obtain ⟨j, hj0, hj1, hgj, rfl, hR, hZ, hb⟩ := hrel
          have z8 : wr.cell? ⟨z, 8, none⟩ = some (.int .i64 (t : Int)) := hZ.cell rfl
          have z3 : wr.cell? ⟨z, 3, none⟩ = some (.int .i64 gst) := hZ.cell rfl
          by_cases hjt : j < t
          · have hjN : j < N := by omega
            have c0 := hR.cell (i := j) (by rw [addP_len, HML.out]; exact hjN)
            have f0 := hR.free j
            have hgg : 0 ≤ gst ∧ gst ≤ 4 := ⟨by omega, by omega⟩
            have hbd := addP_bd (p := fun i => decide (f ≤ i) && decide (i < j)) HBD.out hgg j
            obtain ⟨v, hv⟩ : ∃ v, v = (addP M (fun i => decide (f ≤ i) && decide (i < j)) gst).getD j 0 := ⟨_, rfl⟩
            rw [← hv] at c0 hbd
            have hwv : IntKind.i64.wrap (v + gst) = v + gst := by have := HN.out; rw [IntKind.wrap_i64]; omega
            have HST := Lib.hid (show addP M (fun i => decide (f ≤ i) && decide (i < j + 1)) gst = (addP M (fun i => decide (f ≤ i) && decide (i < j)) gst).set j (v + gst) by
              rw [hv]
              exact addP_step (by rw [HML.out]; exact hjN) (by simp) (by simp <;> omega) (fun i _ hij => by
                have hd : decide (i < j + 1) = decide (i < j) := by rw [decide_eq_decide]; omega
                rw [hd]))
            have hj2 : (0 : Int) ≤ (j : Int) := Int.natCast_nonneg _
            have hj3 : (j : Int) < (N : Int) := by omega
            have HRX := Lib.hid (fun u => (hR.bel (Below.refl _ wr).drew).set j u)
            have HZX := Lib.hid (fun u => Blk.other (hZ.bel (Below.refl _ wr).drew) (p := ⟨G, j, none⟩) (fun e => hzG e.symm) u)
            have HBX := Lib.hid (fun u => (hb.drew).setCell (p := ⟨G, j, none⟩) hG u)
            clear hv hR hZ hb hbd
            go_wp2_with fail
            go_region_with (fail)
            all_goals
              go_wp2_with fail
              go_roundg (t - (j + 1))
              case measure => omega
              case rel => exact ⟨j + 1, by omega, by omega, by omega, by go_num, by rw [HST.out]; exact HRX.out _, HZX.out _, HBX.out _⟩
          · obtain rfl : j = t := by omega
            have HV := Lib.hid (show soulL (l.take (k + 1)) N = addP M (fun i => decide (f ≤ i) && decide (i < j)) gst by
              rw [HSU.out]
              exact addP_congr (fun i _ => by
                unfold inB
                rw [← HQ.out]
                simp only [Bool.true_and]
                have h1 : decide ((f : Int) ≤ (i : Int)) = decide (f ≤ i) := by rw [decide_eq_decide]; omega
                have h2 : decide ((i : Int) < (j : Int)) = decide (i < j) := by rw [decide_eq_decide]; omega
                rw [h1, h2]))
            have HRY := Lib.hid hR
            clear hR
            clear hZ
            go_wp2_with fail
            go_roundg (nb - (k + 1))
            case measure => omega
            case rel => exact ⟨k + 1, by omega, by omega, by go_num, by rw [HV.out]; exact HRY.out, hb⟩
    · obtain rfl : k = nb := by omega
      rw [List.take_of_length_le (Nat.le_of_eq HN.out)] at hR
      go_wp2_with fail
      go_ret
      exact ⟨G, rfl, hG, hR, hb⟩
end Go.Proofs.YtlablioefblmkaaGreat
/-
  Bookings: the reference SoulsOf.
-/
namespace Go.Proofs.YtlablioefblmkaaGreat
open Go.RowKit Go.Shelf

set_option maxRecDepth 100000 in
set_option maxHeartbeats 8000000 in
theorem SoulsOf_any (N : Nat) (C : Option Addr) (nb cb : Nat) (l : List Bkg) (w : World) (hl : Sl bkgC 11 w All C nb cb l) (hok : AbOk l N) (hN : N ≤ 7) (hn : nb ≤ 2000000000000) :
    Calls Tryz.prog 149 #[.int .i64 (N : Int), .slice C nb cb] w fun e w' => ∃ G, e = .returned (.slice (some ⟨G, 0, none⟩) N N) ∧ w.heap.size ≤ G ∧ RowI w' G (soulL l N) 3 ∧ Below w.heap.size w w' := by
  have hbd := hl.bd
  have HL := Lib.hid hl
  have HN := Lib.hid hl.len
  have HOK := Lib.hid hok
  clear hok
  have hmk := fun W => mkIntsL N hN W
  clear hl
  go_enter Tryz.func149, Tryz.ntmps149
  go_upto_region 1 with (fail)
  go_cut [5] (fun p wx => ∃ G, p = .slice (some ⟨G, 0, none⟩) N N ∧ w.heap.size ≤ G ∧ RowI wx G (soulL (l.take 0) N) 3 ∧ Below w.heap.size w wx)
  case first => as_aux_lemma =>
    go_wp2_with fail
    go_meet
    exact ⟨_, rfl, Nat.le_refl _, by rw [List.take_zero, soulL_nil]; unfold RowI; rw [show ((List.replicate N (0 : Int)).map (Value.int .i64)).toArray = Array.replicate N (.int .i64 0) by simp]; exact blk1 _ _, bel1 _ _⟩
  obtain ⟨G, rfl, hG, hR, hb0⟩ := hcut
  have HR := Lib.hid hR
  clear hR
  have HB0 := Lib.hid hb0
  clear hb0
  clear hmk
  obtain ⟨W0, hW0⟩ : ∃ W, W = wc := ⟨_, rfl⟩
  subst hW0
  go_wp2_with fail
  go_loopg [6] nb (fun gk i wr => ∃ k : Nat, k ≤ nb ∧ nb - k ≤ gk ∧ i = .int .i64 k ∧ RowI wr G (soulL (l.take k) N) 3 ∧ Below w.heap.size w wr)
  case atStart => exact ⟨0, Nat.zero_le _, by omega, rfl, HR.out, HB0.out⟩
  case round =>
    obtain ⟨k, hk, hgk, rfl, hR, hb⟩ := hrel
    by_cases hlt : k < nb
    · have HBD := Lib.hid (fun i => soulL_bd (HOK.out) k i)
      obtain ⟨y, hy⟩ : ∃ y, l[k]? = some y := ⟨_, List.getElem?_eq_getElem (by have := HN.out; omega)⟩
      have HSU := Lib.hid (soulL_succ (N := N) hy)
      obtain ⟨⟨o1, o2, o3⟩, o4, o5⟩ := HOK.out _ (List.mem_of_getElem? hy)
      obtain ⟨M, hM⟩ : ∃ M, M = soulL (l.take k) N := ⟨_, rfl⟩
      rw [← hM] at HSU HBD hR
      have HML := Lib.hid (show M.length = N by rw [hM]; exact soulL_len _ _)
      have HY := Lib.hid hy
      clear hy
      have HR := Lib.hid hR
      clear hR
      have HB := Lib.hid hb
      clear hb
      clear hM
      go_wp2_with fail
      go_loopg [7] N (fun gk2 j wr2 => ∃ j0 : Nat, j0 ≤ N ∧ N - j0 ≤ gk2 ∧ j = .int .i64 j0 ∧ RowI wr2 G (addP M (fun i => decide (i < j0) && inB y i) y.gst) 3 ∧ Below w.heap.size w wr2)
      case atStart => exact ⟨0, Nat.zero_le _, by omega, rfl, by rw [addP_none (fun i _ => by simp)]; exact HR.out, HB.out⟩
      case round =>
        obtain ⟨j, hj1, hgj, rfl, hR, hb⟩ := hrel
        by_cases hjt : j < N
        · have c0 := hR.cell (i := j) (by rw [addP_len, HML.out]; exact hjt)
          have f0 := hR.free j
          have hgg : 0 ≤ y.gst ∧ y.gst ≤ 4 := ⟨by omega, by omega⟩
          have hbd := addP_bd (p := fun i => decide (i < j) && inB y i) HBD.out hgg j
          obtain ⟨v, hv⟩ : ∃ v, v = (addP M (fun i => decide (i < j) && inB y i) y.gst).getD j 0 := ⟨_, rfl⟩
          rw [← hv] at c0 hbd
          have hST : inB y j = true → addP M (fun i => decide (i < j + 1) && inB y i) y.gst = (addP M (fun i => decide (i < j) && inB y i) y.gst).set j (v + y.gst) := fun hin => by
              rw [hv]
              exact addP_step (by rw [HML.out]; exact hjt) (by simp) (by simp [hin]) (fun i _ hij => by
                have hd : decide (i < j + 1) = decide (i < j) := by rw [decide_eq_decide]; omega
                simp only [hd])
          have hNO : inB y j = false → addP M (fun i => decide (i < j + 1) && inB y i) y.gst = addP M (fun i => decide (i < j) && inB y i) y.gst := fun hin =>
              addP_congr (fun i _ => by
                by_cases hij : i = j
                · subst hij; simp [hin]
                · have hd : decide (i < j + 1) = decide (i < j) := by rw [decide_eq_decide]; omega
                  simp only [hd])
          have HRX := Lib.hid (fun u => (hR.bel (Below.refl _ wr).drew).set j u)
          have HBX := Lib.hid (fun u => (hb.drew).setCell (p := ⟨G, j, none⟩) hG u)
          have HRQ := Lib.hid (hR.bel (Below.refl _ wr).drew)
          have HRR := Lib.hid hR
          have HBQ := Lib.hid hb
          have HST := Lib.hid hST
          clear hST
          have HNO := Lib.hid hNO
          clear hNO
          clear hv
          obtain ⟨ab, off, ⟨id, kind, state, gst, lev, cab, cat, frm, upto, til, fol⟩, A3, n3, c3, hA, hx, hF, hI, hcel⟩ := (HL.out.bel hb).bkg hlt
          subst hA
          simp only at hF
          have y0 : wr.cell? ⟨ab, off + k * 11, none⟩ = some (.int .i64 id) := hcel 0 _ rfl
          have y1 : wr.cell? ⟨ab, off + k * 11 + 1, none⟩ = some (.int .i64 kind) := hcel 1 _ rfl
          have y2 : wr.cell? ⟨ab, off + k * 11 + 2, none⟩ = some (.int .i64 state) := hcel 2 _ rfl
          have y3 : wr.cell? ⟨ab, off + k * 11 + 3, none⟩ = some (.int .i64 gst) := hcel 3 _ rfl
          have y4 : wr.cell? ⟨ab, off + k * 11 + 4, none⟩ = some (.bool lev) := hcel 4 _ rfl
          have y5 : wr.cell? ⟨ab, off + k * 11 + 5, none⟩ = some (.int .i64 cab) := hcel 5 _ rfl
          have y6 : wr.cell? ⟨ab, off + k * 11 + 6, none⟩ = some (.int .i64 cat) := hcel 6 _ rfl
          have y7 : wr.cell? ⟨ab, off + k * 11 + 7, none⟩ = some (.int .i64 frm) := hcel 7 _ rfl
          have y8 : wr.cell? ⟨ab, off + k * 11 + 8, none⟩ = some (.int .i64 upto) := hcel 8 _ rfl
          have y9 : wr.cell? ⟨ab, off + k * 11 + 9, none⟩ = some (.int .i64 til) := hcel 9 _ rfl
          have y10 : wr.cell? ⟨ab, off + k * 11 + 10, none⟩ = some (.slice A3 n3 c3) := hcel 10 _ rfl
          clear hcel
          have HXY := Lib.hid (show y = ⟨id, kind, state, gst, lev, cab, cat, frm, upto, til, fol⟩ from by have h1 := HY.out; rw [hx] at h1; injection h1 with h1; exact h1.symm)
          have hgs : y.gst = gst := by rw [HXY.out]
          have HGS := Lib.hid hgs
          rw [hgs] at HST HNO HRX HRQ HRR hgg
          have hfr : y.frm = frm := by rw [HXY.out]
          have hup : y.upto = upto := by rw [HXY.out]
          rw [hfr] at o1 o2
          rw [hup] at o2 o3
          have hwv : IntKind.i64.wrap (v + gst) = v + gst := by have := HN.out; rw [IntKind.wrap_i64]; omega
          have hwu : IntKind.i64.wrap (upto - 1) = upto - 1 := by rw [IntKind.wrap_i64]; omega
          have hj2 : (0 : Int) ≤ (j : Int) := Int.natCast_nonneg _
          have hj3 : (j : Int) < (N : Int) := by omega
          have hk2 : (0 : Int) ≤ (k : Int) := Int.natCast_nonneg _
          have hk3 : (k : Int) < (nb : Int) := by omega
          clear hx hF hI hR hb hbd hgs hfr hup
          by_cases hst : state = 3
          · have HIN := Lib.hid (show inB y j = false by rw [HXY.out]; unfold inB liveB; rw [decide_eq_true hst]; rfl)
            subst hst
            go_wp2_with fail
            go_quiet (fail)
            go_wp2_with fail
            go_roundg (N - (j + 1))
            case measure => omega
            case rel => exact ⟨j + 1, by omega, by omega, by go_num, by first | (rw [HGS.out, HNO.out HIN.out]; exact HRQ.out) | (rw [HGS.out, HNO.out HIN.out]; exact HRR.out.bel (below_drewN (Below.refl _ _) _)), by first | exact HBQ.out.drew | exact below_drewN HBQ.out _⟩
          · have hst' : (state != 3) = true := by simpa using hst
            have hbt := fun W => between_any (j : Int) frm (upto - 1) W
            obtain ⟨q, hq⟩ : ∃ q, q = betB (j : Int) frm (upto - 1) := ⟨_, rfl⟩
            rw [← hq] at hbt
            have HBT := Lib.hid hbt
            clear hbt
            have HIN := Lib.hid (show inB y j = q by
              rw [HXY.out, hq]
              unfold inB liveB betB
              rw [decide_eq_false hst]
              have h2 : decide ((j : Int) < upto) = decide ((j : Int) ≤ upto - 1) := by rw [decide_eq_decide]; omega
              simp only [h2]
              rfl)
            clear hst hq
            cases q
            · skip
              go_wp2_with fail
              go_quiet (first | (go_at_call 72; refine Calls.quiet_of_same ((HBT.out _).mono fun e w' hh => ⟨hh.1, hh.2.symm⟩)))
              go_wp2_with fail
              go_roundg (N - (j + 1))
              case measure => omega
              case rel => exact ⟨j + 1, by omega, by omega, by go_num, by first | (rw [HGS.out, HNO.out HIN.out]; exact HRQ.out) | (rw [HGS.out, HNO.out HIN.out]; exact HRR.out.bel (below_drewN (Below.refl _ _) _)), by first | exact HBQ.out.drew | exact below_drewN HBQ.out _⟩
            · skip
              go_upto_region 8 with (fail)
              go_cut [43] (fun t wx => t = .bool true ∧ ∃ n0, wx = wr.drewN n0)
              case first => as_aux_lemma =>
                go_quiet (first | (go_at_call 72; refine Calls.quiet_of_same ((HBT.out _).mono fun e w' hh => ⟨hh.1, hh.2.symm⟩)))
                go_wp2_with fail
                go_meet
                exact ⟨rfl, _, rfl⟩
              obtain ⟨rfl, n0, hwc⟩ := hcut
              have hbn : Below wr.heap.size wr wc := by rw [hwc]; exact below_drewN (Below.refl _ _) _
              have c0 := cellB hbn c0
              have f0 : wc.frozen? ⟨G, j, none⟩ = false := (HRR.out.bel hbn).free j
              have y3 := cellB hbn y3
              have HRZ := Lib.hid (fun u => ((HRR.out.bel hbn).bel (Below.refl _ wc).drew).set j u)
              have HBZ := Lib.hid (fun u => ((HBQ.out.trans (hbn.mono HBQ.out.size)).drew).setCell (p := ⟨G, j, none⟩) hG u)
              clear hwc y0 y1 y2 y4 y5 y6 y7 y8 y9 y10
              go_wp2_with fail
              go_region_with (fail)
              all_goals
                go_wp2_with fail
                go_roundg (N - (j + 1))
                case measure => omega
                case rel => exact ⟨j + 1, by omega, by omega, by go_num, by rw [HGS.out, HST.out HIN.out]; exact HRZ.out _, HBZ.out _⟩
        · obtain rfl : j = N := by omega
          have HV := Lib.hid (show soulL (l.take (k + 1)) j = addP M (fun i => decide (i < j) && inB y i) y.gst by
            rw [HSU.out]
            exact addP_congr (fun i hi => by rw [HML.out] at hi; rw [decide_eq_true hi]; rfl))
          have HRY := Lib.hid hR
          clear hR
          go_wp2_with fail
          go_roundg (nb - (k + 1))
          case measure => omega
          case rel => exact ⟨k + 1, by omega, by omega, by go_num, by rw [HV.out]; exact HRY.out, hb⟩
    · obtain rfl : k = nb := by omega
      rw [List.take_of_length_le (Nat.le_of_eq HN.out)] at hR
      go_wp2_with fail
      go_ret
      exact ⟨G, rfl, hG, hR, hb⟩
end Go.Proofs.YtlablioefblmkaaGreat
/-
  Bookings: Spans, Souls.
-/
namespace Go.Proofs.YtlablioefblmkaaGreat
open Go.RowKit Go.Shelf

/-- What is so of a booking that is right. -/
structure OkBk (x : Shp) (b : Bkg) : Prop where
  kind : betB b.kind 1 2 = true
  state : betB b.state 1 3 = true
  id : betB b.id 1 999999 = true
  gst : 1 ≤ b.gst ∧ b.gst ≤ 4
  span : spanE ⟨b.frm, b.upto⟩ x.legs = 0
  kindE : kindE x b = 0
  til : betB b.til 0 9999 = true
  opt : b.til ≠ 0 → b.state = 1
  fol : checkFolio b.fol = 0
theorem and_false_of {a b : Bool} (h : ¬ (a && b) = false) : a = true ∧ b = true := by cases a <;> cases b <;> simp_all
theorem not_false_of {a : Bool} (h : ¬ a = false) : a = true := by cases a <;> simp_all
theorem bk_ok {x : Shp} {b : Bkg} (h : ofE x b = 0) : OkBk x b := by
  unfold ofE at h
  by_cases h1 : (betB b.kind 1 2 && betB b.state 1 3) = false
  · rw [if_pos h1] at h; omega
  rw [if_neg h1] at h
  by_cases h2 : (betB b.id 1 999999 && betB b.gst 1 4) = false
  · rw [if_pos h2] at h; omega
  rw [if_neg h2] at h
  by_cases h3 : spanE ⟨b.frm, b.upto⟩ x.legs ≠ 0
  · rw [if_pos h3] at h; exact absurd h h3
  rw [if_neg h3] at h
  by_cases h4 : Go.Proofs.YtlablioefblmkaaGreat.kindE x b ≠ 0
  · rw [if_pos h4] at h; exact absurd h h4
  rw [if_neg h4] at h
  by_cases h5 : betB b.til 0 9999 = false
  · rw [if_pos h5] at h; omega
  rw [if_neg h5] at h
  by_cases h6 : b.til ≠ 0 ∧ b.state ≠ 1
  · rw [if_pos h6] at h; omega
  rw [if_neg h6] at h
  obtain ⟨a1, a2⟩ := and_false_of h1
  obtain ⟨a3, a4⟩ := and_false_of h2
  exact ⟨a1, a2, a3, betB_iff.1 a4, by omega, by omega, not_false_of h5, fun ht => by
    by_cases hs : b.state = 1
    · exact hs
    · exact absurd ⟨ht, hs⟩ h6, h⟩
theorem all_okB {x : Shp} {l : List Bkg} (h : allE x l = 0) : OkShp x ∧ ∀ b ∈ l, OkBk x b := by
  unfold allE at h
  by_cases h1 : shipE x ≠ 0
  · rw [if_pos h1] at h; exact absurd h h1
  rw [if_neg h1] at h
  refine ⟨shp_ok (by omega), fun b hb => ?_⟩
  obtain ⟨i, hi⟩ := List.getElem?_of_mem hb
  have := firstE_zero h i (List.getElem?_eq_some_iff.1 hi).1
  exact bk_ok ((ofE_at hi).symm.trans this)
theorem bk_span {x : Shp} {b : Bkg} (_ : OkShp x) (h : OkBk x b) : 0 ≤ b.frm ∧ b.frm < b.upto ∧ b.upto ≤ x.legs := (span_ok h.span).2.2
theorem shp_legs {x : Shp} (ho : OkShp x) : 1 ≤ x.legs ∧ x.legs ≤ 7 := betB_iff.1 ho.legs
theorem spOk_of {x : Shp} {l : List Bkg} (ho : OkShp x) (h : ∀ b ∈ l, OkBk x b) : SpOk l := fun b hb => by
  have h1 := bk_span ho (h b hb)
  have h2 := shp_legs ho
  exact ⟨h1.1, h1.2.1, by simp only; omega⟩
theorem abOk_of {x : Shp} {l : List Bkg} (ho : OkShp x) (h : ∀ b ∈ l, OkBk x b) : AbOk l x.legs.toNat := fun b hb => by
  have h1 := bk_span ho (h b hb)
  have h2 := shp_legs ho
  exact ⟨⟨h1.1, h1.2.1, by omega⟩, (h b hb).gst⟩

theorem Own.nilE {α : Type} {c : Cod α} {size : Nat} {e : TypeId} {w : World} {base : Nat} {r : Int} {l : List α} (h : ¬ r = 0) : Own c size e w base (.slice none 0 0) (okL r l) [] := by rw [okL_ne h]; exact Own.nil _ _ _ _ _

def spnE (x : Shp) (l : List Bkg) (c : Int) : Int := if allE x l ≠ 0 then allE x l else if betB c 0 ((x.cabs.length : Int) - 1) = false then 3 else if takB l c = false then 6 else 0
def sulE (x : Shp) (l : List Bkg) : Int := if allE x l ≠ 0 then allE x l else if 60 < mx (soulL l x.legs.toNat) then 2 else 0
theorem takL_none {l : List Bkg} {c : Int} (h : takB l c = false) : takL l c = [] := by
  unfold takB at h
  unfold takL
  cases e : spF (spL l c) with
  | none => rfl
  | some o => rw [e] at h; cases h

set_option maxRecDepth 100000 in
set_option maxHeartbeats 8000000 in
theorem Spans_any (x : Shp) (A : Option Addr) (n cap : Nat) (B : Option Addr) (m cap2 : Nat) (C : Option Addr) (nb cb : Nat) (l : List Bkg) (c : Int) (w : World) (hc : Sl catC 2 w All A n cap x.cats) (hb : Sl cabC 4 w All B m cap2 x.cabs) (hl : Sl bkgC 11 w All C nb cb l) (hn : nb ≤ 2000000000000) :
    Calls Tryz.prog 83 #[.agg #[.int .i64 x.legs, .int .i64 x.souls, .slice A n cap, .slice B m cap2], .slice C nb cb, .int .i64 c] w fun e w' => ∃ v xs, e = .returned (.tuple #[v, .int .i64 (spnE x l c)]) ∧ Own spanC 2 39 w' w.heap.size v (okL (spnE x l c) (takL l c)) xs ∧ Below w.heap.size w w' := by
  have HA := Lib.hid (fun W h1 h2 h3 => bookAll_any x A n cap B m cap2 C nb cb l W h1 h2 h3)
  have HT := Lib.hid (fun W h1 h2 => Taken_any C nb cb l c W h1 h2 hn)
  obtain ⟨r, hr⟩ : ∃ r, r = spnE x l c := ⟨_, rfl⟩
  rw [← hr]
  obtain ⟨u, hu⟩ : ∃ q, q = allE x l := ⟨_, rfl⟩
  obtain ⟨q1, hq1⟩ : ∃ q, q = betB c 0 ((m : Int) - 1) := ⟨_, rfl⟩
  obtain ⟨tb, htb⟩ : ∃ q, q = takB l c := ⟨_, rfl⟩
  obtain ⟨tl, htl⟩ : ∃ q, q = takL l c := ⟨_, rfl⟩
  replace hr : r = if u ≠ 0 then u else if q1 = false then 3 else if tb = false then 6 else 0 := by rw [hr, hu, hq1, htb, ← hb.len]; rfl
  have HTN := Lib.hid (show tb = false → tl = [] from fun h => by rw [htl]; exact takL_none (by rw [← htb]; exact h))
  rw [← hu] at HA
  rw [← htb, ← htl] at HT
  rw [← htl]
  have hw1 := fun W => bwithin_any c 0 ((m : Int) - 1) W
  rw [← hq1] at hw1
  have hwr := wrap_len hb.bd
  have HR := Lib.hid hr
  clear hr
  have HU := Lib.hid hu
  clear hu
  have HB := Lib.hid hb
  have HC := Lib.hid hc
  have HL := Lib.hid hl
  clear hb hc hl hq1 htb htl
  go_enter Tryz.func83, Tryz.ntmps83
  go_upto_region 0 with (fail)
  go_cut [3, 6, 7] (fun p _ _ wx => ∃ g, p = .pointer (some ⟨g, 0, none⟩) ∧ Blk wx g #[.int .i64 x.legs, .int .i64 x.souls, .slice A n cap, .slice B m cap2] 25 ∧ Below w.heap.size w wx)
  case first => as_aux_lemma =>
    go_wp2_with fail
    go_meet
    exact ⟨_, rfl, blk1 _ _, bel1 _ _⟩
  obtain ⟨g, rfl, hG, hbw⟩ := hcut
  have g0 : wc.cell? ⟨g, 0, none⟩ = some (.int .i64 x.legs) := hG.cell rfl
  have g1 : wc.cell? ⟨g, 1, none⟩ = some (.int .i64 x.souls) := hG.cell rfl
  have g2 : wc.cell? ⟨g, 2, none⟩ = some (.slice A n cap) := hG.cell rfl
  have g3 : wc.cell? ⟨g, 3, none⟩ = some (.slice B m cap2) := hG.cell rfl
  have HCALL := Lib.hid (HA.out wc (HC.out.bel hbw) (HB.out.bel hbw) (HL.out.bel hbw))
  go_wp2_with fail
  refine HCALL.out.mono ?_
  rintro e w2 ⟨rfl, hb2⟩
  replace hG := hG.bel hb2
  replace hbw := hbw.trans (hb2.mono hbw.size)
  clear hb2 g0 g1 g2 g3 HCALL HA
  by_cases hu : u = 0
  rotate_left
  · obtain rfl : r = u := by rw [HR.out, if_pos hu]
    have h0' : (r != 0) = true := by simpa using hu
    have HU0 := Lib.hid hu
    clear hu
    go_wp2_with fail
    go_ret2
    exact ⟨_, [], rfl, Own.nilE HU0.out, hbw⟩
  subst hu
  have HR2 := Lib.hid (HR.out.trans (if_neg (by simp)))
  have HOK := Lib.hid (all_okB HU.out.symm)
  clear HR HU
  have g3 : w2.cell? ⟨g, 3, none⟩ = some (.slice B m cap2) := hG.cell rfl
  go_wp2_with fail
  refine (hw1 _).mono ?_
  rintro e w9 ⟨rfl, rfl⟩
  cases q1
  · obtain rfl : r = 3 := HR2.out.trans (if_pos (by simp))
    go_wp2_with fail
    go_ret2
    exact ⟨_, [], rfl, Own.nilE (by decide), hbw⟩
  have HR3 := Lib.hid (HR2.out.trans (if_neg (by simp)))
  have HCALL := Lib.hid (HT.out w2 (HL.out.bel hbw) (spOk_of HOK.out.1 HOK.out.2))
  have hsz := hbw.size
  clear HR2
  go_wp2_with fail
  refine HCALL.out.mono ?_
  rintro e w3 ⟨v, xs, rfl, hO, hb3⟩
  obtain ⟨A4, n4, c4, rfl, _⟩ := hO.sl spanC_good
  cases tb
  · obtain rfl : r = 6 := HR3.out.trans (if_pos (by simp))
    clear hO
    go_wp2_with fail
    go_ret2
    exact ⟨_, [], rfl, Own.nilE (by decide), hbw.trans (hb3.mono hbw.size)⟩
  · obtain rfl : r = 0 := HR3.out.trans (if_neg (by simp))
    have HO := Lib.hid (hO.mono spanC_good hsz)
    clear hO
    go_wp2_with fail
    go_ret2
    exact ⟨_, xs, rfl, HO.out, hbw.trans (hb3.mono hbw.size)⟩

set_option maxRecDepth 100000 in
set_option maxHeartbeats 8000000 in
theorem Souls_any (x : Shp) (A : Option Addr) (n cap : Nat) (B : Option Addr) (m cap2 : Nat) (C : Option Addr) (nb cb : Nat) (l : List Bkg) (w : World) (hc : Sl catC 2 w All A n cap x.cats) (hb : Sl cabC 4 w All B m cap2 x.cabs) (hl : Sl bkgC 11 w All C nb cb l) (hn : nb ≤ 2000000000000) :
    Calls Tryz.prog 30 #[.agg #[.int .i64 x.legs, .int .i64 x.souls, .slice A n cap, .slice B m cap2], .slice C nb cb] w fun e w' => ∃ v xs, e = .returned (.tuple #[v, .int .i64 (sulE x l)]) ∧ Own intC 1 3 w' w.heap.size v (okL (sulE x l) (soulL l x.legs.toNat)) xs ∧ Below w.heap.size w w' := by
  have HA := Lib.hid (fun W h1 h2 h3 => bookAll_any x A n cap B m cap2 C nb cb l W h1 h2 h3)
  have HT := Lib.hid (fun N W h1 h2 h3 => Aboard_any N C nb cb l W h1 h2 h3 hn)
  obtain ⟨r, hr⟩ : ∃ r, r = sulE x l := ⟨_, rfl⟩
  rw [← hr]
  obtain ⟨u, hu⟩ : ∃ q, q = allE x l := ⟨_, rfl⟩
  obtain ⟨sl, hsl⟩ : ∃ q, q = soulL l x.legs.toNat := ⟨_, rfl⟩
  replace hr : r = if u ≠ 0 then u else if 60 < mx sl then 2 else 0 := by rw [hr, hu, hsl]; rfl
  rw [← hu] at HA
  rw [← hsl]
  have HR := Lib.hid hr
  clear hr
  have HU := Lib.hid hu
  clear hu
  have HSL := Lib.hid hsl
  clear hsl
  have HB := Lib.hid hb
  have HC := Lib.hid hc
  have HL := Lib.hid hl
  clear hb hc hl
  go_enter Tryz.func30, Tryz.ntmps30
  go_upto_region 0 with (fail)
  go_cut [2, 4, 5] (fun p _ _ wx => ∃ g, p = .pointer (some ⟨g, 0, none⟩) ∧ Blk wx g #[.int .i64 x.legs, .int .i64 x.souls, .slice A n cap, .slice B m cap2] 25 ∧ Below w.heap.size w wx)
  case first => as_aux_lemma =>
    go_wp2_with fail
    go_meet
    exact ⟨_, rfl, blk1 _ _, bel1 _ _⟩
  obtain ⟨g, rfl, hG, hbw⟩ := hcut
  have g0 : wc.cell? ⟨g, 0, none⟩ = some (.int .i64 x.legs) := hG.cell rfl
  have g1 : wc.cell? ⟨g, 1, none⟩ = some (.int .i64 x.souls) := hG.cell rfl
  have g2 : wc.cell? ⟨g, 2, none⟩ = some (.slice A n cap) := hG.cell rfl
  have g3 : wc.cell? ⟨g, 3, none⟩ = some (.slice B m cap2) := hG.cell rfl
  have HCALL := Lib.hid (HA.out wc (HC.out.bel hbw) (HB.out.bel hbw) (HL.out.bel hbw))
  go_wp2_with fail
  refine HCALL.out.mono ?_
  rintro e w2 ⟨rfl, hb2⟩
  replace hG := hG.bel hb2
  replace hbw := hbw.trans (hb2.mono hbw.size)
  clear hb2 g0 g1 g2 g3 HCALL HA
  by_cases hu : u = 0
  rotate_left
  · obtain rfl : r = u := by rw [HR.out, if_pos hu]
    have h0' : (r != 0) = true := by simpa using hu
    have HU0 := Lib.hid hu
    clear hu
    go_wp2_with fail
    go_ret2
    exact ⟨_, [], rfl, Own.nilE HU0.out, hbw⟩
  subst hu
  have HR2 := Lib.hid (HR.out.trans (if_neg (by simp)))
  have HOK := Lib.hid (all_okB HU.out.symm)
  have hlg := shp_legs HOK.out.1
  obtain ⟨N, hNl⟩ : ∃ N : Nat, x.legs = N := ⟨x.legs.toNat, by omega⟩
  have hNt : x.legs.toNat = N := by omega
  have hcall := HT.out N w2 (HL.out.bel hbw) (by rw [← hNt]; exact abOk_of HOK.out.1 HOK.out.2) (by omega)
  rw [← hNt] at hcall
  rw [← HSL.out, hNt, ← hNl] at hcall
  have HSLN := Lib.hid (show sl.length = N by rw [HSL.out, hNt]; exact soulL_len _ _)
  have HSB := Lib.hid (show ∀ y ∈ sl, 0 ≤ y ∧ y ≤ 4 * nb from fun y hy => by
    rw [HSL.out] at hy
    obtain ⟨i, hi⟩ := List.getElem?_of_mem hy
    have hlt : i < x.legs.toNat := by have := (List.getElem?_eq_some_iff.1 hi).1; rwa [soulL_len] at this
    rw [soulL_get _ _ _ hlt] at hi
    injection hi with hi
    have := soulK_bd (l := l) (fun b hb => (HOK.out.2 b hb).gst) i
    have := HL.out.len
    omega)
  have HN7 := Lib.hid (show 0 < N ∧ N ≤ 7 from by omega)
  have g0 : w2.cell? ⟨g, 0, none⟩ = some (.int .i64 x.legs) := hG.cell rfl
  have hsz := hbw.size
  have HCALL := Lib.hid hcall
  clear hcall
  clear HR HU hlg hNl hNt HT HSL
  go_wp2_with fail
  refine HCALL.out.mono ?_
  rintro e w3 ⟨G, rfl, hG2, hR, hb3⟩
  have hown := hR.own (base := w.heap.size) (by omega) (fun y hy => by have := HSB.out y hy; exact .of (by omega) (by omega)) (by have := HSLN.out; have := HN7.out.2; omega)
  rw [HSLN.out] at hown
  obtain ⟨A4, n4, c4, hv4, hs4⟩ := hown.sl intC_good
  simp only [Value.slice.injEq] at hv4
  obtain ⟨rfl, rfl, rfl⟩ := hv4
  have HMX := Lib.hid (Max_int _ _ _ sl w3 (hs4.all intC_good (by omega)) HN7.out.1 (fun y hy => (HSB.out y hy).1))
  obtain ⟨M, hM⟩ : ∃ M, M = mx sl := ⟨_, rfl⟩
  rw [← hM] at HMX
  have HR3 := Lib.hid (HR2.out)
  rw [← hM] at HR3
  have HO := Lib.hid hown
  clear hown
  clear hM HR2 hR hs4
  go_wp2_with fail
  refine HMX.out.mono ?_
  rintro e w4 ⟨rfl, rfl⟩
  by_cases h60 : 60 < M
  · obtain rfl : r = 2 := by rw [HR3.out, if_pos h60]
    go_wp2_with fail
    go_ret2
    exact ⟨_, [], rfl, Own.nilE (by decide), hbw.trans (hb3.mono hbw.size)⟩
  · obtain rfl : r = 0 := by rw [HR3.out, if_neg h60]
    go_wp2_with fail
    go_ret2
    exact ⟨_, _, rfl, HO.out, hbw.trans (hb3.mono hbw.size)⟩
end Go.Proofs.YtlablioefblmkaaGreat
/-
  Bookings: plain laws: one that is gone has no part in anything.
-/
namespace Go.Proofs.YtlablioefblmkaaGreat
open Go.RowKit Go.Shelf

/-- The first of some numbers that is not 0. -/
def firL (es : List Int) : Int := (es.find? (fun e => e != 0)).getD 0
theorem firL_snoc (es : List Int) (e : Int) : firL (es ++ [e]) = if firL es ≠ 0 then firL es else e := by
  unfold firL
  rw [List.find?_append]
  cases h : es.find? (fun e => e != 0) with
  | some v =>
    have hv : v ≠ 0 := by simpa using List.find?_some h
    simp [hv]
  | none =>
    by_cases he : e = 0
    · subst he; simp
    · simp [he]
theorem firL_drop (a b : List Int) : firL (a ++ 0 :: b) = firL (a ++ b) := by
  unfold firL
  rw [List.find?_append, List.find?_append, List.find?_cons_of_neg (by simp)]
theorem firstE_list (f : Bkg → Int) (l : List Bkg) : ∀ k, k ≤ l.length → firstE (fun i => f (l.getD i default)) k = firL ((l.take k).map f)
  | 0, _ => rfl
  | k + 1, h => by
    have hx : l[k]? = some (l[k]'(by omega)) := List.getElem?_eq_getElem (by omega)
    have ih := firstE_list f l k (by omega)
    rw [take_snoc hx, List.map_append, List.map_cons, List.map_nil, firL_snoc, ← ih]
    show (if firstE _ k ≠ 0 then firstE _ k else f (l.getD k default)) = _
    rw [List.getD_eq_getElem?_getD, hx]; rfl
theorem allE_list (x : Shp) (l : List Bkg) : allE x l = if shipE x ≠ 0 then shipE x else firL (l.map (ofE x)) := by
  unfold allE
  rw [firstE_list (ofE x) l l.length (Nat.le_refl _), List.take_length]
/-- Without booking k. -/
def lessL (l : List Bkg) (k : Nat) : List Bkg := l.take k ++ l.drop (k + 1)
theorem less_split {l : List Bkg} {k : Nat} {b : Bkg} (h : l[k]? = some b) : l = l.take k ++ b :: l.drop (k + 1) := by
  obtain ⟨hk, rfl⟩ := List.getElem?_eq_some_iff.1 h
  rw [List.getElem_cons_drop, List.take_append_drop]
theorem allE_less {x : Shp} {l : List Bkg} {k : Nat} {b : Bkg} (h : l[k]? = some b) (h0 : ofE x b = 0) : allE x (lessL l k) = allE x l := by
  rw [allE_list, allE_list]
  have : firL (l.map (ofE x)) = firL ((lessL l k).map (ofE x)) := by
    conv => lhs; rw [less_split h]
    unfold lessL
    rw [List.map_append, List.map_cons, h0, firL_drop, List.map_append]
  rw [this]
theorem spL_less {l : List Bkg} {k : Nat} {b : Bkg} (h : l[k]? = some b) (h3 : b.state = 3) (c : Int) : spL (lessL l k) c = spL l c := by
  have : spL l c = spL (l.take k ++ b :: l.drop (k + 1)) c := by rw [← less_split h]
  rw [this]
  unfold spL lessL
  rw [List.filter_append, List.filter_append, List.filter_cons_of_neg (by unfold hasB liveB; rw [h3]; simp)]
theorem soulK_less {l : List Bkg} {k : Nat} {b : Bkg} (h : l[k]? = some b) (h3 : b.state = 3) (i : Nat) : soulK (lessL l k) i = soulK l i := by
  have : soulK l i = soulK (l.take k ++ b :: l.drop (k + 1)) i := by rw [← less_split h]
  rw [this]
  unfold soulK lessL
  rw [List.map_append, List.map_append, List.sum_append, List.sum_append, List.map_cons, List.sum_cons, if_neg (by unfold liveB; rw [h3]; simp)]
  omega
theorem soulL_less {l : List Bkg} {k : Nat} {b : Bkg} (h : l[k]? = some b) (h3 : b.state = 3) (N : Nat) : soulL (lessL l k) N = soulL l N := by
  unfold soulL
  exact List.map_congr_left fun i _ => soulK_less h h3 i
theorem takB_less {l : List Bkg} {k : Nat} {b : Bkg} (h : l[k]? = some b) (h3 : b.state = 3) (c : Int) : takB (lessL l k) c = takB l c ∧ takL (lessL l k) c = takL l c := by
  unfold takB takL
  rw [spL_less h h3]
  exact ⟨rfl, rfl⟩
theorem spnE_less {x : Shp} {l : List Bkg} {k : Nat} {b : Bkg} (h : l[k]? = some b) (h3 : b.state = 3) (h0 : ofE x b = 0) (c : Int) : spnE x (lessL l k) c = spnE x l c := by
  unfold spnE
  rw [allE_less h h0, (takB_less h h3 c).1]
theorem sulE_less {x : Shp} {l : List Bkg} {k : Nat} {b : Bkg} (h : l[k]? = some b) (h3 : b.state = 3) (h0 : ofE x b = 0) : sulE x (lessL l k) = sulE x l := by
  unfold sulE
  rw [allE_less h h0, soulL_less h h3]
end Go.Proofs.YtlablioefblmkaaGreat
/-
  Plain laws on matchings: who finds somebody, and what is left; no program in sight.
-/
namespace Go.Proofs.YtlablioefblmkaaGreat

-- lists
theorem len_sub {α : Type} [DecidableEq α] : ∀ (l1 l2 : List α), l1.Nodup → (∀ x ∈ l1, x ∈ l2) → l1.length ≤ l2.length
  | [], _, _, _ => Nat.zero_le _
  | x :: l1, l2, hn, hs => by
    have hx := hs x (by simp)
    rw [List.nodup_cons] at hn
    have h1 := len_sub l1 (l2.erase x) hn.2 (fun y hy => (List.mem_erase_of_ne (fun e => hn.1 (by rw [← e]; exact hy))).2 (hs y (by simp [hy])))
    rw [List.length_erase_of_mem hx] at h1
    have := List.length_pos_of_mem hx
    rw [List.length_cons]; omega
theorem getD_setI (m : List Int) (i j : Nat) (v d : Int) (hi : i < m.length) : (m.set i v).getD j d = if i = j then v else m.getD j d := by
  simp only [List.getD_eq_getElem?_getD, List.getElem?_set]
  by_cases h : i = j
  · subst h; simp [hi]
  · simp [h]
theorem getD_setB (m : List Bool) (i j : Nat) (v d : Bool) (hi : i < m.length) : (m.set i v).getD j d = if i = j then v else m.getD j d := by
  simp only [List.getD_eq_getElem?_getD, List.getElem?_set]
  by_cases h : i = j
  · subst h; simp [hi]
  · simp [h]
theorem count_set : ∀ (m : List Int) (i : Nat) (v x : Int), i < m.length → (m.set i v).count x + (if m.getD i 0 = x then 1 else 0) = m.count x + (if v = x then 1 else 0)
  | [], i, v, x, h => absurd h (by simp)
  | y :: m, 0, v, x, _ => by
    simp only [List.set_cons_zero, List.count_cons, List.getD_cons_zero, beq_iff_eq]
    omega
  | y :: m, i + 1, v, x, h => by
    have := count_set m i v x (by simpa using h)
    simp only [List.set_cons_succ, List.count_cons, List.getD_cons_succ]
    omega
def unmet (m : List Bool) : Nat := m.count false
theorem unmet_set : ∀ (m : List Bool) (i : Nat), m.getD i true = false → unmet (m.set i true) + 1 = unmet m
  | [], i, h => by simp at h
  | y :: m, 0, h => by
    simp only [List.getD_cons_zero] at h
    subst h
    simp [unmet]
  | y :: m, i + 1, h => by
    have := unmet_set m i (by simpa using h)
    unfold unmet at *
    simp only [List.set_cons_succ, List.count_cons]
    omega

-- one that looks for somebody; N: whom each left one may have
def Shut (N : Nat → List Nat) (has : List Int) (D : Nat → Prop) : Prop := ∀ d, D d → ∀ r ∈ N d, ∃ d' : Nat, has.getD r (-1) = d' ∧ D d'

structure Found (N : Nat → List Nat) (has : List Int) (met : List Bool) (has' : List Int) (met' : List Bool) (l : Nat) : Prop where
  len : has'.length = has.length
  lenM : met'.length = met.length
  cnt : ∀ x : Nat, has'.count (x : Int) = has.count (x : Int) + (if x = l then 1 else 0)
  free : has'.count (-1) + 1 = has.count (-1)
  edge : ∀ r, r < has.length → has'.getD r (-1) = has.getD r (-1) ∨ ∃ d : Nat, has'.getD r (-1) = d ∧ r ∈ N d
  kept : ∀ r, met.getD r true = true → has'.getD r (-1) = has.getD r (-1)
  shut : ∀ D, Shut N has D → ¬ D l ∧ ∀ (r d : Nat), has.getD r (-1) = d → D d → has'.getD r (-1) = d
structure Failed (N : Nat → List Nat) (has : List Int) (ns : List Nat) (met met' : List Bool) : Prop where
  lenM : met'.length = met.length
  mono : ∀ r, met.getD r true = true → met'.getD r true = true
  kids : ∀ r ∈ ns, met'.getD r true = true
  shut : ∀ r, met'.getD r true = true → met.getD r true = false → ∃ d : Nat, has.getD r (-1) = d ∧ ∀ r' ∈ N d, met'.getD r' true = true

theorem Failed.nil (N : Nat → List Nat) (has : List Int) (met : List Bool) : Failed N has [] met met := ⟨rfl, fun _ h => h, by simp, fun r h1 h2 => by rw [h1] at h2; exact absurd h2 (by simp)⟩
theorem Failed.skip {N : Nat → List Nat} {has : List Int} {ns : List Nat} {met m1 : List Bool} (h : Failed N has ns met m1) {r : Nat} (hr : m1.getD r true = true) : Failed N has (ns ++ [r]) met m1 :=
  ⟨h.lenM, h.mono, fun x hx => by
    rcases List.mem_append.1 hx with hx | hx
    · exact h.kids x hx
    · simp only [List.mem_singleton] at hx; subst hx; exact hr, h.shut⟩
/-- One that is free is had. -/
theorem Failed.free {N : Nat → List Nat} {has : List Int} {ns : List Nat} {met m1 : List Bool} {l : Nat} (h : Failed N has ns met m1) {r : Nat} (hr : m1.getD r true = false) (hl : m1.length = has.length) (he : r ∈ N l) (hf : has.getD r (-1) = -1) :
    Found N has met (has.set r (l : Int)) (m1.set r true) l := by
  have hrl : r < has.length := by
    rw [← hl]
    by_cases h1 : r < m1.length
    · exact h1
    · rw [getD_far (by omega)] at hr; exact absurd hr (by simp)
  have h0 : has.getD r 0 = -1 := by rw [getD_at hrl] at hf ⊢; exact hf
  refine ⟨List.length_set .., by rw [List.length_set]; exact h.lenM, fun x => ?_, ?_, fun q _ => ?_, fun q hq => ?_, fun D hD => ⟨fun hDl => ?_, fun q d hq _ => ?_⟩⟩
  · have := count_set has r (l : Int) (x : Int) hrl
    rw [h0, if_neg (show ¬ (-1 : Int) = (x : Int) by omega)] at this
    by_cases hx : x = l
    · subst hx; rw [if_pos rfl] at this ⊢; omega
    · rw [if_neg (show ¬ (l : Int) = (x : Int) by omega)] at this; rw [if_neg hx]; omega
  · have := count_set has r (l : Int) (-1) hrl
    rw [h0, if_pos rfl, if_neg (show ¬ (l : Int) = -1 by omega)] at this; omega
  · rw [getD_setI _ _ _ _ _ hrl]
    by_cases hq : r = q
    · subst hq; rw [if_pos rfl]; exact .inr ⟨l, rfl, he⟩
    · rw [if_neg hq]; exact .inl rfl
  · rw [getD_setI _ _ _ _ _ hrl, if_neg (fun e => by subst e; rw [h.mono _ hq] at hr; exact absurd hr (by simp))]
  · obtain ⟨d', h1, _⟩ := hD l hDl r he
    rw [hf] at h1; omega
  · rw [getD_setI _ _ _ _ _ hrl, if_neg (fun e => by subst e; rw [hf] at hq; omega)]; exact hq
/-- One whose own one found another is had. -/
theorem Failed.swap {N : Nat → List Nat} {has has1 : List Int} {ns : List Nat} {met m1 m2 : List Bool} {l d : Nat} (h : Failed N has ns met m1) {r : Nat} (hr : m1.getD r true = false) (hl : m1.length = has.length) (he : r ∈ N l) (hf : has.getD r (-1) = (d : Int))
    (h2 : Found N has (m1.set r true) has1 m2 d) : Found N has met (has1.set r (l : Int)) m2 l := by
  have hrl : r < has.length := by
    rw [← hl]
    by_cases h1 : r < m1.length
    · exact h1
    · rw [getD_far (by omega)] at hr; exact absurd hr (by simp)
  have hr1 : r < has1.length := by rw [h2.len]; exact hrl
  have hk : has1.getD r (-1) = (d : Int) := by rw [h2.kept r (by rw [getD_setB _ _ _ _ _ (by omega)]; simp), hf]
  have h0 : has1.getD r 0 = (d : Int) := by rw [getD_at hr1] at hk ⊢; exact hk
  refine ⟨by rw [List.length_set, h2.len], by rw [h2.lenM, List.length_set]; exact h.lenM, fun x => ?_, ?_, fun q hq => ?_, fun q hq => ?_, fun D hD => ⟨fun hDl => ?_, fun q e hq hDe => ?_⟩⟩
  · have h3 := count_set has1 r (l : Int) (x : Int) hr1
    have h4 := h2.cnt x
    rw [h0] at h3
    by_cases hx : x = l <;> by_cases hy : x = d
    · rw [if_pos (by omega), if_pos (by omega)] at h3; rw [if_pos hy] at h4; rw [if_pos hx]; omega
    · rw [if_neg (by omega), if_pos (by omega)] at h3; rw [if_neg hy] at h4; rw [if_pos hx]; omega
    · rw [if_pos (by omega), if_neg (by omega)] at h3; rw [if_pos hy] at h4; rw [if_neg hx]; omega
    · rw [if_neg (by omega), if_neg (by omega)] at h3; rw [if_neg hy] at h4; rw [if_neg hx]; omega
  · have h3 := count_set has1 r (l : Int) (-1) hr1
    rw [h0, if_neg (by omega), if_neg (by omega)] at h3
    have := h2.free; omega
  · rw [getD_setI _ _ _ _ _ hr1]
    by_cases hqr : r = q
    · subst hqr; rw [if_pos rfl]; exact .inr ⟨l, rfl, he⟩
    · rw [if_neg hqr]; exact h2.edge q hq
  · have hqr : r ≠ q := fun e => by subst e; rw [h.mono _ hq] at hr; exact absurd hr (by simp)
    rw [getD_setI _ _ _ _ _ hr1, if_neg hqr]
    exact h2.kept q (by rw [getD_setB _ _ _ _ _ (by omega), if_neg hqr]; exact h.mono q hq)
  · obtain ⟨d', h3, h4⟩ := hD l hDl r he
    rw [hf] at h3
    obtain rfl : d = d' := by omega
    exact (h2.shut D hD).1 h4
  · have hqr : r ≠ q := fun e' => by
      subst e'
      rw [hf] at hq
      obtain rfl : d = e := by omega
      exact (h2.shut D hD).1 hDe
    rw [getD_setI _ _ _ _ _ hr1, if_neg hqr]
    exact (h2.shut D hD).2 q e hq hDe
/-- One whose own one found no other is met, and no more. -/
theorem Failed.more {N : Nat → List Nat} {has : List Int} {ns : List Nat} {met m1 m2 : List Bool} {d : Nat} (h : Failed N has ns met m1) {r : Nat} (hr : m1.getD r true = false) (hf : has.getD r (-1) = (d : Int))
    (h2 : Failed N has (N d) (m1.set r true) m2) : Failed N has (ns ++ [r]) met m2 := by
  have hrl : r < m1.length := by
    by_cases h1 : r < m1.length
    · exact h1
    · rw [getD_far (by omega)] at hr; exact absurd hr (by simp)
  have hm : ∀ q, m1.getD q true = true → m2.getD q true = true := fun q hq => h2.mono q (by rw [getD_setB _ _ _ _ _ hrl]; split; rfl; exact hq)
  have hrm : m2.getD r true = true := h2.mono r (by rw [getD_setB _ _ _ _ _ hrl]; simp)
  refine ⟨by rw [h2.lenM, List.length_set]; exact h.lenM, fun q hq => hm q (h.mono q hq), fun x hx => ?_, fun q hq hq0 => ?_⟩
  · rcases List.mem_append.1 hx with hx | hx
    · exact hm x (h.kids x hx)
    · simp only [List.mem_singleton] at hx; subst hx; exact hrm
  · by_cases h3 : m1.getD q true = true
    · obtain ⟨e, h4, h5⟩ := h.shut q h3 hq0
      exact ⟨e, h4, fun x hx => hm x (h5 x hx)⟩
    · by_cases hqr : r = q
      · subst hqr; exact ⟨d, hf, h2.kids⟩
      · exact h2.shut q hq (by rw [getD_setB _ _ _ _ _ hrl, if_neg hqr]; simpa using h3)
end Go.Proofs.YtlablioefblmkaaGreat
