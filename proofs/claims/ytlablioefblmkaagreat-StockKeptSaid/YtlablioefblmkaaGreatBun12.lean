/-
  Words, laws and contracts: BookI, BookJ, BookK, BookM, BookL.
-/
import Derived.Test.YtlablioefblmkaaGreatBun11
import Derived.Deep.RegionHeld3
set_option linter.unusedSimpArgs false
set_option linter.unusedVariables false
namespace Go.Proofs.YtlablioefblmkaaGreat
open Go.RowKit Go.Shelf
def addP (m : List Int) (p : Nat → Bool) (g : Int) : List Int := m.mapIdx (fun i v => if p i = true then v + g else v)
theorem addP_len (m : List Int) (p : Nat → Bool) (g : Int) : (addP m p g).length = m.length := by unfold addP; simp
theorem addP_get (m : List Int) (p : Nat → Bool) (g : Int) (i : Nat) : (addP m p g)[i]? = m[i]?.map (fun v => if p i = true then v + g else v) := by unfold addP; simp
theorem addP_congr {m : List Int} {p p' : Nat → Bool} {g : Int} (h : ∀ i, i < m.length → p i = p' i) : addP m p g = addP m p' g := by
  refine List.ext_getElem? fun i => ?_
  rw [addP_get, addP_get]
  by_cases hi : i < m.length
  · rw [h i hi]
  · rw [List.getElem?_eq_none (by omega)]; rfl
theorem addP_none {m : List Int} {p : Nat → Bool} {g : Int} (h : ∀ i, i < m.length → p i = false) : addP m p g = m := by
  refine List.ext_getElem? fun i => ?_
  rw [addP_get]
  by_cases hi : i < m.length
  · rw [h i hi, List.getElem?_eq_getElem hi]; simp
  · rw [List.getElem?_eq_none (by omega)]; rfl
theorem addP_step {m : List Int} {p p' : Nat → Bool} {g : Int} {j : Nat} (hj : j < m.length) (h0 : p j = false) (h1 : p' j = true) (h2 : ∀ i, i < m.length → i ≠ j → p' i = p i) : addP m p' g = (addP m p g).set j ((addP m p g).getD j 0 + g) := by
  refine List.ext_getElem? fun i => ?_
  rw [addP_get]
  by_cases hi : i = j
  · subst hi
    rw [List.getElem?_set_self (by rw [addP_len]; exact hj), List.getD_eq_getElem?_getD, addP_get, List.getElem?_eq_getElem hj, h0, h1]
    simp
  · rw [List.getElem?_set_ne (fun e => hi e.symm), addP_get]
    by_cases hl : i < m.length
    · rw [h2 i hl hi]
    · rw [List.getElem?_eq_none (by omega)]; rfl
def inB (b : Bkg) (i : Nat) : Bool := liveB b && (decide (b.frm ≤ i) && decide ((i : Int) < b.upto))
theorem soulK_snoc (l : List Bkg) (b : Bkg) (i : Nat) : soulK (l ++ [b]) i = if inB b i = true then soulK l i + b.gst else soulK l i := by
  unfold soulK
  rw [List.map_append, List.sum_append]
  by_cases h : liveB b = true ∧ b.frm ≤ i ∧ (i : Int) < b.upto
  · have hb : inB b i = true := by unfold inB; simp [h]
    rw [hb]; simp [h]
  · have hb : inB b i = false := by
      cases e : inB b i
      · rfl
      · unfold inB at e; simp at e; exact absurd ⟨e.1, e.2⟩ h
    rw [hb]; simp [h]
theorem soulL_len (l : List Bkg) (N : Nat) : (soulL l N).length = N := by unfold soulL; simp
theorem soulL_get (l : List Bkg) (N i : Nat) (h : i < N) : (soulL l N)[i]? = some (soulK l i) := by unfold soulL; simp [h]
theorem soulL_succ {l : List Bkg} {k N : Nat} {b : Bkg} (h : l[k]? = some b) : soulL (l.take (k + 1)) N = addP (soulL (l.take k) N) (inB b) b.gst := by
  refine List.ext_getElem? fun i => ?_
  rw [addP_get, take_snoc h]
  by_cases hi : i < N
  · rw [soulL_get _ _ _ hi, soulL_get _ _ _ hi, soulK_snoc]; rfl
  · rw [List.getElem?_eq_none (by rw [soulL_len]; omega), List.getElem?_eq_none (by rw [soulL_len]; omega)]; rfl
def AbOk (l : List Bkg) (N : Nat) : Prop := ∀ b ∈ l, (0 ≤ b.frm ∧ b.frm < b.upto ∧ b.upto ≤ N) ∧ 1 ≤ b.gst ∧ b.gst ≤ 4
theorem soulK_bd : ∀ {l : List Bkg}, (∀ b ∈ l, 1 ≤ b.gst ∧ b.gst ≤ 4) → ∀ i, 0 ≤ soulK l i ∧ soulK l i ≤ 4 * l.length
  | [], _, i => by simp [soulK]
  | b :: l, h, i => by
    have ih := soulK_bd (l := l) (fun x hx => h x (List.mem_cons_of_mem _ hx)) i
    have hb := h b (List.mem_cons_self ..)
    have : soulK (b :: l) i = (if liveB b = true ∧ b.frm ≤ i ∧ (i : Int) < b.upto then b.gst else 0) + soulK l i := by unfold soulK; simp
    rw [this, List.length_cons]
    split <;> omega
theorem addP_bd {m : List Int} {p : Nat → Bool} {g M : Int} (h : ∀ i, 0 ≤ m.getD i 0 ∧ m.getD i 0 ≤ M) (hg : 0 ≤ g ∧ g ≤ 4) (i : Nat) : 0 ≤ (addP m p g).getD i 0 ∧ (addP m p g).getD i 0 ≤ M + 4 := by
  have := h i
  rw [List.getD_eq_getElem?_getD] at this
  rw [List.getD_eq_getElem?_getD, addP_get]
  cases e : m[i]? with
  | none => rw [e] at this; simp at this ⊢; omega
  | some v =>
    rw [e] at this
    simp only [Option.getD_some, Option.map_some] at this ⊢
    split <;> omega
theorem soulL_bd {l : List Bkg} {N : Nat} (h : AbOk l N) (k i : Nat) : 0 ≤ (soulL (l.take k) N).getD i 0 ∧ (soulL (l.take k) N).getD i 0 ≤ 4 * l.length := by
  rw [List.getD_eq_getElem?_getD]
  by_cases hi : i < N
  · rw [soulL_get _ _ _ hi]
    have := soulK_bd (l := l.take k) (fun b hb => (h b (List.mem_of_mem_take hb)).2) i
    rw [List.length_take] at this
    simp only [Option.getD_some]
    omega
  · rw [List.getElem?_eq_none (by rw [soulL_len]; omega)]
    simp
    omega
theorem soulL_nil (N : Nat) : soulL [] N = List.replicate N 0 := by
  unfold soulL soulK
  simp [List.eq_replicate_iff]
theorem mkInts6 (W : World) : (Instr.makeSlice 44 (.int .i64 6) (.int .i64 6)).run Tryz.prog W = .ok (.slice (some ⟨W.heap.size, 0, none⟩) 6 6) (W.alloc (.cells ((List.replicate 6 (0 : Int)).map (Value.int .i64)).toArray 3)) := by kernel_rfl
theorem mkInts7 (W : World) : (Instr.makeSlice 44 (.int .i64 7) (.int .i64 7)).run Tryz.prog W = .ok (.slice (some ⟨W.heap.size, 0, none⟩) 7 7) (W.alloc (.cells ((List.replicate 7 (0 : Int)).map (Value.int .i64)).toArray 3)) := by kernel_rfl
theorem mkIntsL (n : Nat) (hn : n ≤ 7) (W : World) : (Instr.makeSlice 44 (.int .i64 n) (.int .i64 n)).run Tryz.prog W = .ok (.slice (some ⟨W.heap.size, 0, none⟩) n n) (W.alloc (.cells ((List.replicate n (0 : Int)).map (Value.int .i64)).toArray 3)) := by
  have h : n ≤ 5 ∨ n = 6 ∨ n = 7 := by omega
  rcases h with h | rfl | rfl
  · exact mkInts n h W
  · exact mkInts6 W
  · exact mkInts7 W
theorem RowI.own {w : World} {G base : Nat} {m : List Int} (h : RowI w G m 3) (hb : base ≤ G) (hi : ∀ x ∈ m, InI x) (hm : m.length ≤ 1000000) : Own intC 1 3 w base (.slice (some ⟨G, 0, none⟩) m.length m.length) m (m.map (Value.int .i64)) := by
  refine ⟨⟨by simp, .inr ⟨G, m.length, _, rfl, hb, h, Nat.le_refl _, by simp only [maxLen]; omega, by simp, by simp; exact List.take_of_length_le (by simp)⟩⟩, fun i x hx => ⟨[.int .i64 x], ⟨rfl, hi x (List.mem_of_getElem? hx)⟩, rfl, fun j u hu => ?_⟩⟩
  rcases j with _ | j
  · simp at hu; subst hu; simp [hx]
  · simp at hu
set_option maxRecDepth 100000 in
set_option maxHeartbeats 8000000 in
theorem Aboard_any (N : Nat) (C : Option Addr) (nb cb : Nat) (l : List Bkg) (w : World) (hl : Sl bkgC 11 w All C nb cb l) (hok : AbOk l N) (hN : N ≤ 7) (hn : nb ≤ 2000000000000) :
    Calls Tryz.prog 88 #[.int .i64 (N : Int), .slice C nb cb] w fun e w' => ∃ G, e = .returned (.slice (some ⟨G, 0, none⟩) N N) ∧ w.heap.size ≤ G ∧ RowI w' G (soulL l N) 3 ∧ Below w.heap.size w w' := by
  have hbd := hl.bd
  have HL := Lib.hid hl
  have HN := Lib.hid hl.len
  have HOK := Lib.hid hok
  clear hok
  have hmk := fun W => mkIntsL N hN W
  clear hl
  go_enter Tryz.func88, Tryz.ntmps88
  go_upto_region 1 with (fail)
  go_cut [5] (fun p wx => ∃ G, p = .slice (some ⟨G, 0, none⟩) N N ∧ w.heap.size ≤ G ∧ RowI wx G (soulL (l.take 0) N) 3 ∧ Below w.heap.size w wx)
  case first => as_aux_lemma =>
    go_wp2_with fail
    go_meet
    exact ⟨_, rfl, Nat.le_refl _, by rw [List.take_zero, soulL_nil]; unfold RowI; rw [show ((List.replicate N (0 : Int)).map (Value.int .i64)).toArray = Array.replicate N (.int .i64 0) by simp]; exact blk1 _ _, bel1 _ _⟩
  obtain ⟨G, rfl, hG, hR, hb0⟩ := hcut
  have HR := Lib.hid hR
  clear hR
  have HB0 := Lib.hid hb0
  clear hb0
  clear hmk
  obtain ⟨W0, hW0⟩ : ∃ W, W = wc := ⟨_, rfl⟩
  subst hW0
  go_wp2_with fail
  go_loopg [13] nb (fun gk i wr => ∃ k : Nat, k ≤ nb ∧ nb - k ≤ gk ∧ i = .int .i64 k ∧ RowI wr G (soulL (l.take k) N) 3 ∧ Below w.heap.size w wr)
  case atStart => exact ⟨0, Nat.zero_le _, by omega, rfl, HR.out, HB0.out⟩
  case round =>
    obtain ⟨k, hk, hgk, rfl, hR, hb⟩ := hrel
    by_cases hlt : k < nb
    · have hGl := Blk.lt hR
      obtain ⟨ab, off, ⟨id, kind, state, gst, lev, cab, cat, frm, upto, til, fol⟩, A3, n3, c3, hA, hx, hF, hI, hcel⟩ := (HL.out.bel hb).bkg hlt
      subst hA
      simp only at hF
      have y0 : wr.cell? ⟨ab, off + k * 11, none⟩ = some (.int .i64 id) := hcel 0 _ rfl
      have y1 : wr.cell? ⟨ab, off + k * 11 + 1, none⟩ = some (.int .i64 kind) := hcel 1 _ rfl
      have y2 : wr.cell? ⟨ab, off + k * 11 + 2, none⟩ = some (.int .i64 state) := hcel 2 _ rfl
      have y3 : wr.cell? ⟨ab, off + k * 11 + 3, none⟩ = some (.int .i64 gst) := hcel 3 _ rfl
      have y4 : wr.cell? ⟨ab, off + k * 11 + 4, none⟩ = some (.bool lev) := hcel 4 _ rfl
      have y5 : wr.cell? ⟨ab, off + k * 11 + 5, none⟩ = some (.int .i64 cab) := hcel 5 _ rfl
      have y6 : wr.cell? ⟨ab, off + k * 11 + 6, none⟩ = some (.int .i64 cat) := hcel 6 _ rfl
      have y7 : wr.cell? ⟨ab, off + k * 11 + 7, none⟩ = some (.int .i64 frm) := hcel 7 _ rfl
      have y8 : wr.cell? ⟨ab, off + k * 11 + 8, none⟩ = some (.int .i64 upto) := hcel 8 _ rfl
      have y9 : wr.cell? ⟨ab, off + k * 11 + 9, none⟩ = some (.int .i64 til) := hcel 9 _ rfl
      have y10 : wr.cell? ⟨ab, off + k * 11 + 10, none⟩ = some (.slice A3 n3 c3) := hcel 10 _ rfl
      clear hcel
      go_upto_region 4 with (fail)
      go_cut [7] (fun p wx => ∃ z, p = .pointer (some ⟨z, 0, none⟩) ∧ wr.heap.size ≤ z ∧ Blk wx z (bkgA ⟨id, kind, state, gst, lev, cab, cat, frm, upto, til, fol⟩ (.slice A3 n3 c3)) 42 ∧ Below wr.heap.size wr wx)
      case first => as_aux_lemma =>
        go_wp2_with fail
        go_meet
        exact ⟨_, rfl, Nat.le_refl _, blk1 _ _, bel1 _ _⟩
      obtain ⟨z, rfl, hzs, hZ, hbz⟩ := hcut
      clear y0 y1 y2 y3 y4 y5 y6 y7 y8 y9 y10
      replace hF := hF.bel hbz
      have hR := hR.bel hbz
      have hzG : z ≠ G := by omega
      replace hb := hb.trans (hbz.mono hb.size)
      clear hbz hF
      have z0 : wc.cell? ⟨z, 0, none⟩ = some (.int .i64 id) := hZ.cell rfl
      have z1 : wc.cell? ⟨z, 1, none⟩ = some (.int .i64 kind) := hZ.cell rfl
      have z2 : wc.cell? ⟨z, 2, none⟩ = some (.int .i64 state) := hZ.cell rfl
      have z3 : wc.cell? ⟨z, 3, none⟩ = some (.int .i64 gst) := hZ.cell rfl
      have z4 : wc.cell? ⟨z, 4, none⟩ = some (.bool lev) := hZ.cell rfl
      have z5 : wc.cell? ⟨z, 5, none⟩ = some (.int .i64 cab) := hZ.cell rfl
      have z6 : wc.cell? ⟨z, 6, none⟩ = some (.int .i64 cat) := hZ.cell rfl
      have z7 : wc.cell? ⟨z, 7, none⟩ = some (.int .i64 frm) := hZ.cell rfl
      have z8 : wc.cell? ⟨z, 8, none⟩ = some (.int .i64 upto) := hZ.cell rfl
      have z9 : wc.cell? ⟨z, 9, none⟩ = some (.int .i64 til) := hZ.cell rfl
      have z10 : wc.cell? ⟨z, 10, none⟩ = some ((.slice A3 n3 c3)) := hZ.cell rfl
      have hLv := fun W => Live_any ⟨id, kind, state, gst, lev, cab, cat, frm, upto, til, fol⟩ (.slice A3 n3 c3) W
      obtain ⟨q, hq⟩ : ∃ q, q = liveB ⟨id, kind, state, gst, lev, cab, cat, frm, upto, til, fol⟩ := ⟨_, rfl⟩
      rw [← hq] at hLv
      have HLV := Lib.hid hLv
      have HSU := Lib.hid (soulL_succ (N := N) hx)
      have HBD := Lib.hid (fun i => soulL_bd (HOK.out) k i)
      obtain ⟨⟨o1, o2, o3⟩, o4, o5⟩ := HOK.out _ (List.mem_of_getElem? hx)
      simp only at o1 o2 o3 o4 o5
      obtain ⟨f, rfl⟩ : ∃ f : Nat, frm = f := ⟨frm.toNat, by omega⟩
      obtain ⟨t, rfl⟩ : ∃ t : Nat, upto = t := ⟨upto.toNat, by omega⟩
      obtain ⟨M, hM⟩ : ∃ M, M = soulL (l.take k) N := ⟨_, rfl⟩
      rw [← hM] at HSU HBD hR
      have HML := Lib.hid (show M.length = N by rw [hM]; exact soulL_len _ _)
      have HQ := Lib.hid hq
      have HR := Lib.hid hR
      clear hR
      clear hLv hq hx hI hGl hM
      go_wp2_with fail
      refine (HLV.out _).mono ?_
      rintro e w2 ⟨rfl, hb2⟩
      replace hZ := hZ.bel hb2
      have hR := HR.out.bel hb2
      replace hb := hb.trans (hb2.mono hb.size)
      clear hb2 z0 z1 z2 z3 z4 z5 z6 z7 z8 z9 z10 HLV HR
      cases q
      · have HV := Lib.hid (show soulL (l.take (k + 1)) N = M by rw [HSU.out]; exact addP_none (fun i _ => by unfold inB; rw [← HQ.out]; rfl))
        have HR := Lib.hid hR
        clear hR
        go_wp2_with fail
        go_roundg (nb - (k + 1))
        case measure => omega
        case rel => exact ⟨k + 1, by omega, by omega, by go_num, by rw [HV.out]; exact HR.out, hb⟩
      · have z7 : w2.cell? ⟨z, 7, none⟩ = some (.int .i64 (f : Int)) := hZ.cell rfl
        have HZ := Lib.hid hZ
        clear hZ
        have HR := Lib.hid hR
        clear hR
        have HB := Lib.hid hb
        clear hb
        go_wp2_with fail
        go_loopg [8] (t - f) (fun gk2 j wr2 => ∃ j0 : Nat, f ≤ j0 ∧ j0 ≤ t ∧ t - j0 ≤ gk2 ∧ j = .int .i64 j0 ∧ RowI wr2 G (addP M (fun i => decide (f ≤ i) && decide (i < j0)) gst) 3 ∧ Blk wr2 z (bkgA ⟨id, kind, state, gst, lev, cab, cat, f, t, til, fol⟩ (.slice A3 n3 c3)) 42 ∧ Below w.heap.size w wr2)
        case atStart => exact ⟨f, Nat.le_refl _, by omega, by omega, rfl, by rw [addP_none (fun i _ => by simp <;> omega)]; exact HR.out, HZ.out, HB.out⟩
        case round =>
          obtain ⟨j, hj0, hj1, hgj, rfl, hR, hZ, hb⟩ := hrel
          have z8 : wr.cell? ⟨z, 8, none⟩ = some (.int .i64 (t : Int)) := hZ.cell rfl
          have z3 : wr.cell? ⟨z, 3, none⟩ = some (.int .i64 gst) := hZ.cell rfl
          by_cases hjt : j < t
          · have hjN : j < N := by omega
            have c0 := hR.cell (i := j) (by rw [addP_len, HML.out]; exact hjN)
            have f0 := hR.free j
            have hgg : 0 ≤ gst ∧ gst ≤ 4 := ⟨by omega, by omega⟩
            have hbd := addP_bd (p := fun i => decide (f ≤ i) && decide (i < j)) HBD.out hgg j
            obtain ⟨v, hv⟩ : ∃ v, v = (addP M (fun i => decide (f ≤ i) && decide (i < j)) gst).getD j 0 := ⟨_, rfl⟩
            rw [← hv] at c0 hbd
            have hwv : IntKind.i64.wrap (v + gst) = v + gst := by have := HN.out; rw [IntKind.wrap_i64]; omega
            have HST := Lib.hid (show addP M (fun i => decide (f ≤ i) && decide (i < j + 1)) gst = (addP M (fun i => decide (f ≤ i) && decide (i < j)) gst).set j (v + gst) by
              rw [hv]
              exact addP_step (by rw [HML.out]; exact hjN) (by simp) (by simp <;> omega) (fun i _ hij => by
                have hd : decide (i < j + 1) = decide (i < j) := by rw [decide_eq_decide]; omega
                rw [hd]))
            have hj2 : (0 : Int) ≤ (j : Int) := Int.natCast_nonneg _
            have hj3 : (j : Int) < (N : Int) := by omega
            have HRX := Lib.hid (fun u => (hR.bel (Below.refl _ wr).drew).set j u)
            have HZX := Lib.hid (fun u => Blk.other (hZ.bel (Below.refl _ wr).drew) (p := ⟨G, j, none⟩) (fun e => hzG e.symm) u)
            have HBX := Lib.hid (fun u => (hb.drew).setCell (p := ⟨G, j, none⟩) hG u)
            clear hv hR hZ hb hbd
            go_wp2_with fail
            go_region_with (fail)
            all_goals
              go_wp2_with fail
              go_roundg (t - (j + 1))
              case measure => omega
              case rel => exact ⟨j + 1, by omega, by omega, by omega, by go_num, by rw [HST.out]; exact HRX.out _, HZX.out _, HBX.out _⟩
          · obtain rfl : j = t := by omega
            have HV := Lib.hid (show soulL (l.take (k + 1)) N = addP M (fun i => decide (f ≤ i) && decide (i < j)) gst by
              rw [HSU.out]
              exact addP_congr (fun i _ => by
                unfold inB
                rw [← HQ.out]
                simp only [Bool.true_and]
                have h1 : decide ((f : Int) ≤ (i : Int)) = decide (f ≤ i) := by rw [decide_eq_decide]; omega
                have h2 : decide ((i : Int) < (j : Int)) = decide (i < j) := by rw [decide_eq_decide]; omega
                rw [h1, h2]))
            have HRY := Lib.hid hR
            clear hR
            clear hZ
            go_wp2_with fail
            go_roundg (nb - (k + 1))
            case measure => omega
            case rel => exact ⟨k + 1, by omega, by omega, by go_num, by rw [HV.out]; exact HRY.out, hb⟩
    · obtain rfl : k = nb := by omega
      rw [List.take_of_length_le (Nat.le_of_eq HN.out)] at hR
      go_wp2_with fail
      go_ret
      exact ⟨G, rfl, hG, hR, hb⟩
end Go.Proofs.YtlablioefblmkaaGreat
namespace Go.Proofs.YtlablioefblmkaaGreat
open Go.RowKit Go.Shelf
set_option maxRecDepth 100000 in
set_option maxHeartbeats 8000000 in
theorem SoulsOf_any (N : Nat) (C : Option Addr) (nb cb : Nat) (l : List Bkg) (w : World) (hl : Sl bkgC 11 w All C nb cb l) (hok : AbOk l N) (hN : N ≤ 7) (hn : nb ≤ 2000000000000) :
    Calls Tryz.prog 149 #[.int .i64 (N : Int), .slice C nb cb] w fun e w' => ∃ G, e = .returned (.slice (some ⟨G, 0, none⟩) N N) ∧ w.heap.size ≤ G ∧ RowI w' G (soulL l N) 3 ∧ Below w.heap.size w w' := by
  have hbd := hl.bd
  have HL := Lib.hid hl
  have HN := Lib.hid hl.len
  have HOK := Lib.hid hok
  clear hok
  have hmk := fun W => mkIntsL N hN W
  clear hl
  go_enter Tryz.func149, Tryz.ntmps149
  go_upto_region 1 with (fail)
  go_cut [5] (fun p wx => ∃ G, p = .slice (some ⟨G, 0, none⟩) N N ∧ w.heap.size ≤ G ∧ RowI wx G (soulL (l.take 0) N) 3 ∧ Below w.heap.size w wx)
  case first => as_aux_lemma =>
    go_wp2_with fail
    go_meet
    exact ⟨_, rfl, Nat.le_refl _, by rw [List.take_zero, soulL_nil]; unfold RowI; rw [show ((List.replicate N (0 : Int)).map (Value.int .i64)).toArray = Array.replicate N (.int .i64 0) by simp]; exact blk1 _ _, bel1 _ _⟩
  obtain ⟨G, rfl, hG, hR, hb0⟩ := hcut
  have HR := Lib.hid hR
  clear hR
  have HB0 := Lib.hid hb0
  clear hb0
  clear hmk
  obtain ⟨W0, hW0⟩ : ∃ W, W = wc := ⟨_, rfl⟩
  subst hW0
  go_wp2_with fail
  go_loopg [6] nb (fun gk i wr => ∃ k : Nat, k ≤ nb ∧ nb - k ≤ gk ∧ i = .int .i64 k ∧ RowI wr G (soulL (l.take k) N) 3 ∧ Below w.heap.size w wr)
  case atStart => exact ⟨0, Nat.zero_le _, by omega, rfl, HR.out, HB0.out⟩
  case round =>
    obtain ⟨k, hk, hgk, rfl, hR, hb⟩ := hrel
    by_cases hlt : k < nb
    · have HBD := Lib.hid (fun i => soulL_bd (HOK.out) k i)
      obtain ⟨y, hy⟩ : ∃ y, l[k]? = some y := ⟨_, List.getElem?_eq_getElem (by have := HN.out; omega)⟩
      have HSU := Lib.hid (soulL_succ (N := N) hy)
      obtain ⟨⟨o1, o2, o3⟩, o4, o5⟩ := HOK.out _ (List.mem_of_getElem? hy)
      obtain ⟨M, hM⟩ : ∃ M, M = soulL (l.take k) N := ⟨_, rfl⟩
      rw [← hM] at HSU HBD hR
      have HML := Lib.hid (show M.length = N by rw [hM]; exact soulL_len _ _)
      have HY := Lib.hid hy
      clear hy
      have HR := Lib.hid hR
      clear hR
      have HB := Lib.hid hb
      clear hb
      clear hM
      go_wp2_with fail
      go_loopg [7] N (fun gk2 j wr2 => ∃ j0 : Nat, j0 ≤ N ∧ N - j0 ≤ gk2 ∧ j = .int .i64 j0 ∧ RowI wr2 G (addP M (fun i => decide (i < j0) && inB y i) y.gst) 3 ∧ Below w.heap.size w wr2)
      case atStart => exact ⟨0, Nat.zero_le _, by omega, rfl, by rw [addP_none (fun i _ => by simp)]; exact HR.out, HB.out⟩
      case round =>
        obtain ⟨j, hj1, hgj, rfl, hR, hb⟩ := hrel
        by_cases hjt : j < N
        · have c0 := hR.cell (i := j) (by rw [addP_len, HML.out]; exact hjt)
          have f0 := hR.free j
          have hgg : 0 ≤ y.gst ∧ y.gst ≤ 4 := ⟨by omega, by omega⟩
          have hbd := addP_bd (p := fun i => decide (i < j) && inB y i) HBD.out hgg j
          obtain ⟨v, hv⟩ : ∃ v, v = (addP M (fun i => decide (i < j) && inB y i) y.gst).getD j 0 := ⟨_, rfl⟩
          rw [← hv] at c0 hbd
          have hST : inB y j = true → addP M (fun i => decide (i < j + 1) && inB y i) y.gst = (addP M (fun i => decide (i < j) && inB y i) y.gst).set j (v + y.gst) := fun hin => by
              rw [hv]
              exact addP_step (by rw [HML.out]; exact hjt) (by simp) (by simp [hin]) (fun i _ hij => by
                have hd : decide (i < j + 1) = decide (i < j) := by rw [decide_eq_decide]; omega
                simp only [hd])
          have hNO : inB y j = false → addP M (fun i => decide (i < j + 1) && inB y i) y.gst = addP M (fun i => decide (i < j) && inB y i) y.gst := fun hin =>
              addP_congr (fun i _ => by
                by_cases hij : i = j
                · subst hij; simp [hin]
                · have hd : decide (i < j + 1) = decide (i < j) := by rw [decide_eq_decide]; omega
                  simp only [hd])
          have HRX := Lib.hid (fun u => (hR.bel (Below.refl _ wr).drew).set j u)
          have HBX := Lib.hid (fun u => (hb.drew).setCell (p := ⟨G, j, none⟩) hG u)
          have HRQ := Lib.hid (hR.bel (Below.refl _ wr).drew)
          have HRR := Lib.hid hR
          have HBQ := Lib.hid hb
          have HST := Lib.hid hST
          clear hST
          have HNO := Lib.hid hNO
          clear hNO
          clear hv
          obtain ⟨ab, off, ⟨id, kind, state, gst, lev, cab, cat, frm, upto, til, fol⟩, A3, n3, c3, hA, hx, hF, hI, hcel⟩ := (HL.out.bel hb).bkg hlt
          subst hA
          simp only at hF
          have y0 : wr.cell? ⟨ab, off + k * 11, none⟩ = some (.int .i64 id) := hcel 0 _ rfl
          have y1 : wr.cell? ⟨ab, off + k * 11 + 1, none⟩ = some (.int .i64 kind) := hcel 1 _ rfl
          have y2 : wr.cell? ⟨ab, off + k * 11 + 2, none⟩ = some (.int .i64 state) := hcel 2 _ rfl
          have y3 : wr.cell? ⟨ab, off + k * 11 + 3, none⟩ = some (.int .i64 gst) := hcel 3 _ rfl
          have y4 : wr.cell? ⟨ab, off + k * 11 + 4, none⟩ = some (.bool lev) := hcel 4 _ rfl
          have y5 : wr.cell? ⟨ab, off + k * 11 + 5, none⟩ = some (.int .i64 cab) := hcel 5 _ rfl
          have y6 : wr.cell? ⟨ab, off + k * 11 + 6, none⟩ = some (.int .i64 cat) := hcel 6 _ rfl
          have y7 : wr.cell? ⟨ab, off + k * 11 + 7, none⟩ = some (.int .i64 frm) := hcel 7 _ rfl
          have y8 : wr.cell? ⟨ab, off + k * 11 + 8, none⟩ = some (.int .i64 upto) := hcel 8 _ rfl
          have y9 : wr.cell? ⟨ab, off + k * 11 + 9, none⟩ = some (.int .i64 til) := hcel 9 _ rfl
          have y10 : wr.cell? ⟨ab, off + k * 11 + 10, none⟩ = some (.slice A3 n3 c3) := hcel 10 _ rfl
          clear hcel
          have HXY := Lib.hid (show y = ⟨id, kind, state, gst, lev, cab, cat, frm, upto, til, fol⟩ from by have h1 := HY.out; rw [hx] at h1; injection h1 with h1; exact h1.symm)
          have hgs : y.gst = gst := by rw [HXY.out]
          have HGS := Lib.hid hgs
          rw [hgs] at HST HNO HRX HRQ HRR hgg
          have hfr : y.frm = frm := by rw [HXY.out]
          have hup : y.upto = upto := by rw [HXY.out]
          rw [hfr] at o1 o2
          rw [hup] at o2 o3
          have hwv : IntKind.i64.wrap (v + gst) = v + gst := by have := HN.out; rw [IntKind.wrap_i64]; omega
          have hwu : IntKind.i64.wrap (upto - 1) = upto - 1 := by rw [IntKind.wrap_i64]; omega
          have hj2 : (0 : Int) ≤ (j : Int) := Int.natCast_nonneg _
          have hj3 : (j : Int) < (N : Int) := by omega
          have hk2 : (0 : Int) ≤ (k : Int) := Int.natCast_nonneg _
          have hk3 : (k : Int) < (nb : Int) := by omega
          clear hx hF hI hR hb hbd hgs hfr hup
          by_cases hst : state = 3
          · have HIN := Lib.hid (show inB y j = false by rw [HXY.out]; unfold inB liveB; rw [decide_eq_true hst]; rfl)
            subst hst
            go_wp2_with fail
            go_quiet (fail)
            go_wp2_with fail
            go_roundg (N - (j + 1))
            case measure => omega
            case rel => exact ⟨j + 1, by omega, by omega, by go_num, by first | (rw [HGS.out, HNO.out HIN.out]; exact HRQ.out) | (rw [HGS.out, HNO.out HIN.out]; exact HRR.out.bel (below_drewN (Below.refl _ _) _)), by first | exact HBQ.out.drew | exact below_drewN HBQ.out _⟩
          · have hst' : (state != 3) = true := by simpa using hst
            have hbt := fun W => between_any (j : Int) frm (upto - 1) W
            obtain ⟨q, hq⟩ : ∃ q, q = betB (j : Int) frm (upto - 1) := ⟨_, rfl⟩
            rw [← hq] at hbt
            have HBT := Lib.hid hbt
            clear hbt
            have HIN := Lib.hid (show inB y j = q by
              rw [HXY.out, hq]
              unfold inB liveB betB
              rw [decide_eq_false hst]
              have h2 : decide ((j : Int) < upto) = decide ((j : Int) ≤ upto - 1) := by rw [decide_eq_decide]; omega
              simp only [h2]
              rfl)
            clear hst hq
            cases q
            · skip
              go_wp2_with fail
              go_quiet (first | (go_at_call 72; refine Calls.quiet_of_same ((HBT.out _).mono fun e w' hh => ⟨hh.1, hh.2.symm⟩)))
              go_wp2_with fail
              go_roundg (N - (j + 1))
              case measure => omega
              case rel => exact ⟨j + 1, by omega, by omega, by go_num, by first | (rw [HGS.out, HNO.out HIN.out]; exact HRQ.out) | (rw [HGS.out, HNO.out HIN.out]; exact HRR.out.bel (below_drewN (Below.refl _ _) _)), by first | exact HBQ.out.drew | exact below_drewN HBQ.out _⟩
            · skip
              go_upto_region 8 with (fail)
              go_cut [43] (fun t wx => t = .bool true ∧ ∃ n0, wx = wr.drewN n0)
              case first => as_aux_lemma =>
                go_quiet (first | (go_at_call 72; refine Calls.quiet_of_same ((HBT.out _).mono fun e w' hh => ⟨hh.1, hh.2.symm⟩)))
                go_wp2_with fail
                go_meet
                exact ⟨rfl, _, rfl⟩
              obtain ⟨rfl, n0, hwc⟩ := hcut
              have hbn : Below wr.heap.size wr wc := by rw [hwc]; exact below_drewN (Below.refl _ _) _
              have c0 := cellB hbn c0
              have f0 : wc.frozen? ⟨G, j, none⟩ = false := (HRR.out.bel hbn).free j
              have y3 := cellB hbn y3
              have HRZ := Lib.hid (fun u => ((HRR.out.bel hbn).bel (Below.refl _ wc).drew).set j u)
              have HBZ := Lib.hid (fun u => ((HBQ.out.trans (hbn.mono HBQ.out.size)).drew).setCell (p := ⟨G, j, none⟩) hG u)
              clear hwc y0 y1 y2 y4 y5 y6 y7 y8 y9 y10
              go_wp2_with fail
              go_region_with (fail)
              all_goals
                go_wp2_with fail
                go_roundg (N - (j + 1))
                case measure => omega
                case rel => exact ⟨j + 1, by omega, by omega, by go_num, by rw [HGS.out, HST.out HIN.out]; exact HRZ.out _, HBZ.out _⟩
        · obtain rfl : j = N := by omega
          have HV := Lib.hid (show soulL (l.take (k + 1)) j = addP M (fun i => decide (i < j) && inB y i) y.gst by
            rw [HSU.out]
            exact addP_congr (fun i hi => by rw [HML.out] at hi; rw [decide_eq_true hi]; rfl))
          have HRY := Lib.hid hR
          clear hR
          go_wp2_with fail
          go_roundg (nb - (k + 1))
          case measure => omega
          case rel => exact ⟨k + 1, by omega, by omega, by go_num, by rw [HV.out]; exact HRY.out, hb⟩
    · obtain rfl : k = nb := by omega
      rw [List.take_of_length_le (Nat.le_of_eq HN.out)] at hR
      go_wp2_with fail
      go_ret
      exact ⟨G, rfl, hG, hR, hb⟩
end Go.Proofs.YtlablioefblmkaaGreat
namespace Go.Proofs.YtlablioefblmkaaGreat
open Go.RowKit Go.Shelf
structure OkBk (x : Shp) (b : Bkg) : Prop where
  kind : betB b.kind 1 2 = true
  state : betB b.state 1 3 = true
  id : betB b.id 1 999999 = true
  gst : 1 ≤ b.gst ∧ b.gst ≤ 4
  span : spanE ⟨b.frm, b.upto⟩ x.legs = 0
  kindE : kindE x b = 0
  til : betB b.til 0 9999 = true
  opt : b.til ≠ 0 → b.state = 1
  fol : checkFolio b.fol = 0
theorem and_false_of {a b : Bool} (h : ¬ (a && b) = false) : a = true ∧ b = true := by cases a <;> cases b <;> simp_all
theorem not_false_of {a : Bool} (h : ¬ a = false) : a = true := by cases a <;> simp_all
theorem bk_ok {x : Shp} {b : Bkg} (h : ofE x b = 0) : OkBk x b := by
  unfold ofE at h
  by_cases h1 : (betB b.kind 1 2 && betB b.state 1 3) = false
  · rw [if_pos h1] at h; omega
  rw [if_neg h1] at h
  by_cases h2 : (betB b.id 1 999999 && betB b.gst 1 4) = false
  · rw [if_pos h2] at h; omega
  rw [if_neg h2] at h
  by_cases h3 : spanE ⟨b.frm, b.upto⟩ x.legs ≠ 0
  · rw [if_pos h3] at h; exact absurd h h3
  rw [if_neg h3] at h
  by_cases h4 : Go.Proofs.YtlablioefblmkaaGreat.kindE x b ≠ 0
  · rw [if_pos h4] at h; exact absurd h h4
  rw [if_neg h4] at h
  by_cases h5 : betB b.til 0 9999 = false
  · rw [if_pos h5] at h; omega
  rw [if_neg h5] at h
  by_cases h6 : b.til ≠ 0 ∧ b.state ≠ 1
  · rw [if_pos h6] at h; omega
  rw [if_neg h6] at h
  obtain ⟨a1, a2⟩ := and_false_of h1
  obtain ⟨a3, a4⟩ := and_false_of h2
  exact ⟨a1, a2, a3, betB_iff.1 a4, by omega, by omega, not_false_of h5, fun ht => by
    by_cases hs : b.state = 1
    · exact hs
    · exact absurd ⟨ht, hs⟩ h6, h⟩
theorem all_okB {x : Shp} {l : List Bkg} (h : allE x l = 0) : OkShp x ∧ ∀ b ∈ l, OkBk x b := by
  unfold allE at h
  by_cases h1 : shipE x ≠ 0
  · rw [if_pos h1] at h; exact absurd h h1
  rw [if_neg h1] at h
  refine ⟨shp_ok (by omega), fun b hb => ?_⟩
  obtain ⟨i, hi⟩ := List.getElem?_of_mem hb
  have := firstE_zero h i (List.getElem?_eq_some_iff.1 hi).1
  exact bk_ok ((ofE_at hi).symm.trans this)
theorem bk_span {x : Shp} {b : Bkg} (_ : OkShp x) (h : OkBk x b) : 0 ≤ b.frm ∧ b.frm < b.upto ∧ b.upto ≤ x.legs := (span_ok h.span).2.2
theorem shp_legs {x : Shp} (ho : OkShp x) : 1 ≤ x.legs ∧ x.legs ≤ 7 := betB_iff.1 ho.legs
theorem spOk_of {x : Shp} {l : List Bkg} (ho : OkShp x) (h : ∀ b ∈ l, OkBk x b) : SpOk l := fun b hb => by
  have h1 := bk_span ho (h b hb)
  have h2 := shp_legs ho
  exact ⟨h1.1, h1.2.1, by simp only; omega⟩
theorem abOk_of {x : Shp} {l : List Bkg} (ho : OkShp x) (h : ∀ b ∈ l, OkBk x b) : AbOk l x.legs.toNat := fun b hb => by
  have h1 := bk_span ho (h b hb)
  have h2 := shp_legs ho
  exact ⟨⟨h1.1, h1.2.1, by omega⟩, (h b hb).gst⟩
theorem Own.nilE {α : Type} {c : Cod α} {size : Nat} {e : TypeId} {w : World} {base : Nat} {r : Int} {l : List α} (h : ¬ r = 0) : Own c size e w base (.slice none 0 0) (okL r l) [] := by rw [okL_ne h]; exact Own.nil _ _ _ _ _
def spnE (x : Shp) (l : List Bkg) (c : Int) : Int := if allE x l ≠ 0 then allE x l else if betB c 0 ((x.cabs.length : Int) - 1) = false then 3 else if takB l c = false then 6 else 0
def sulE (x : Shp) (l : List Bkg) : Int := if allE x l ≠ 0 then allE x l else if 60 < mx (soulL l x.legs.toNat) then 2 else 0
theorem takL_none {l : List Bkg} {c : Int} (h : takB l c = false) : takL l c = [] := by
  unfold takB at h
  unfold takL
  cases e : spF (spL l c) with
  | none => rfl
  | some o => rw [e] at h; cases h
set_option maxRecDepth 100000 in
set_option maxHeartbeats 8000000 in
theorem Spans_any (x : Shp) (A : Option Addr) (n cap : Nat) (B : Option Addr) (m cap2 : Nat) (C : Option Addr) (nb cb : Nat) (l : List Bkg) (c : Int) (w : World) (hc : Sl catC 2 w All A n cap x.cats) (hb : Sl cabC 4 w All B m cap2 x.cabs) (hl : Sl bkgC 11 w All C nb cb l) (hn : nb ≤ 2000000000000) :
    Calls Tryz.prog 83 #[.agg #[.int .i64 x.legs, .int .i64 x.souls, .slice A n cap, .slice B m cap2], .slice C nb cb, .int .i64 c] w fun e w' => ∃ v xs, e = .returned (.tuple #[v, .int .i64 (spnE x l c)]) ∧ Own spanC 2 39 w' w.heap.size v (okL (spnE x l c) (takL l c)) xs ∧ Below w.heap.size w w' := by
  have HA := Lib.hid (fun W h1 h2 h3 => bookAll_any x A n cap B m cap2 C nb cb l W h1 h2 h3)
  have HT := Lib.hid (fun W h1 h2 => Taken_any C nb cb l c W h1 h2 hn)
  obtain ⟨r, hr⟩ : ∃ r, r = spnE x l c := ⟨_, rfl⟩
  rw [← hr]
  obtain ⟨u, hu⟩ : ∃ q, q = allE x l := ⟨_, rfl⟩
  obtain ⟨q1, hq1⟩ : ∃ q, q = betB c 0 ((m : Int) - 1) := ⟨_, rfl⟩
  obtain ⟨tb, htb⟩ : ∃ q, q = takB l c := ⟨_, rfl⟩
  obtain ⟨tl, htl⟩ : ∃ q, q = takL l c := ⟨_, rfl⟩
  replace hr : r = if u ≠ 0 then u else if q1 = false then 3 else if tb = false then 6 else 0 := by rw [hr, hu, hq1, htb, ← hb.len]; rfl
  have HTN := Lib.hid (show tb = false → tl = [] from fun h => by rw [htl]; exact takL_none (by rw [← htb]; exact h))
  rw [← hu] at HA
  rw [← htb, ← htl] at HT
  rw [← htl]
  have hw1 := fun W => bwithin_any c 0 ((m : Int) - 1) W
  rw [← hq1] at hw1
  have hwr := wrap_len hb.bd
  have HR := Lib.hid hr
  clear hr
  have HU := Lib.hid hu
  clear hu
  have HB := Lib.hid hb
  have HC := Lib.hid hc
  have HL := Lib.hid hl
  clear hb hc hl hq1 htb htl
  go_enter Tryz.func83, Tryz.ntmps83
  go_upto_region 0 with (fail)
  go_cut [3, 6, 7] (fun p _ _ wx => ∃ g, p = .pointer (some ⟨g, 0, none⟩) ∧ Blk wx g #[.int .i64 x.legs, .int .i64 x.souls, .slice A n cap, .slice B m cap2] 25 ∧ Below w.heap.size w wx)
  case first => as_aux_lemma =>
    go_wp2_with fail
    go_meet
    exact ⟨_, rfl, blk1 _ _, bel1 _ _⟩
  obtain ⟨g, rfl, hG, hbw⟩ := hcut
  have g0 : wc.cell? ⟨g, 0, none⟩ = some (.int .i64 x.legs) := hG.cell rfl
  have g1 : wc.cell? ⟨g, 1, none⟩ = some (.int .i64 x.souls) := hG.cell rfl
  have g2 : wc.cell? ⟨g, 2, none⟩ = some (.slice A n cap) := hG.cell rfl
  have g3 : wc.cell? ⟨g, 3, none⟩ = some (.slice B m cap2) := hG.cell rfl
  have HCALL := Lib.hid (HA.out wc (HC.out.bel hbw) (HB.out.bel hbw) (HL.out.bel hbw))
  go_wp2_with fail
  refine HCALL.out.mono ?_
  rintro e w2 ⟨rfl, hb2⟩
  replace hG := hG.bel hb2
  replace hbw := hbw.trans (hb2.mono hbw.size)
  clear hb2 g0 g1 g2 g3 HCALL HA
  by_cases hu : u = 0
  rotate_left
  · obtain rfl : r = u := by rw [HR.out, if_pos hu]
    have h0' : (r != 0) = true := by simpa using hu
    have HU0 := Lib.hid hu
    clear hu
    go_wp2_with fail
    go_ret2
    exact ⟨_, [], rfl, Own.nilE HU0.out, hbw⟩
  subst hu
  have HR2 := Lib.hid (HR.out.trans (if_neg (by simp)))
  have HOK := Lib.hid (all_okB HU.out.symm)
  clear HR HU
  have g3 : w2.cell? ⟨g, 3, none⟩ = some (.slice B m cap2) := hG.cell rfl
  go_wp2_with fail
  refine (hw1 _).mono ?_
  rintro e w9 ⟨rfl, rfl⟩
  cases q1
  · obtain rfl : r = 3 := HR2.out.trans (if_pos (by simp))
    go_wp2_with fail
    go_ret2
    exact ⟨_, [], rfl, Own.nilE (by decide), hbw⟩
  have HR3 := Lib.hid (HR2.out.trans (if_neg (by simp)))
  have HCALL := Lib.hid (HT.out w2 (HL.out.bel hbw) (spOk_of HOK.out.1 HOK.out.2))
  have hsz := hbw.size
  clear HR2
  go_wp2_with fail
  refine HCALL.out.mono ?_
  rintro e w3 ⟨v, xs, rfl, hO, hb3⟩
  obtain ⟨A4, n4, c4, rfl, _⟩ := hO.sl spanC_good
  cases tb
  · obtain rfl : r = 6 := HR3.out.trans (if_pos (by simp))
    clear hO
    go_wp2_with fail
    go_ret2
    exact ⟨_, [], rfl, Own.nilE (by decide), hbw.trans (hb3.mono hbw.size)⟩
  · obtain rfl : r = 0 := HR3.out.trans (if_neg (by simp))
    have HO := Lib.hid (hO.mono spanC_good hsz)
    clear hO
    go_wp2_with fail
    go_ret2
    exact ⟨_, xs, rfl, HO.out, hbw.trans (hb3.mono hbw.size)⟩
set_option maxRecDepth 100000 in
set_option maxHeartbeats 8000000 in
theorem Souls_any (x : Shp) (A : Option Addr) (n cap : Nat) (B : Option Addr) (m cap2 : Nat) (C : Option Addr) (nb cb : Nat) (l : List Bkg) (w : World) (hc : Sl catC 2 w All A n cap x.cats) (hb : Sl cabC 4 w All B m cap2 x.cabs) (hl : Sl bkgC 11 w All C nb cb l) (hn : nb ≤ 2000000000000) :
    Calls Tryz.prog 30 #[.agg #[.int .i64 x.legs, .int .i64 x.souls, .slice A n cap, .slice B m cap2], .slice C nb cb] w fun e w' => ∃ v xs, e = .returned (.tuple #[v, .int .i64 (sulE x l)]) ∧ Own intC 1 3 w' w.heap.size v (okL (sulE x l) (soulL l x.legs.toNat)) xs ∧ Below w.heap.size w w' := by
  have HA := Lib.hid (fun W h1 h2 h3 => bookAll_any x A n cap B m cap2 C nb cb l W h1 h2 h3)
  have HT := Lib.hid (fun N W h1 h2 h3 => Aboard_any N C nb cb l W h1 h2 h3 hn)
  obtain ⟨r, hr⟩ : ∃ r, r = sulE x l := ⟨_, rfl⟩
  rw [← hr]
  obtain ⟨u, hu⟩ : ∃ q, q = allE x l := ⟨_, rfl⟩
  obtain ⟨sl, hsl⟩ : ∃ q, q = soulL l x.legs.toNat := ⟨_, rfl⟩
  replace hr : r = if u ≠ 0 then u else if 60 < mx sl then 2 else 0 := by rw [hr, hu, hsl]; rfl
  rw [← hu] at HA
  rw [← hsl]
  have HR := Lib.hid hr
  clear hr
  have HU := Lib.hid hu
  clear hu
  have HSL := Lib.hid hsl
  clear hsl
  have HB := Lib.hid hb
  have HC := Lib.hid hc
  have HL := Lib.hid hl
  clear hb hc hl
  go_enter Tryz.func30, Tryz.ntmps30
  go_upto_region 0 with (fail)
  go_cut [2, 4, 5] (fun p _ _ wx => ∃ g, p = .pointer (some ⟨g, 0, none⟩) ∧ Blk wx g #[.int .i64 x.legs, .int .i64 x.souls, .slice A n cap, .slice B m cap2] 25 ∧ Below w.heap.size w wx)
  case first => as_aux_lemma =>
    go_wp2_with fail
    go_meet
    exact ⟨_, rfl, blk1 _ _, bel1 _ _⟩
  obtain ⟨g, rfl, hG, hbw⟩ := hcut
  have g0 : wc.cell? ⟨g, 0, none⟩ = some (.int .i64 x.legs) := hG.cell rfl
  have g1 : wc.cell? ⟨g, 1, none⟩ = some (.int .i64 x.souls) := hG.cell rfl
  have g2 : wc.cell? ⟨g, 2, none⟩ = some (.slice A n cap) := hG.cell rfl
  have g3 : wc.cell? ⟨g, 3, none⟩ = some (.slice B m cap2) := hG.cell rfl
  have HCALL := Lib.hid (HA.out wc (HC.out.bel hbw) (HB.out.bel hbw) (HL.out.bel hbw))
  go_wp2_with fail
  refine HCALL.out.mono ?_
  rintro e w2 ⟨rfl, hb2⟩
  replace hG := hG.bel hb2
  replace hbw := hbw.trans (hb2.mono hbw.size)
  clear hb2 g0 g1 g2 g3 HCALL HA
  by_cases hu : u = 0
  rotate_left
  · obtain rfl : r = u := by rw [HR.out, if_pos hu]
    have h0' : (r != 0) = true := by simpa using hu
    have HU0 := Lib.hid hu
    clear hu
    go_wp2_with fail
    go_ret2
    exact ⟨_, [], rfl, Own.nilE HU0.out, hbw⟩
  subst hu
  have HR2 := Lib.hid (HR.out.trans (if_neg (by simp)))
  have HOK := Lib.hid (all_okB HU.out.symm)
  have hlg := shp_legs HOK.out.1
  obtain ⟨N, hNl⟩ : ∃ N : Nat, x.legs = N := ⟨x.legs.toNat, by omega⟩
  have hNt : x.legs.toNat = N := by omega
  have hcall := HT.out N w2 (HL.out.bel hbw) (by rw [← hNt]; exact abOk_of HOK.out.1 HOK.out.2) (by omega)
  rw [← hNt] at hcall
  rw [← HSL.out, hNt, ← hNl] at hcall
  have HSLN := Lib.hid (show sl.length = N by rw [HSL.out, hNt]; exact soulL_len _ _)
  have HSB := Lib.hid (show ∀ y ∈ sl, 0 ≤ y ∧ y ≤ 4 * nb from fun y hy => by
    rw [HSL.out] at hy
    obtain ⟨i, hi⟩ := List.getElem?_of_mem hy
    have hlt : i < x.legs.toNat := by have := (List.getElem?_eq_some_iff.1 hi).1; rwa [soulL_len] at this
    rw [soulL_get _ _ _ hlt] at hi
    injection hi with hi
    have := soulK_bd (l := l) (fun b hb => (HOK.out.2 b hb).gst) i
    have := HL.out.len
    omega)
  have HN7 := Lib.hid (show 0 < N ∧ N ≤ 7 from by omega)
  have g0 : w2.cell? ⟨g, 0, none⟩ = some (.int .i64 x.legs) := hG.cell rfl
  have hsz := hbw.size
  have HCALL := Lib.hid hcall
  clear hcall
  clear HR HU hlg hNl hNt HT HSL
  go_wp2_with fail
  refine HCALL.out.mono ?_
  rintro e w3 ⟨G, rfl, hG2, hR, hb3⟩
  have hown := hR.own (base := w.heap.size) (by omega) (fun y hy => by have := HSB.out y hy; exact .of (by omega) (by omega)) (by have := HSLN.out; have := HN7.out.2; omega)
  rw [HSLN.out] at hown
  obtain ⟨A4, n4, c4, hv4, hs4⟩ := hown.sl intC_good
  simp only [Value.slice.injEq] at hv4
  obtain ⟨rfl, rfl, rfl⟩ := hv4
  have HMX := Lib.hid (Max_int _ _ _ sl w3 (hs4.all intC_good (by omega)) HN7.out.1 (fun y hy => (HSB.out y hy).1))
  obtain ⟨M, hM⟩ : ∃ M, M = mx sl := ⟨_, rfl⟩
  rw [← hM] at HMX
  have HR3 := Lib.hid (HR2.out)
  rw [← hM] at HR3
  have HO := Lib.hid hown
  clear hown
  clear hM HR2 hR hs4
  go_wp2_with fail
  refine HMX.out.mono ?_
  rintro e w4 ⟨rfl, rfl⟩
  by_cases h60 : 60 < M
  · obtain rfl : r = 2 := by rw [HR3.out, if_pos h60]
    go_wp2_with fail
    go_ret2
    exact ⟨_, [], rfl, Own.nilE (by decide), hbw.trans (hb3.mono hbw.size)⟩
  · obtain rfl : r = 0 := by rw [HR3.out, if_neg h60]
    go_wp2_with fail
    go_ret2
    exact ⟨_, _, rfl, HO.out, hbw.trans (hb3.mono hbw.size)⟩
end Go.Proofs.YtlablioefblmkaaGreat
namespace Go.Proofs.YtlablioefblmkaaGreat
open Go.RowKit Go.Shelf
def lessL (l : List Bkg) (k : Nat) : List Bkg := l.take k ++ l.drop (k + 1)
theorem less_split {l : List Bkg} {k : Nat} {b : Bkg} (h : l[k]? = some b) : l = l.take k ++ b :: l.drop (k + 1) := by
  obtain ⟨hk, rfl⟩ := List.getElem?_eq_some_iff.1 h
  rw [List.getElem_cons_drop, List.take_append_drop]
end Go.Proofs.YtlablioefblmkaaGreat
namespace Go.Proofs.YtlablioefblmkaaGreat
open Go.RowKit Go.Shelf
def namedX : Bkg := ⟨7, 1, 2, 3, false, 1, 0, 1, 3, 0, []⟩
def promisedX : Bkg := ⟨9, 2, 1, 2, false, -1, 0, 0, 3, 4, []⟩
def bookX : List Bkg := [namedX, promisedX]
set_option maxRecDepth 100000 in
theorem namedL_any (w : World) : Calls Tryz.prog 82 #[] w fun e w' => e = .returned (.agg #[.int .i64 7, .int .i64 1, .int .i64 2, .int .i64 3, .bool false, .int .i64 1, .int .i64 0, .int .i64 1, .int .i64 3, .int .i64 0, .slice none 0 0]) ∧ Below w.heap.size w w' := by
  go_enter Tryz.func82, Tryz.ntmps82
  go_wp2_with fail
  refine bodyPost_ret (v := .agg #[.int .i64 7, .int .i64 1, .int .i64 2, .int .i64 3, .bool false, .int .i64 1, .int .i64 0, .int .i64 1, .int .i64 3, .int .i64 0, .slice none 0 0]) (by simp [results, Tryz.results82, go_sem]) rfl ?_
  exact ⟨rfl, bel1 _ _⟩
set_option maxRecDepth 100000 in
theorem promisedL_any (w : World) : Calls Tryz.prog 55 #[] w fun e w' => e = .returned (.agg #[.int .i64 9, .int .i64 2, .int .i64 1, .int .i64 2, .bool false, .int .i64 (-1), .int .i64 0, .int .i64 0, .int .i64 3, .int .i64 4, .slice none 0 0]) ∧ Below w.heap.size w w' := by
  go_enter Tryz.func55, Tryz.ntmps55
  go_wp2_with fail
  refine bodyPost_ret (v := .agg #[.int .i64 9, .int .i64 2, .int .i64 1, .int .i64 2, .bool false, .int .i64 (-1), .int .i64 0, .int .i64 0, .int .i64 3, .int .i64 4, .slice none 0 0]) (by simp [results, Tryz.results55, go_sem]) rfl ?_
  exact ⟨rfl, bel1 _ _⟩
def encB (x : Bkg) : List Value := (bkgA x (.slice none 0 0)).toList
theorem flat_bk (l : List Bkg) : ∀ i x, l[i]? = some x → ∀ j u, (encB x)[j]? = some u → (l.flatMap encB)[i * 11 + j]? = some u := by
  induction l with
  | nil => intro i x hx; simp at hx
  | cons y l ih =>
    intro i x hx j u hu
    rcases i with _ | i
    · simp at hx; subst hx
      have hj : j < 11 := (List.getElem?_eq_some_iff.1 hu).1
      rw [List.flatMap_cons, Nat.zero_mul, Nat.zero_add, List.getElem?_append_left (by exact hj)]
      exact hu
    · rw [List.flatMap_cons, List.getElem?_append_right (by show 11 ≤ _; omega)]
      rw [show (i + 1) * 11 + j - (encB y).length = i * 11 + j by show _ - 11 = _; omega]
      exact ih i x (by simpa using hx) j u hu
theorem Sl.ofBkgs {w : World} {S : Nat → Prop} {b : Nat} {cs : Array Value} {t : TypeId} (l : List Bkg) (h : Blk w b cs t) (hl : l.length ≤ 1000) (hS : S b) (he : cs.toList = l.flatMap encB) (hi : ∀ x ∈ l, BkIn x ∧ x.fol = []) :
    Sl bkgC 11 w S (some ⟨b, 0, none⟩) l.length l.length l :=
  Sl.ofBlk h l (by omega) hS fun i x hx => ⟨encB x, ⟨none, 0, 0, rfl, by rw [(hi x (List.mem_of_getElem? hx)).2]; exact Sl.nil _ _ _ _, (hi x (List.mem_of_getElem? hx)).1⟩, rfl, fun j u hu => by
    have := flat_bk l i x hx j u hu
    rw [← he] at this
    simpa using this⟩
theorem bookX_in : ∀ x ∈ bookX, BkIn x ∧ x.fol = [] := fun x hx => by
  simp only [bookX, List.mem_cons, List.not_mem_nil, or_false] at hx
  rcases hx with rfl | rfl
  · exact ⟨⟨.of (by decide) (by decide), .of (by decide) (by decide), .of (by decide) (by decide), .of (by decide) (by decide), .of (by decide) (by decide), .of (by decide) (by decide), .of (by decide) (by decide), .of (by decide) (by decide), .of (by decide) (by decide)⟩, rfl⟩
  · exact ⟨⟨.of (by decide) (by decide), .of (by decide) (by decide), .of (by decide) (by decide), .of (by decide) (by decide), .of (by decide) (by decide), .of (by decide) (by decide), .of (by decide) (by decide), .of (by decide) (by decide), .of (by decide) (by decide)⟩, rfl⟩
theorem namedX_of : ofE vesselX namedX = 0 := by decide
theorem promisedX_of : ofE vesselX promisedX = 0 := by decide
theorem bookX_all : allE vesselX bookX = 0 := by
  unfold allE
  rw [vessel_e, if_neg (by simp)]
  have h0 : (fun i => ofE vesselX (bookX.getD i default)) 0 = 0 := namedX_of
  have h1 : (fun i => ofE vesselX (bookX.getD i default)) 1 = 0 := promisedX_of
  exact firstE_succ (firstE_succ rfl h0) h1
theorem bookX_tak : takB bookX 1 = true ∧ takL bookX 1 = [⟨1, 3⟩] := tak_of (by decide)
theorem bookX_spn : spnE vesselX bookX 1 = 0 := by unfold spnE; rw [bookX_all, if_neg (by simp), if_neg (by decide), if_neg (by rw [bookX_tak.1]; simp)]
theorem bookX_sl : soulL bookX vesselX.legs.toNat = [2, 5, 5] := by decide
theorem bookX_sul : sulE vesselX bookX = 0 := by unfold sulE; rw [bookX_all, if_neg (by simp), bookX_sl]; decide
set_option maxRecDepth 100000 in
set_option maxHeartbeats 8000000 in
theorem bookBegun_any (w : World) : Calls Tryz.prog 28 #[] w fun e w' => e = .returned (.bool true) ∧ Below w.heap.size w w' := by
  have hS := fun A n cap B m cap2 C W h1 h2 h3 => Spans_any vesselX A n cap B m cap2 C 2 2 bookX 1 W h1 h2 h3 (by decide)
  have hU := fun A n cap B m cap2 C W h1 h2 h3 => Souls_any vesselX A n cap B m cap2 C 2 2 bookX W h1 h2 h3 (by decide)
  have hN : ∀ A n cap B m cap2 W, Sl catC 2 W All A n cap vesselX.cats → Sl cabC 4 W All B m cap2 vesselX.cabs → Calls Tryz.prog 85 #[.agg #[.int .i64 vesselX.legs, .int .i64 vesselX.souls, .slice A n cap, .slice B m cap2], .agg #[.int .i64 7, .int .i64 1, .int .i64 2, .int .i64 3, .bool false, .int .i64 1, .int .i64 0, .int .i64 1, .int .i64 3, .int .i64 0, .slice none 0 0]] W fun e w' => e = .returned (.int .i64 0) ∧ Below W.heap.size W w' := fun A n cap B m cap2 W h1 h2 => by
    have h := bookCheck_any vesselX A n cap B m cap2 namedX none 0 0 W h1 h2 (Sl.nil _ _ _ _)
    rw [vessel_e, if_neg (by simp), namedX_of] at h
    exact h
  have hP : ∀ A n cap B m cap2 W, Sl catC 2 W All A n cap vesselX.cats → Sl cabC 4 W All B m cap2 vesselX.cabs → Calls Tryz.prog 85 #[.agg #[.int .i64 vesselX.legs, .int .i64 vesselX.souls, .slice A n cap, .slice B m cap2], .agg #[.int .i64 9, .int .i64 2, .int .i64 1, .int .i64 2, .bool false, .int .i64 (-1), .int .i64 0, .int .i64 0, .int .i64 3, .int .i64 4, .slice none 0 0]] W fun e w' => e = .returned (.int .i64 0) ∧ Below W.heap.size W w' := fun A n cap B m cap2 W h1 h2 => by
    have h := bookCheck_any vesselX A n cap B m cap2 promisedX none 0 0 W h1 h2 (Sl.nil _ _ _ _)
    rw [vessel_e, if_neg (by simp), promisedX_of] at h
    exact h
  simp only [bookX_spn, okL_zero, bookX_tak.2] at hS
  simp only [bookX_sul, okL_zero, bookX_sl] at hU
  have HS := Lib.hid hS
  clear hS
  have HU := Lib.hid hU
  clear hU
  have HN := Lib.hid hN
  clear hN
  have HP := Lib.hid hP
  clear hP
  go_enter Tryz.func28, Tryz.ntmps28
  go_wp2_with fail
  refine (namedL_any _).mono ?_
  rintro e w1 ⟨rfl, hb⟩
  go_wp2_with fail
  refine (promisedL_any _).mono ?_
  rintro e w2 ⟨rfl, hb2⟩
  replace hb := hb.trans (hb2.mono hb.size)
  clear hb2
  have hl : Sl bkgC 11 (w2.alloc (.cells #[.int .i64 7, .int .i64 1, .int .i64 2, .int .i64 3, .bool false, .int .i64 1, .int .i64 0, .int .i64 1, .int .i64 3, .int .i64 0, .slice none 0 0, .int .i64 9, .int .i64 2, .int .i64 1, .int .i64 2, .bool false, .int .i64 (-1), .int .i64 0, .int .i64 0, .int .i64 3, .int .i64 4, .slice none 0 0] 42)) All (some ⟨w2.heap.size, 0, none⟩) 2 2 bookX := Sl.ofBkgs bookX (Blk.new w2 _ _) (by decide) trivial rfl bookX_in
  replace hb := hb.alloc hb.size (.cells #[.int .i64 7, .int .i64 1, .int .i64 2, .int .i64 3, .bool false, .int .i64 1, .int .i64 0, .int .i64 1, .int .i64 3, .int .i64 0, .slice none 0 0, .int .i64 9, .int .i64 2, .int .i64 1, .int .i64 2, .bool false, .int .i64 (-1), .int .i64 0, .int .i64 0, .int .i64 3, .int .i64 4, .slice none 0 0] 42)
  go_wp2_with fail
  refine (vessel_any _).mono ?_
  rintro e w3 ⟨A1, n1, k1, B1, m1, q1, rfl, hc, hd, hb2⟩
  replace hl := hl.bel hb2
  replace hb := hb.trans (hb2.mono hb.size)
  go_wp2_with fail
  refine (HS.out _ _ _ _ _ _ _ _ hc hd hl).mono ?_
  rintro e w4 ⟨v4, xs4, rfl, ho4, hb3⟩
  obtain ⟨A4, n4, c4, rfl, hs4⟩ := ho4.sl spanC_good
  replace hs4 := hs4.all spanC_good (by omega)
  replace hl := hl.bel hb3
  replace hb := hb.trans (hb3.mono hb.size)
  clear hb2 hb3 hc hd ho4
  go_wp2_with fail
  refine (vessel_any _).mono ?_
  rintro e w5 ⟨A2, n2, k2, B2, m2, q2, rfl, hc, hd, hb2⟩
  replace hl := hl.bel hb2
  replace hs4 := hs4.bel hb2
  replace hb := hb.trans (hb2.mono hb.size)
  go_wp2_with fail
  refine (HU.out _ _ _ _ _ _ _ _ hc hd hl).mono ?_
  rintro e w6 ⟨v6, xs6, rfl, ho6, hb3⟩
  obtain ⟨A6, n6, c6, rfl, hs6⟩ := ho6.sl intC_good
  replace hs6 := hs6.all intC_good (by omega)
  replace hs4 := hs4.bel hb3
  replace hb := hb.trans (hb3.mono hb.size)
  clear hb2 hb3 hc hd ho6 hl
  go_wp2_with fail
  refine (vessel_any _).mono ?_
  rintro e w7 ⟨A3, n3, k3, B3, m3, q3, rfl, hc, hd, hb2⟩
  go_wp2_with fail
  refine (namedL_any _).mono ?_
  rintro e w8 ⟨rfl, hb3⟩
  replace hc := hc.bel hb3
  replace hd := hd.bel hb3
  replace hs4 := (hs4.bel hb2).bel hb3
  replace hs6 := (hs6.bel hb2).bel hb3
  replace hb := (hb.trans (hb2.mono hb.size))
  replace hb := (hb.trans (hb3.mono hb.size))
  clear hb2 hb3
  go_wp2_with fail
  refine (HN.out _ _ _ _ _ _ _ hc hd).mono ?_
  rintro e w9 ⟨rfl, hb2⟩
  replace hs4 := hs4.bel hb2
  replace hs6 := hs6.bel hb2
  replace hb := (hb.trans (hb2.mono hb.size))
  clear hb2 hc hd
  go_wp2_with fail
  refine (vessel_any _).mono ?_
  rintro e w10 ⟨A5, n5, k5, B5, m5, q5, rfl, hc, hd, hb2⟩
  go_wp2_with fail
  refine (promisedL_any _).mono ?_
  rintro e w11 ⟨rfl, hb3⟩
  replace hc := hc.bel hb3
  replace hd := hd.bel hb3
  replace hs4 := (hs4.bel hb2).bel hb3
  replace hs6 := (hs6.bel hb2).bel hb3
  replace hb := (hb.trans (hb2.mono hb.size))
  replace hb := (hb.trans (hb3.mono hb.size))
  clear hb2 hb3
  go_wp2_with fail
  refine (HP.out _ _ _ _ _ _ _ hc hd).mono ?_
  rintro e w12 ⟨rfl, hb2⟩
  replace hs4 := hs4.bel hb2
  replace hs6 := hs6.bel hb2
  replace hb := (hb.trans (hb2.mono hb.size))
  clear hb2 hc hd
  have hl2 := sl_span w12 All 1 3 39 (.of (by decide) (by decide)) (.of (by decide) (by decide)) trivial
  have hsm := SameSpans_any _ _ _ _ _ _ _ _ _ (hs4.bel (bel1 w12 (.cells #[.int .i64 1, .int .i64 3] 39))) hl2
  rw [decide_eq_true rfl] at hsm
  have HSM := Lib.hid hsm
  clear hsm
  replace hs6 := hs6.bel (bel1 w12 (.cells #[.int .i64 1, .int .i64 3] 39))
  have HB := Lib.hid (hb.alloc hb.size (.cells #[.int .i64 1, .int .i64 3] 39))
  clear hl2 hb hs4
  go_wp2_with fail
  refine HSM.out.mono ?_
  rintro e w13 ⟨rfl, q, hw13⟩
  have hbq : Below (w12.alloc (.cells #[.int .i64 1, .int .i64 3] 39)).heap.size (w12.alloc (.cells #[.int .i64 1, .int .i64 3] 39)) w13 := by rw [hw13]; exact below_drewN (Below.refl _ _) _
  have hl3 := Sl.ofInts [2, 5, 5] (Blk.new w13 #[.int .i64 2, .int .i64 5, .int .i64 5] 3) (by decide) (S := All) trivial (by decide)
  have hsi := SameInts_any _ _ _ _ _ _ _ _ _ ((hs6.bel hbq).bel (bel1 w13 (.cells #[.int .i64 2, .int .i64 5, .int .i64 5] 3))) hl3
  rw [decide_eq_true rfl] at hsi
  have HSI := Lib.hid hsi
  clear hsi
  have HB2 := Lib.hid (HB.out.trans (hbq.mono HB.out.size))
  have HB3 := Lib.hid (HB2.out.alloc HB2.out.size (.cells #[.int .i64 2, .int .i64 5, .int .i64 5] 3))
  clear hl3 hs6 hw13 hbq
  go_wp2_with fail
  refine HSI.out.mono ?_
  rintro e w14 ⟨rfl, q2, hw14⟩
  have HB4 := Lib.hid (show Below w.heap.size w w14 by rw [hw14]; exact below_drewN HB3.out _)
  clear hw14
  go_wp2_with fail
  go_ret
  exact ⟨rfl, HB4.out⟩
end Go.Proofs.YtlablioefblmkaaGreat
