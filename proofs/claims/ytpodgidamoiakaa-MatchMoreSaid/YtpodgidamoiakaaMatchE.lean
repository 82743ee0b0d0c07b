/-
  Matchings: slices.Repeat at one number, up to 16 times: the walk.
-/
import Derived.Test.YtpodgidamoiakaaMatchD
import Derived.Laws.CopyOwn
import Derived.Deep.RegionLaw
namespace Go.Proofs.Ytpodgidamoiakaa
open Go.RowKit Go.Shelf

/-- So many of the row are laid. -/
def repC (N k : Nat) : List Value := List.replicate k (Value.int .i64 (-1)) ++ List.replicate (N - k) (.int .i64 0)
theorem repC_len {N k : Nat} (h : k ≤ N) : (repC N k).length = N := by unfold repC; rw [List.length_append, List.length_replicate, List.length_replicate]; omega
theorem repC_splice {N k c : Nat} : splice (repC N k) k (List.replicate c (Value.int .i64 (-1))) = repC N (k + c) := by
  unfold splice repC
  rw [List.take_left' (by simp), List.length_replicate, ← List.drop_drop, List.drop_left' (by simp), List.drop_replicate, ← List.append_assoc, List.replicate_append_replicate]
  congr 2
  omega

set_option maxRecDepth 100000 in
set_option maxHeartbeats 4000000 in
theorem rep_any (N G : Nat) (w : World) (hN : N ≤ 16) (hB : Blk w G #[.int .i64 (-1)] 3) : Calls Try.prog 88 #[.slice (some ⟨G, 0, none⟩) 1 1, .int .i64 (N : Int)] w fun e w' =>
    ∃ q, e = .returned (.slice (some ⟨q, 0, none⟩) N N) ∧ RowI w' q (List.replicate N (-1)) 3 ∧ w.heap.size ≤ q ∧ q < w'.heap.size ∧ Below w.heap.size w w' := by
  have hmk := fun W => mkI N hN W
  have hmu := fun W => mulA N hN W
  go_enter Try.func88, Try.ntmps88
  go_wp2_with fail
  refine (hmu _).mono ?_
  rintro e w1 ⟨rfl, rfl⟩
  go_upto_region 6 with (fail)
  go_cut [7] (fun p wx => ∃ q, p = .slice (some ⟨q, 0, none⟩) N N ∧ Blk wx q (repC N 0).toArray 3 ∧ w1.heap.size ≤ q ∧ q < wx.heap.size ∧ Below w1.heap.size w1 wx)
  case first => as_aux_lemma =>
    go_wp2_with fail
    go_meet
    exact ⟨_, rfl, by rw [show (repC N 0).toArray = Array.replicate N (Value.int .i64 0) by simp [repC]]; exact blk1 _ _, Nat.le_refl _, by simp, bel1 _ _⟩
  obtain ⟨q, rfl, hQ, hq1, hq2, hb⟩ := hcut
  have hu : Try.prog.underlying 30 = some (.slice 3) := Try.underlying30
  have hsz : (Try.prog.info? 3).map (·.size) = some 1 := by kernel_rfl
  by_cases h0 : N = 0
  · subst h0
    have hcp := run_copy_none (P := Try.prog) wc 30 30 3 3 (some ⟨q, 0, none⟩) (some ⟨G, 0, none⟩) 0 0 1 1 hu hsz rfl
    have HQ := Lib.hid hQ
    have HB := Lib.hid hb
    clear hQ hb
    go_wp2_with fail
    go_loopg [8] 0 (fun _ iv wr => iv = .int .i64 0 ∧ wc = wr)
    case atStart => exact ⟨rfl, rfl⟩
    case round =>
      obtain ⟨rfl, hw⟩ := hrel
      subst hw
      go_wp2_with fail
      go_ret
      exact ⟨q, rfl, HQ.out, hq1, hq2, HB.out⟩
  · have hGl := hB.lt
    have hG0 := (Blk.cell (hB.bel hb) (j := 0) (v := .int .i64 (-1)) rfl)
    have hcp := run_copy_row (P := Try.prog) wc 30 30 3 3 q 0 N N ⟨G, 0, none⟩ 1 1 (repC N 0).toArray 3 [.int .i64 (-1)] hu hsz hQ (by show 1 = Nat.min 1 N; exact (Nat.min_eq_left (by omega)).symm) (fun j v hv => by
      rcases j with _ | j
      · simp at hv; subst hv; exact hG0
      · simp at hv) (by rw [List.size_toArray, repC_len (Nat.zero_le _)]; simp; omega) (fun v hv => by simp at hv; subst hv; rfl)
    obtain ⟨W2, hW2⟩ : ∃ W2, W2 = wc.setRow q ((repC N 0).toArray.toList.take 0 ++ [Value.int .i64 (-1)] ++ (repC N 0).toArray.toList.drop (0 + [Value.int .i64 (-1)].length)).toArray := ⟨_, rfl⟩
    rw [← hW2] at hcp
    have hrow : Blk W2 q (repC N 1).toArray 3 := by
      rw [hW2, show (repC N 1) = (repC N 0).toArray.toList.take 0 ++ [Value.int .i64 (-1)] ++ (repC N 0).toArray.toList.drop (0 + [Value.int .i64 (-1)].length) by rw [← (repC_splice (N := N) (k := 0) (c := 1))]; unfold splice; rw [← List.append_assoc]; rfl]
      exact setRow_heap wc q _ _ _ _ hQ
    have hbel : Below w1.heap.size w1 W2 := by rw [hW2]; exact below_setRow hb hq1 _
    have hsz2 : q < W2.heap.size := hrow.lt
    have HQ := Lib.hid hrow
    have HB := Lib.hid hbel
    have hcp' : (Builtin.copy_ #[30, 30] 3 #[.slice (some ⟨q, 0, none⟩) N N, .slice (some ⟨G, 0, none⟩) 1 1]).run Try.prog wc = .ok (.int .i64 1) W2 := hcp
    clear hQ hb hcp hrow hbel hW2 hG0 hGl
    go_wp2_with fail
    go_loopg [8] N (fun gk i wr => ∃ k : Nat, 1 ≤ k ∧ k ≤ N ∧ N - k ≤ gk ∧ i = .int .i64 k ∧ Blk wr q (repC N k).toArray 3 ∧ Below w1.heap.size w1 wr)
    case atStart => exact ⟨1, Nat.le_refl _, by omega, by omega, rfl, HQ.out, HB.out⟩
    case round =>
      obtain ⟨k, hk1, hk, hgk, rfl, hQ, hb⟩ := hrel
      by_cases hlt : k < N
      · obtain ⟨c, hc⟩ : ∃ c, c = Nat.min k (N - k) := ⟨_, rfl⟩
        have hc1 : k + c ≤ N ∧ 1 ≤ c ∧ c ≤ k := by rw [hc]; simp only [Nat.min_def]; split <;> omega
        have hcl : (List.replicate c (Value.int .i64 (-1))).length = c := List.length_replicate ..
        obtain ⟨cs, hcs⟩ : ∃ cs, cs = List.replicate c (Value.int .i64 (-1)) := ⟨_, rfl⟩
        rw [← hcs] at hcl
        have HCL := Lib.hid (show cs.length = Nat.min k (N - k) by rw [hcl, hc])
        have HSP := Lib.hid (show splice (repC N k) k cs = repC N (k + c) by rw [hcs]; exact repC_splice)
        have HON := Lib.hid (show ∀ v ∈ cs, v.oneCell' = true by rw [hcs]; intro v hv; rw [List.eq_of_mem_replicate hv]; rfl)
        have HSR := Lib.hid (show ∀ (j : Nat) (v : Value), cs[j]? = some v → wr.drew.cell? ((⟨q, 0, none⟩ : Addr).add j) = some v from fun j v hv => by
          rw [hcs, List.getElem?_replicate] at hv
          have hjc : j < c := by
            by_cases h : j < c
            · exact h
            · rw [if_neg h] at hv; cases hv
          rw [if_pos hjc] at hv
          injection hv with hv
          subst hv
          have := Blk.cell hQ (j := j) (v := .int .i64 (-1)) (by rw [List.getElem?_toArray]; unfold repC; rw [List.getElem?_append_left (by rw [List.length_replicate]; omega), List.getElem?_replicate, if_pos (by omega)])
          have ha : (⟨q, 0, none⟩ : Addr).add j = ⟨q, j, none⟩ := by
            unfold Addr.add; split
            · next h0 => rw [h0]
            · simp
          rw [ha]; exact this)
        have HFT := Lib.hid (show k + cs.length ≤ (repC N k).length by rw [repC_len hk, hcl]; exact hc1.1)
        have HQ2 := Lib.hid (show wr.drew.heap[q]? = some (.cells (repC N k).toArray 3 (0, 0)) from hQ)
        have HB2 := Lib.hid hb.drew
        have HCC := Lib.hid hcl
        have k0 : (0 : Int) ≤ (k : Int) := Int.natCast_nonneg _
        have k1 : (k : Int) ≤ (N : Int) := by omega
        have hNk : ¬ N = k := by omega
        clear hQ hb hc hcs hcl
        go_wp2_with fail
        go_region_law (refine step_copy_splice rfl (.tmp 41) (.tmp 44) 30 30 rfl 3 hu hsz (some ⟨q, k, none⟩) (some ⟨q, 0, none⟩) (N - k) (N - k) k N (by simp [Act.eval, Act.put]) (by simp [Act.eval, Act.put]) q k (repC N k) 3 HQ2.out cs HCL.out (fun _ => ⟨rfl, _, rfl, HSR.out⟩) HFT.out HON.out w1.heap.size w1 HB2.out hq1 ?_; intro w2 hG2 hb2)
        all_goals
          have hcl2 := HCC.out
          have hw : IntKind.i64.wrap ((k : Int) + (cs.length : Int)) = ((k + c : Nat) : Int) := by rw [hcl2, IntKind.wrap_i64]; omega
          rw [hw]
          go_wp2_with fail
          go_roundg (N - (k + 1))
          case measure => omega
          refine ⟨k + c, by omega, hc1.1, by omega, rfl, ?_, hb2⟩
          rw [← HSP.out]
          exact hG2.out
      · obtain rfl : k = N := by omega
        have HRW := Lib.hid (show RowI wr q (List.replicate k (-1)) 3 by
          unfold RowI
          rw [show ((List.replicate k (-1 : Int)).map (Value.int .i64)) = repC k k by simp [repC]]
          exact hQ)
        have hql := hQ.lt
        have HBB := Lib.hid hb
        clear hQ hb
        go_wp2_with fail
        go_ret
        exact ⟨q, rfl, HRW.out, hq1, hql, HBB.out⟩
end Go.Proofs.Ytpodgidamoiakaa
