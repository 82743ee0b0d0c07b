/-
  Requests: the reference AskBytes.
-/
import Derived.Test.YtehebngkjfjkbaaCodeJ
import Derived.Deep.RegionWith
namespace Go.Proofs.Ytehebngkjfjkbaa
open Go.RowKit Go.Shelf

theorem idx_str2 {L : List UInt8} {k : Nat} {d : UInt8} (h : L[k]? = some d) (W : World) : (Instr.index 9 (.string ⟨L.toArray⟩) (.int .i64 (k : Int))).run Try.prog W = .ok (.int .u8 (d.toNat : Int)) W := by
  have hlt : k < L.length := (List.getElem?_eq_some_iff.1 h).1
  have hs : (⟨L.toArray⟩ : ByteArray).size = L.length := by show L.toArray.size = _; simp
  rw [run_index_string _ _ _ _ _ Try.underlying9, dif_pos ⟨by omega, by rw [hs]; omega⟩]
  have hd : L[k] = d := (List.getElem?_eq_some_iff.1 h).2
  have : (⟨L.toArray⟩ : ByteArray)[k]'(by rw [hs]; exact hlt) = d := by rw [← hd]; rfl
  simp only [Int.toNat_natCast, this]
theorem names_len (k : Int) : (namesS k).length ≤ 7 := by unfold namesS; (repeat' split) <;> simp
theorem names_mem {k : Int} {c : UInt8} (h : c ∈ namesS k) : partOf c ∈ partsL k := by rw [← names_parts]; exact List.mem_map_of_mem h
theorem encS_names (x : Ask) : encS x = headS x ++ (namesS x.kind).flatMap (fun c => partS x (partOf c)) := by
  unfold encS
  rw [← names_parts, List.flatMap_map]

set_option maxRecDepth 100000 in
set_option maxHeartbeats 20000000 in
theorem AskBytes_any (x : Ask) (w : World) (ho : CodeOk x) : Calls Try.prog 38 #[.agg (askA x)] w fun e w' => e = .returned (.string ⟨(encS x).toArray⟩) ∧ Below w.heap.size w w' := by
  have hva := fun (c : UInt8) W => valueOf_any x c W
  rw [encS_names]
  unfold askA at hva ⊢
  have HVA := Lib.hid hva
  clear hva
  have HO := Lib.hid ho
  clear ho
  go_enter Try.func38, Try.ntmps38
  go_upto_region 0 with (fail)
  go_cut [1] (fun a wx => ∃ b, a = .pointer (some ⟨b, 0, none⟩) ∧ AskAt wx b x ∧ Below w.heap.size w wx)
  case first => as_aux_lemma =>
    go_wp2_with fail
    go_meet
    exact ⟨_, rfl, blk1 _ _, bel1 _ _⟩
  obtain ⟨b, rfl, hA, hb⟩ := hcut
  obtain ⟨k0, k1, _⟩ := hA.all
  have l1 := bytesL_length 1 x.kind
  have l2 := bytesL_length 2 x.number
  have hs : headS x = bytesL x.kind 1 ++ bytesL x.number 2 := rfl
  have hc1 : ∀ W, Calls Try.prog 76 #[.int .i64 x.kind, .int .i64 1] W fun e w' => e = .returned (.string ⟨(bytesL x.kind 1).toArray⟩) ∧ Below W.heap.size W w' := fun W => numberBytes_any 1 x.kind W (by omega) (by have := HO.out.kind; omega) (by have := HO.out.kind; omega)
  have hc2 : ∀ W, Calls Try.prog 76 #[.int .i64 x.number, .int .i64 2] W fun e w' => e = .returned (.string ⟨(bytesL x.number 2).toArray⟩) ∧ Below W.heap.size W w' := fun W => numberBytes_any 2 x.number W (by omega) (by have := HO.out.number; omega) (by have := HO.out.number; omega)
  obtain ⟨L1, hL1⟩ : ∃ L, L = bytesL x.kind 1 := ⟨_, rfl⟩
  obtain ⟨L2, hL2⟩ : ∃ L, L = bytesL x.number 2 := ⟨_, rfl⟩
  rw [← hL1] at l1 hs hc1
  rw [← hL2] at l2 hs hc2
  have HC1 := Lib.hid hc1
  clear hc1
  have HC2 := Lib.hid hc2
  clear hc2
  have HS := Lib.hid hs
  clear hs
  clear hL1 hL2
  go_upto_region 1 with (fail)
  go_cut [3] (fun a wx => a = .string ⟨(headS x).toArray⟩ ∧ Below wc.heap.size wc wx)
  case first => as_aux_lemma =>
    have hbD : Below wc.heap.size wc wc.drew := (Below.refl _ wc).drew
    go_region_with (first
      | (go_at_call_of 76 (Value.int IntKind.i64 x.number); first
          | (refine (HC2.out wn).mono ?_; rintro e wm ⟨rfl, hbm⟩; have hbM := hbN.trans (hbm.mono hbN.size))
          | (refine (HC2.out _).mono ?_; rintro e wn ⟨rfl, hbn⟩; have hbN := hbD.trans (hbn.mono hbD.size); obtain ⟨m0, m1, _⟩ := (hA.bel hbN).all))
      | (go_at_call_of 76 (Value.int IntKind.i64 x.kind); first
          | (refine (HC1.out wn).mono ?_; rintro e wm ⟨rfl, hbm⟩; have hbM := hbN.trans (hbm.mono hbN.size))
          | (refine (HC1.out _).mono ?_; rintro e wn ⟨rfl, hbn⟩; have hbN := hbD.trans (hbn.mono hbD.size); obtain ⟨m0, m1, _⟩ := (hA.bel hbN).all)))
    all_goals
      go_wp2_with fail
      go_meet
      exact ⟨by rw [HS.out, str_add], hbM⟩
  obtain ⟨rfl, hb2⟩ := hcut
  replace hb := hb.trans (hb2.mono hb.size)
  replace hA := hA.bel hb2
  have hl3 : (headS x).length = 3 := by rw [HS.out, List.length_append, l1, l2]
  clear hb2 k0 k1
  obtain ⟨k0, k1, _⟩ := hA.all
  go_wp2_with fail
  refine (namesOf_any x.kind _).mono ?_
  rintro e w9 ⟨rfl, rfl⟩
  obtain ⟨N, hN⟩ : ∃ N, N = namesS x.kind := ⟨_, rfl⟩
  have hNl : N.length ≤ 7 := by rw [hN]; exact names_len _
  rw [← hN]
  have HNN := Lib.hid hN
  clear hN
  clear k0 k1
  go_wp2_with fail
  go_loopg [3, 5] N.length (fun gk s i wr => ∃ k : Nat, k ≤ N.length ∧ N.length - k ≤ gk ∧ i = .int .i64 k ∧ s = .string ⟨(headS x ++ (N.take k).flatMap (fun c => partS x (partOf c))).toArray⟩ ∧ Below wc.heap.size wc wr)
  case atStart => exact ⟨0, Nat.zero_le _, by omega, rfl, by simp, Below.refl _ _⟩
  case round =>
    obtain ⟨k, hk, hgk, rfl, rfl, hb3⟩ := hrel
    by_cases hlt : k < N.length
    · obtain ⟨c, hc⟩ : ∃ c, N[k]? = some c := ⟨_, List.getElem?_eq_getElem hlt⟩
      have hiy := fun W => idx_str2 hc W
      have hpm : partOf c ∈ partsL x.kind := names_mem (by rw [← HNN.out]; exact List.mem_of_getElem? hc)
      obtain ⟨m, hm, hm1, hm4⟩ := part_bytes hpm
      have hval := code_val HO.out hpm
      have hmost := part_most hpm
      have hfl : ((N.take k).flatMap (fun c => partS x (partOf c))).length ≤ 4 * k := by
        have h1 := flat_len x ((N.take k).map partOf) fun q hq => by
          obtain ⟨c', hc', rfl⟩ := List.mem_map.1 hq
          obtain ⟨m', hm', _, h4⟩ := part_bytes (k := x.kind) (names_mem (by rw [← HNN.out]; exact List.mem_of_mem_take hc'))
          omega
        rw [List.flatMap_map, List.length_map] at h1
        have := List.length_take_le k N
        omega
      obtain ⟨v, hv⟩ : ∃ v, v = fld x (partOf c).ix := ⟨_, rfl⟩
      have HX := Lib.hid (show headS x ++ (N.take (k + 1)).flatMap (fun c => partS x (partOf c)) = headS x ++ (N.take k).flatMap (fun c => partS x (partOf c)) ++ bytesL v m by
        rw [take_snoc hc, List.flatMap_append, List.append_assoc, hv]; simp [partS, hm])
      obtain ⟨L, hL2⟩ : ∃ L, L = headS x ++ (N.take k).flatMap (fun c => partS x (partOf c)) := ⟨_, rfl⟩
      have hLl : L.length ≤ 3 + 4 * k := by rw [hL2, List.length_append]; omega
      have hk7 : k ≤ 7 := by omega
      rw [← hL2] at HX ⊢
      have hbM := bytesL_length m v
      obtain ⟨M, hM⟩ : ∃ M, M = bytesL v m := ⟨_, rfl⟩
      have hcb : ∀ W, Calls Try.prog 76 #[.int .i64 v, .int .i64 m] W fun e w' => e = .returned (.string ⟨M.toArray⟩) ∧ Below W.heap.size W w' := fun W => by
        rw [hM]
        refine numberBytes_any m v W hm4 (by rw [hv]; exact hval.1) ?_
        have h2 : (partOf c).most ≤ 100000000 := by rcases part_cases hpm with e | e | e | e | e | e | e | e | e <;> rw [e] <;> decide
        rw [hv]; omega
      have hvc := fun W => HVA.out c W
      rw [hm, ← hv] at hvc
      rw [← hM] at HX hbM
      have HCB := Lib.hid hcb
      clear hcb
      have HVC := Lib.hid hvc
      clear hvc
      have hA2 := hA.bel hb3
      obtain ⟨c0, c1, c2, c3, c4, c5, c6, c7, c8, c9, c10⟩ := hA2.all
      clear hc hpm hv hm hM hL2 hfl hval hmost
      go_upto_region 6 with (fail)
      go_cut [6, 7, 8] (fun u t f wx => u = .int .i64 v ∧ t = .int .i64 m ∧ Below wr.heap.size wr wx)
      case first => as_aux_lemma =>
        go_region_with (go_at_call 75; refine (HVC.out _).mono ?_; rintro e wn ⟨rfl, hbn⟩)
        all_goals
          go_wp2_with fail
          go_meet
          exact ⟨rfl, rfl, (Below.refl _ wr).drew.trans hbn⟩
      obtain ⟨rfl, rfl, hb4⟩ := hcut
      replace hb3 := hb3.trans (hb4.mono hb3.size)
      clear hb4 c0 c1 c2 c3 c4 c5 c6 c7 c8 c9 c10 hiy
      go_wp2_with fail
      refine (HCB.out _).mono ?_
      rintro e w5 ⟨rfl, hb5⟩
      replace hb3 := hb3.trans (hb5.mono hb3.size)
      clear hb5
      go_wp2_with fail
      all_goals go_roundg (N.length - (k + 1))
      all_goals first
        | omega
        | exact ⟨k + 1, by omega, by omega, by go_num, by rw [HX.out, str_add], hb3⟩
    · obtain rfl : k = N.length := by omega
      go_wp2_with fail
      go_ret
      exact ⟨by rw [List.take_length, HNN.out]; rfl, hb.trans (hb3.mono hb.size)⟩
end Go.Proofs.Ytehebngkjfjkbaa
