/-
  Requests: code.Encode.
-/
import Derived.Test.YtehebngkjfjkbaaCodeG
namespace Go.Proofs.Ytehebngkjfjkbaa
open Go.RowKit Go.Shelf

def levI (x : Ask) : Int := if x.level then 1 else 0
theorem memF_lev (x : Ask) {k : Int} {p : Part} (hp : p ∈ partsL k) : memF x (levI x) p.ix = fld x p.ix := by
  rcases part_cases hp with rfl | rfl | rfl | rfl | rfl | rfl | rfl | rfl | rfl <;> rfl
theorem part_bytes {k : Int} {p : Part} (hp : p ∈ partsL k) : ∃ m : Nat, p.bytes = (m : Int) ∧ 1 ≤ m ∧ m ≤ 4 := by
  rcases part_cases hp with rfl | rfl | rfl | rfl | rfl | rfl | rfl | rfl | rfl
  all_goals first
    | exact ⟨1, rfl, by omega, by omega⟩
    | exact ⟨2, rfl, by omega, by omega⟩
    | exact ⟨3, rfl, by omega, by omega⟩
    | exact ⟨4, rfl, by omega, by omega⟩
/-- The bytes of a part; of a request. -/
def partS (x : Ask) (p : Part) : List UInt8 := bytesL (fld x p.ix) p.bytes.toNat
def headS (x : Ask) : List UInt8 := bytesL x.kind 1 ++ bytesL x.number 2
def encS (x : Ask) : List UInt8 := headS x ++ (partsL x.kind).flatMap (partS x)
theorem str_add (a b : List UInt8) : (⟨a.toArray⟩ : ByteArray) ++ ⟨b.toArray⟩ = ⟨(a ++ b).toArray⟩ := ByteArray.mk_append_mk a b

theorem flat_len (x : Ask) (l : List Part) (h : ∀ p ∈ l, p.bytes.toNat ≤ 4) : (l.flatMap (partS x)).length ≤ 4 * l.length := by
  induction l with
  | nil => simp
  | cons p l ih =>
    rw [List.flatMap_cons, List.length_append, List.length_cons]
    have h1 := ih fun q hq => h q (List.mem_cons_of_mem _ hq)
    have h2 : (partS x p).length ≤ 4 := by unfold partS; rw [bytesL_length]; exact h p (List.mem_cons_self ..)
    omega

set_option maxRecDepth 100000 in
set_option maxHeartbeats 4000000 in
theorem Encode_any (x : Ask) (w : World) : Calls Try.prog 35 #[.agg (askA x)] w fun e w' =>
    e = .returned (.tuple #[.string ⟨(okL (codeE x) (encS x)).toArray⟩, .int .i64 (codeE x)]) ∧ Below w.heap.size w w' := by
  obtain ⟨r, hr⟩ : ∃ r, r = codeE x := ⟨_, rfl⟩
  have hck := fun W => codeCheck_any x W
  rw [← hr] at hck ⊢
  dsimp only [askA] at hck ⊢
  have HC := Lib.hid hck
  clear hck
  clear hr
  go_enter Try.func35, Try.ntmps35
  go_upto_region 0 with (fail)
  go_cut [1] (fun a wx => ∃ b1, a = .pointer (some ⟨b1, 0, none⟩) ∧ AskAt wx b1 x ∧ Below w.heap.size w wx ∧ w.heap.size ≤ b1)
  case first => as_aux_lemma =>
    go_wp2_with fail
    go_meet
    exact ⟨_, rfl, blk1 _ _, bel1 _ _, by omega⟩
  obtain ⟨b1, rfl, hB, hb, ge1⟩ := hcut
  obtain ⟨c0, c1, c2, c3, c4, c5, c6, c7, c8, c9, c10⟩ := hB.all
  go_wp2_with fail
  refine (HC.out _).mono ?_
  rintro e w2 ⟨rfl, hb2⟩
  replace hb := hb.trans (hb2.mono hb.size)
  replace hB := hB.bel hb2
  clear hb2 c0 c1 c2 c3 c4 c5 c6 c7 c8 c9 c10
  by_cases h0 : ¬ r = 0
  · have h0' : (r != 0) = true := by simpa using h0
    have H0 := Lib.hid h0
    clear h0
    go_wp2_with fail
    go_ret2
    exact ⟨by rw [okL_ne H0.out]; rfl, hb⟩
  have h0 : r = 0 := by omega
  subst h0
  have hbL := hb.alloc hb.size (.cells #[.int .i64 0] 3)
  have hBL := hB.bel (bel1 w2 (.cells #[.int .i64 0] 3))
  obtain ⟨_, _, _, _, c4, _⟩ := hBL.all
  obtain ⟨q, hq⟩ : ∃ q, q = x.level := ⟨_, rfl⟩
  have hlv : levI x = if x.level then 1 else 0 := rfl
  rw [← hq] at c4 hlv
  have HL := Lib.hid hlv
  clear hlv
  clear hq
  go_upto_if 17 with (fail)
  go_cut [5] (fun a wx => ∃ b2, a = .pointer (some ⟨b2, 0, none⟩) ∧ AskAt wx b1 x ∧ Blk wx b2 #[.int .i64 (levI x)] 3 ∧ Below w.heap.size w wx ∧ w.heap.size ≤ b2 ∧ b1 ≠ b2)
  case first =>
    have hlt := Blk.lt hB
    have hsz := hb.size
    have hN := Blk.new w2 #[.int .i64 0] 3
    have HB := Lib.hid hBL
    have HN := Lib.hid hN
    clear hBL hN
    cases q
    · go_wp2_with fail
      go_meet
      exact ⟨_, rfl, HB.out, by rw [HL.out]; exact HN.out, hbL, hsz, by omega⟩
    · go_wp2_with fail
      go_meet
      exact ⟨_, rfl, hB.bel (bel1 _ _), by rw [show levI x = 1 by rw [HL.out]; rfl]; exact Blk.new _ _ _, hb.alloc hb.size _, hsz, by omega⟩
  clear hb hbL hB hBL c4
  obtain ⟨b2, rfl, hB, hL, hb, ge2, n12⟩ := hcut
  obtain ⟨k0, k1, _⟩ := hB.all
  have l1 := bytesL_length 1 x.kind
  have l2 := bytesL_length 2 x.number
  have hs : headS x = bytesL x.kind 1 ++ bytesL x.number 2 := rfl
  obtain ⟨L1, hL1⟩ : ∃ L, L = bytesL x.kind 1 := ⟨_, rfl⟩
  obtain ⟨L2, hL2⟩ : ∃ L, L = bytesL x.number 2 := ⟨_, rfl⟩
  have hc1 : ∀ W, Calls Try.prog 71 #[.int .i64 x.kind, .int .i64 1] W fun e w' => e = .returned (.string ⟨(bytesL x.kind 1).toArray⟩) ∧ Below W.heap.size W w' := fun W => bytes_any x.kind 1 W (by omega)
  have hc2 : ∀ W, Calls Try.prog 71 #[.int .i64 x.number, .int .i64 2] W fun e w' => e = .returned (.string ⟨(bytesL x.number 2).toArray⟩) ∧ Below W.heap.size W w' := fun W => bytes_any x.number 2 W (by omega)
  rw [← hL1] at l1 hs hc1
  rw [← hL2] at l2 hs hc2
  have HC1 := Lib.hid hc1
  clear hc1
  have HC2 := Lib.hid hc2
  clear hc2
  have HS := Lib.hid hs
  clear hs
  clear hL1 hL2
  go_upto_region 7 with (fail)
  go_cut [6] (fun a wx => a = .string ⟨(headS x).toArray⟩ ∧ Below wc.heap.size wc wx)
  case first => as_aux_lemma =>
    have hbD : Below wc.heap.size wc wc.drew := (Below.refl _ wc).drew
    go_region_with (first
      | (go_at_call_of 71 (Value.int IntKind.i64 x.number); first
          | (refine (HC2.out wn).mono ?_; rintro e wm ⟨rfl, hbm⟩; have hbM := hbN.trans (hbm.mono hbN.size))
          | (refine (HC2.out _).mono ?_; rintro e wn ⟨rfl, hbn⟩; have hbN := hbD.trans (hbn.mono hbD.size); obtain ⟨m0, m1, _⟩ := (hB.bel hbN).all))
      | (go_at_call_of 71 (Value.int IntKind.i64 x.kind); first
          | (refine (HC1.out wn).mono ?_; rintro e wm ⟨rfl, hbm⟩; have hbM := hbN.trans (hbm.mono hbN.size))
          | (refine (HC1.out _).mono ?_; rintro e wn ⟨rfl, hbn⟩; have hbN := hbD.trans (hbn.mono hbD.size); obtain ⟨m0, m1, _⟩ := (hB.bel hbN).all)))
    all_goals
      go_wp2_with fail
      go_meet
      exact ⟨by rw [HS.out, str_add], hbM⟩
  obtain ⟨rfl, hb2⟩ := hcut
  replace hb := hb.trans (hb2.mono hb.size)
  replace hB := hB.bel hb2
  replace hL := hL.bel hb2
  have hl3 : (headS x).length = 3 := by rw [HS.out, List.length_append, l1, l2]
  clear hb2 k0 k1
  go_wp2_with fail
  refine (parts_any b1 b2 x.kind _ (hB.cell rfl)).mono ?_
  rintro e w3 ⟨A, n, cap, rfl, hS, hb2⟩
  have hS := hS.all (partC_good _ _) (by omega)
  replace hB := hB.bel hb2
  replace hL := hL.bel hb2
  replace hb := hb.trans (hb2.mono hb.size)
  clear hb2
  obtain ⟨pl, hpl⟩ : ∃ pl, pl = partsL x.kind := ⟨_, rfl⟩
  have he : encS x = headS x ++ pl.flatMap (partS x) := by rw [hpl]; rfl
  have hpn : pl.length ≤ 7 := by rw [hpl]; unfold partsL; (repeat' split) <;> simp
  rw [← hpl] at hS
  have HPL := Lib.hid hpl
  clear hpl
  have HE := Lib.hid he
  clear he
  have hbd := hS.bd
  have hln := hS.len
  go_wp2_with fail
  go_loopg [6, 31] n (fun gk s i wr => ∃ k : Nat, k ≤ n ∧ n - k ≤ gk ∧ i = .int .i64 k ∧ s = .string ⟨(headS x ++ (pl.take k).flatMap (partS x)).toArray⟩ ∧ Below w3.heap.size w3 wr)
  case atStart => exact ⟨0, Nat.zero_le _, by omega, rfl, by simp, Below.refl _ _⟩
  case round =>
    obtain ⟨k, hk, hgk, rfl, rfl, hb3⟩ := hrel
    by_cases hlt : k < n
    · obtain ⟨b, off, p, d0, d1, d2, rfl, hx, ⟨hc, _⟩, g0, g1, g2⟩ := (hS.bel hb3).at3 hlt
      simp only [List.cons.injEq, and_true] at hc
      obtain ⟨rfl, rfl, rfl⟩ := hc
      have hpm : p ∈ partsL x.kind := by rw [← HPL.out]; exact List.mem_of_getElem? hx
      have hbA := hb3.alloc hb3.size (.cells #[.int .i64 p.bytes, .int .i64 p.most, .pointer (some (partAt b1 b2 p.ix))] 101)
      have hP := (mem_at (hB.bel hbA) (hL.bel hbA) hpm).1
      rw [memF_lev x hpm] at hP
      obtain ⟨m, hm, hm1, hm4⟩ := part_bytes hpm
      obtain ⟨v, hv⟩ : ∃ v, v = fld x p.ix := ⟨_, rfl⟩
      rw [← hv] at hP
      rw [hm] at g0 hbA hP
      have HX := Lib.hid (show headS x ++ (pl.take (k + 1)).flatMap (partS x) = headS x ++ (pl.take k).flatMap (partS x) ++ bytesL v m by
        rw [take_snoc hx, List.flatMap_append, List.append_assoc, hv]; simp [partS, hm])
      have hfl : ((pl.take k).flatMap (partS x)).length ≤ 4 * k := by
        have := flat_len x (pl.take k) fun q hq => by
          obtain ⟨m', hm', _, h4⟩ := part_bytes (k := x.kind) (by rw [← HPL.out]; exact List.mem_of_mem_take hq)
          omega
        have := List.length_take_le k pl
        omega
      obtain ⟨L, hL2⟩ : ∃ L, L = headS x ++ (pl.take k).flatMap (partS x) := ⟨_, rfl⟩
      have hLl : L.length ≤ 3 + 4 * k := by rw [hL2, List.length_append]; omega
      have hk7 : k ≤ 7 := by omega
      rw [← hL2] at HX ⊢
      have hbM := bytesL_length m v
      obtain ⟨M, hM⟩ : ∃ M, M = bytesL v m := ⟨_, rfl⟩
      have hcb := fun W => bytes_any v m W hm4
      rw [← hM] at HX hbM hcb
      have HCB := Lib.hid hcb
      clear hcb
      clear hx hpm hv hm hM hL2 hfl
      go_wp2_with fail
      go_region_with (go_at_call 71; refine (HCB.out _).mono ?_; rintro e w4 ⟨rfl, hb4⟩)
      all_goals go_wp2_with fail
      all_goals go_roundg (n - (k + 1))
      all_goals first
        | omega
        | exact ⟨k + 1, by omega, by omega, by go_num, by rw [HX.out, str_add], hbA.drew.trans (hb4.mono hbA.size)⟩
    · obtain rfl : k = n := by omega
      have HT := Lib.hid (show pl.take k = pl from List.take_of_length_le (Nat.le_of_eq hS.len))
      go_wp2_with fail
      go_ret2
      exact ⟨by rw [okL_zero, HE.out, HT.out]; rfl, hb.trans (hb3.mono hb.size)⟩
end Go.Proofs.Ytehebngkjfjkbaa
