/-
  Requests: the reference CheckAsk.
-/
import Derived.Test.YtehebngkjfjkbaaCodeJ
import Derived.Deep.RegionWith
namespace Go.Proofs.Ytehebngkjfjkbaa
open Go.RowKit Go.Shelf

theorem idx_str {L : List UInt8} {k : Nat} {d : UInt8} (h : L[k]? = some d) (W : World) : (Instr.index 9 (.string ⟨L.toArray⟩) (.int .i64 (k : Int))).run Try.prog W = .ok (.int .u8 (d.toNat : Int)) W := by
  have hlt : k < L.length := (List.getElem?_eq_some_iff.1 h).1
  have hs : (⟨L.toArray⟩ : ByteArray).size = L.length := by show L.toArray.size = _; simp
  rw [run_index_string _ _ _ _ _ Try.underlying9, dif_pos ⟨by omega, by rw [hs]; omega⟩]
  have hd : L[k] = d := (List.getElem?_eq_some_iff.1 h).2
  have : (⟨L.toArray⟩ : ByteArray)[k]'(by rw [hs]; exact hlt) = d := by rw [← hd]; rfl
  simp only [Int.toNat_natCast, this]
theorem u8_beq (c d : UInt8) : ((c.toNat : Int) == (d.toNat : Int)) = (c == d) := by
  by_cases h : c = d
  · subst h; simp
  · have : ¬ (c.toNat : Int) = (d.toNat : Int) := fun e => h (UInt8.toNat_inj.1 (by omega))
    rw [beq_eq_false_iff_ne.2 this, beq_eq_false_iff_ne.2 h]

def C9 : List UInt8 := [105, 103, 99, 107, 102, 116, 117, 97, 108]
def C10 : List UInt8 := [105, 103, 99, 107, 102, 116, 117, 97, 108, 115]
/-- May a letter's part be so? -/
def letB (x : Ask) (c : UInt8) : Bool := (namesS x.kind).any (fun d => d == c) || fld x (partOf c).ix == 0
def valB (x : Ask) (c : UInt8) : Bool := betB (fld x (partOf c).ix) 0 (partOf c).most
/-- What is wrong with a request, as the document says it. -/
def askR (x : Ask) : Int := if betB x.kind 1 8 = false then 7 else if betB x.number 1 65535 = false then 3 else if C9.all (letB x) = false then 1 else if (namesS x.kind).all (valB x) then 0 else 3

set_option maxRecDepth 100000 in
set_option maxHeartbeats 40000000 in
theorem CheckAsk_any (x : Ask) (w : World) : Calls Try.prog 37 #[.agg (askA x)] w fun e w' => e = .returned (.int .i64 (askR x)) ∧ Below w.heap.size w w' := by
  obtain ⟨r, hr⟩ : ∃ r, r = askR x := ⟨_, rfl⟩
  rw [← hr]
  have HR := Lib.hid hr
  clear hr
  have hva := fun (c : UInt8) W => valueOf_any x c W
  unfold askA at hva ⊢
  have HVA := Lib.hid hva
  clear hva
  go_enter Try.func37, Try.ntmps37
  go_upto_region 0 with (fail)
  go_cut [1] (fun a wx => ∃ b, a = .pointer (some ⟨b, 0, none⟩) ∧ AskAt wx b x ∧ Below w.heap.size w wx)
  case first => as_aux_lemma =>
    go_wp2_with fail
    go_meet
    exact ⟨_, rfl, blk1 _ _, bel1 _ _⟩
  obtain ⟨b, rfl, hA, hb0⟩ := hcut
  obtain ⟨c0, c1, c2, c3, c4, c5, c6, c7, c8, c9, c10⟩ := hA.all
  go_wp2_with fail
  refine (between_any x.kind 1 8 _).mono ?_
  rintro e w9 ⟨rfl, rfl⟩
  cases q_HK : betB x.kind 1 8 <;> have HK := Lib.hid q_HK <;> clear q_HK
  · obtain rfl : r = 7 := by rw [HR.out]; unfold askR; rw [if_pos HK.out]
    go_wp2_with fail
    go_ret
    exact ⟨rfl, hb0⟩
  have HR1 := Lib.hid (show r = if betB x.number 1 65535 = false then 3 else if C9.all (letB x) = false then 1 else if (namesS x.kind).all (valB x) then 0 else 3 by rw [HR.out]; unfold askR; rw [if_neg (by rw [HK.out]; simp)])
  go_wp2_with fail
  refine (between_any x.number 1 65535 _).mono ?_
  rintro e w9 ⟨rfl, rfl⟩
  cases q_HN : betB x.number 1 65535 <;> have HN := Lib.hid q_HN <;> clear q_HN
  · obtain rfl : r = 3 := by rw [HR1.out, if_pos HN.out]
    go_wp2_with fail
    go_ret
    exact ⟨rfl, hb0⟩
  have HR2 := Lib.hid (show r = if C9.all (letB x) = false then 1 else if (namesS x.kind).all (valB x) then 0 else 3 by rw [HR1.out, if_neg (by rw [HN.out]; simp)])
  go_wp2_with fail
  refine (namesOf_any x.kind _).mono ?_
  rintro e w9 ⟨rfl, rfl⟩
  obtain ⟨N, hN⟩ : ∃ N, N = namesS x.kind := ⟨_, rfl⟩
  have hNl : N.length ≤ 7 := by rw [hN]; unfold namesS; (repeat' split) <;> simp
  have hlet : ∀ c, letB x c = (N.any (fun d => d == c) || fld x (partOf c).ix == 0) := fun c => by rw [hN]; rfl
  rw [← hN] at HR2 ⊢
  have HNN := Lib.hid hN
  clear hN
  have HLET := Lib.hid hlet
  clear hlet
  go_wp2_with fail
  go_loopg [5] 9 (fun gk i wr => ∃ k : Nat, k ≤ 9 ∧ 9 - k ≤ gk ∧ i = .int .i64 k ∧ Aside ((C9.take k).all (letB x) = true) ∧ Below wc.heap.size wc wr)
  case atStart => exact ⟨0, by omega, by omega, rfl, rfl, Below.refl _ _⟩
  case round =>
    obtain ⟨k, hk, hgk, rfl, HE, hb⟩ := hrel
    by_cases hlt : k < 9
    · obtain ⟨c, hc⟩ : ∃ c, C9[k]? = some c := ⟨_, List.getElem?_eq_getElem (by simp [C9]; omega)⟩
      have hc10 : C10[k]? = some c := by
        have h10 : C10 = C9 ++ [115] := rfl
        rw [h10, List.getElem?_append_left (by simp [C9]; omega)]; exact hc
      have hix := fun W => idx_str hc10 W
      simp only [C10] at hix
      obtain ⟨q, hq⟩ : ∃ q, q = N.any (fun d => d == c) := ⟨_, rfl⟩
      have HL := Lib.hid (show letB x c = (q || fld x (partOf c).ix == 0) by rw [HLET.out, hq])
      have HC := Lib.hid hc
      clear hc
      have HQ := Lib.hid hq
      clear hq
      clear hc10
      go_upto_region 12 with (fail)
      go_loopg [6, 7] N.length (fun gk2 nm j wq => ∃ m : Nat, m ≤ N.length ∧ N.length - m ≤ gk2 ∧ j = .int .i64 m ∧ nm = .bool ((N.take m).any (fun d => d == c)) ∧ Below wr.heap.size wr wq)
      case atStart => exact ⟨0, by omega, by omega, rfl, rfl, Below.refl _ _⟩
      case round =>
        obtain ⟨m, hm, hgm, rfl, rfl, hbq⟩ := hrel
        by_cases hltm : m < N.length
        · obtain ⟨d, hd⟩ : ∃ d, N[m]? = some d := ⟨_, List.getElem?_eq_getElem hltm⟩
          have hiy := fun W => idx_str hd W
          have hsu := any_take_succ (p := fun d => d == c) hd
          obtain ⟨q1, hq1⟩ : ∃ q1, q1 = (N.take m).any (fun d => d == c) := ⟨_, rfl⟩
          rw [← hq1] at hsu ⊢
          have HSU := Lib.hid hsu
          clear hsu
          clear hq1 hd
          cases q1
          · go_wp2_with fail
            go_quiet (fail)
            go_wp2_with fail
            go_roundg (N.length - (m + 1))
            case measure => omega
            case rel => exact ⟨m + 1, by omega, by omega, by go_num, by rw [HSU.out]; simp [u8_beq], below_drewN hbq _⟩
          · go_wp2_with fail
            go_quiet (fail)
            go_wp2_with fail
            go_roundg (N.length - (m + 1))
            case measure => omega
            case rel => exact ⟨m + 1, by omega, by omega, by go_num, by rw [HSU.out]; rfl, below_drewN hbq _⟩
        · obtain rfl : m = N.length := by omega
          rw [List.take_length, ← HQ.out]
          have hbb := hb.trans (hbq.mono hb.size)
          have hA2 := hA.bel hbb
          obtain ⟨d0, d1, d2, d3, d4, d5, d6, d7, d8, d9, d10⟩ := hA2.all
          clear c0 c1 c2 c3 c4 c5 c6 c7 c8 c9 c10
          go_upto_region 15 with (fail)
          go_cut [8, 9, 10] (fun v e f wx => v = .int .i64 (fld x (partOf c).ix) ∧ Below wr.heap.size wr wx)
          case first => as_aux_lemma =>
            go_region_with (go_at_call 75; refine (HVA.out c _).mono ?_; rintro e wn ⟨rfl, hbn⟩)
            all_goals
              go_wp2_with fail
              go_meet
              exact ⟨rfl, (Below.refl _ wr).drew.trans hbn⟩
          obtain ⟨rfl, hb3⟩ := hcut
          have hbc := hbb.trans (hb3.mono hbb.size)
          clear hbq hb3 hbb d0 d1 d2 d3 d4 d5 d6 d7 d8 d9 d10
          obtain ⟨v, hv⟩ : ∃ v, v = fld x (partOf c).ix := ⟨_, rfl⟩
          rw [← hv] at HL ⊢
          clear hv
          cases q
          · by_cases hv0 : v = 0
            · subst hv0
              have HG := Lib.hid (show letB x c = true by rw [HL.out]; rfl)
              go_wp2_with fail
              go_roundg (9 - (k + 1))
              case measure => omega
              case rel => exact ⟨k + 1, by omega, by omega, by go_num, (show Aside _ from by show _ = _; rw [all_take_succ HC.out, HE, HG.out]; rfl), hbc⟩
            · have hv1 : (v != 0) = true := by simpa using hv0
              obtain rfl : r = 1 := by rw [HR2.out, if_pos (all_at HC.out (by rw [HL.out]; simpa using hv0))]
              clear hv0
              go_wp2_with fail
              go_ret
              exact ⟨rfl, hb0.trans (hbc.mono hb0.size)⟩
          · have HG := Lib.hid (show letB x c = true by rw [HL.out]; rfl)
            go_wp2_with fail
            go_roundg (9 - (k + 1))
            case measure => omega
            case rel => exact ⟨k + 1, by omega, by omega, by go_num, (show Aside _ from by show _ = _; rw [all_take_succ HC.out, HE, HG.out]; rfl), hbc⟩
    · obtain rfl : k = 9 := by omega
      have HR3 := Lib.hid (show r = if N.all (valB x) then 0 else 3 by rw [HR2.out, if_neg (by rw [show C9 = C9.take 9 from rfl, HE]; simp)])
      go_wp2_with fail
      go_loopg [11] N.length (fun gk i wq => ∃ k : Nat, k ≤ N.length ∧ N.length - k ≤ gk ∧ i = .int .i64 k ∧ Aside ((N.take k).all (valB x) = true) ∧ Below wc.heap.size wc wq)
      case atStart => exact ⟨0, by omega, by omega, rfl, rfl, hb⟩
      case round =>
        clear hb
        obtain ⟨k, hk, hgk, rfl, HE, hb⟩ := hrel
        by_cases hlt : k < N.length
        · obtain ⟨c, hc⟩ : ∃ c, N[k]? = some c := ⟨_, List.getElem?_eq_getElem hlt⟩
          have hiy := fun W => idx_str hc W
          have HC := Lib.hid hc
          clear hc
          have hA2 := hA.bel hb
          clear c0 c1 c2 c3 c4 c5 c6 c7 c8 c9 c10
          obtain ⟨d0, d1, d2, d3, d4, d5, d6, d7, d8, d9, d10⟩ := hA2.all
          go_upto_region 21 with (fail)
          go_cut [12, 13, 14] (fun v e f wx => v = .int .i64 (fld x (partOf c).ix) ∧ f = .int .i64 (partOf c).most ∧ Below wr.heap.size wr wx)
          case first => as_aux_lemma =>
            go_region_with (go_at_call 75; refine (HVA.out c _).mono ?_; rintro e wn ⟨rfl, hbn⟩)
            all_goals
              go_wp2_with fail
              go_meet
              exact ⟨rfl, rfl, (Below.refl _ wr).drew.trans hbn⟩
          obtain ⟨rfl, rfl, hb3⟩ := hcut
          replace hb := hb.trans (hb3.mono hb.size)
          clear hb3 d0 d1 d2 d3 d4 d5 d6 d7 d8 d9 d10
          have HV := Lib.hid (show valB x c = betB (fld x (partOf c).ix) 0 (partOf c).most from rfl)
          go_wp2_with fail
          refine (between_any (fld x (partOf c).ix) 0 (partOf c).most _).mono ?_
          rintro e w9 ⟨rfl, rfl⟩
          cases q_HB : betB (fld x (partOf c).ix) 0 (partOf c).most <;> have HB := Lib.hid q_HB <;> clear q_HB
          · obtain rfl : r = 3 := by rw [HR3.out, if_neg (by rw [all_at HC.out (by rw [HV.out]; exact HB.out)]; simp)]
            go_wp2_with fail
            go_ret
            exact ⟨rfl, hb0.trans (hb.mono hb0.size)⟩
          · go_wp2_with fail
            go_roundg (N.length - (k + 1))
            case measure => omega
            case rel => exact ⟨k + 1, by omega, by omega, by go_num, (show Aside _ from by show _ = _; rw [all_take_succ HC.out, HE, HV.out, HB.out]; rfl), hb⟩
        · obtain rfl : k = N.length := by omega
          obtain rfl : r = 0 := by rw [HR3.out, if_pos (by rw [List.take_length] at HE; exact HE)]
          go_wp2_with fail
          go_ret
          exact ⟨rfl, hb0.trans (hb.mono hb0.size)⟩
end Go.Proofs.Ytehebngkjfjkbaa
