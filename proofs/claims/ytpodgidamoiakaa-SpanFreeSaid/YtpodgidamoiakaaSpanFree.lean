/-
  The law SpanFree returns true, whatever it is handed, and changes nothing that was there.
-/
import Derived.Test.YtpodgidamoiakaaSpanI
import Derived.Test.YtpodgidamoiakaaSpanLift
namespace Go.Proofs.Ytpodgidamoiakaa
open Go.ChangeShapes Go.WideShapes Go.ChangeAt Go.RowKit Go.Shelf

set_option maxRecDepth 100000 in
set_option maxHeartbeats 8000000 in
theorem SpanFree_walk (W : World) (A : Option Addr) (n cap : Nat) (l : List Span) (h : Sl spanC 2 W All A n cap l) (legs : Int) (hi : InI legs) :
    Calls Try.prog 8 #[.slice A n cap, .int .i64 legs] W fun e w' => e = .returned (.bool true) ∧ Below W.heap.size W w' := by
  have hF := Free_any A n cap l legs W h hi
  obtain ⟨r, hr⟩ : ∃ r, r = calE l legs := ⟨_, rfl⟩
  rw [← hr] at hF
  have HF := Lib.hid hF
  clear hF
  have HR := Lib.hid hr
  clear hr
  go_enter Try.func8, Try.ntmps8
  go_wp2_with fail
  refine HF.out.mono ?_
  rintro e w1 ⟨v1, xs1, rfl, ho, hb⟩
  obtain ⟨B, m, cap2, rfl, hs⟩ := ho.sl spanC_good
  replace hs := hs.all spanC_good (by omega)
  clear ho
  go_wp2_with fail
  refine (spanBegun_any _).mono ?_
  rintro e w2 ⟨rfl, hb2⟩
  replace hb := hb.trans (hb2.mono hb.size)
  replace hs := hs.bel hb2
  clear hb2
  by_cases h0 : ¬ r = 0
  · have hm : m = 0 := by rw [← hs.len, okL_ne h0]; rfl
    have h0' : (r != 0) = true := by simpa using h0
    subst hm
    clear h0 hs
    go_wp2_with fail
    go_ret
    exact ⟨rfl, hb⟩
  have h0 : r = 0 := by omega
  subst h0
  rw [okL_zero] at hs
  have hok := cal_ok HR.out.symm
  obtain ⟨N, rfl⟩ := Int.eq_ofNat_of_zero_le (show 0 ≤ legs by have := hok.lo; omega)
  have hN7 : N ≤ 7 := by have := hok.hi; omega
  have hl7 : l.length ≤ 7 := by have := hok.len; omega
  obtain ⟨f, hf⟩ : ∃ f, f = gapsL l (N : Int) := ⟨_, rfl⟩
  have hf8 : f.length ≤ 8 := by rw [hf]; have := gaps_len (l := l) (legs := (N : Int)); omega
  have HCNT := Lib.hid (show ∀ i : Nat, i < N → cnt i l + cnt i f = 1 from fun i hi => by rw [hf]; exact free_cnt hok (by omega) (by omega))
  have HAP := Lib.hid (show f.Pairwise (fun x y => x.upto < y.frm) by rw [hf]; exact free_apart hok)
  rw [← hf] at hs
  replace h := h.bel hb
  have hbn := h.bd
  have hbm := hs.bd
  have hnl := Lib.hid h.len
  have hml := Lib.hid hs.len
  have hn7 : n ≤ 7 := by rw [← hnl.out]; exact hl7
  have hm8 : m ≤ 8 := by rw [← hml.out]; exact hf8
  clear hf hok hl7 hf8 hi
  go_wp2_with fail
  go_loopg [7] N (fun gk i wr => ∃ i0 : Nat, i0 ≤ N ∧ N - i0 ≤ gk ∧ i = .int .i64 i0 ∧ wr = w2)
  case atStart => exact ⟨0, Nat.zero_le _, by omega, rfl, rfl⟩
  case round =>
    obtain ⟨i0, hi0, hgi, rfl, rfl⟩ := hrel
    by_cases hlt : i0 < N
    · go_upto_region 11 with (fail)
      go_loopg [8, 9] n (fun gk c k wr2 => ∃ k0 : Nat, k0 ≤ n ∧ n - k0 ≤ gk ∧ k = .int .i64 k0 ∧ c = .int .i64 (cnt i0 (l.take k0)) ∧ wr2 = wr)
      case atStart => exact ⟨0, Nat.zero_le _, by omega, rfl, rfl, rfl⟩
      case round =>
        obtain ⟨k0, hk0, hgk, rfl, rfl, rfl⟩ := hrel
        by_cases hkl : k0 < n
        · obtain ⟨b, off, x, c0, c1, rfl, hx, ⟨hc, _⟩, g0, g1⟩ := h.at2 hkl
          simp only [List.cons.injEq, and_true] at hc
          obtain ⟨rfl, rfl⟩ := hc
          have hcs := cnt_succ (i0 : Int) hx
          have hcb := cnt_bd (i0 : Int) (l.take k0)
          have hct : (l.take k0).length ≤ 7 := by rw [List.length_take]; omega
          obtain ⟨c, hcc⟩ : ∃ c, c = cnt (i0 : Int) (l.take k0) := ⟨_, rfl⟩
          rw [← hcc] at hcs hcb ⊢
          have hc0 := hcb.1
          have hc1 : c ≤ 7 := by omega
          have HCS := Lib.hid hcs
          clear hcs
          clear hx hcb hcc hct
          by_cases h1 : x.frm ≤ (i0 : Int)
          · by_cases h2 : (i0 : Int) < x.upto
            · have HV := Lib.hid (show cnt (i0 : Int) (l.take (k0 + 1)) = c + 1 by rw [HCS.out, if_pos ⟨h1, h2⟩])
              go_wp2_with fail
              go_roundg (n - (k0 + 1))
              case measure => omega
              case rel => exact ⟨k0 + 1, by omega, by omega, by go_num, by rw [HV.out], rfl⟩
            · have HV := Lib.hid (show cnt (i0 : Int) (l.take (k0 + 1)) = c by rw [HCS.out, if_neg (fun e => h2 e.2)]; omega)
              go_wp2_with fail
              go_roundg (n - (k0 + 1))
              case measure => omega
              case rel => exact ⟨k0 + 1, by omega, by omega, by go_num, by rw [HV.out], rfl⟩
          · have HV := Lib.hid (show cnt (i0 : Int) (l.take (k0 + 1)) = c by rw [HCS.out, if_neg (fun e => h1 e.1)]; omega)
            go_wp2_with fail
            go_roundg (n - (k0 + 1))
            case measure => omega
            case rel => exact ⟨k0 + 1, by omega, by omega, by go_num, by rw [HV.out], rfl⟩
        · obtain rfl : k0 = n := by omega
          have hT : l.take k0 = l := List.take_of_length_le (Nat.le_of_eq hnl.out)
          rw [hT]
          have hcn := HCNT.out i0 hlt
          have hc1 := cnt_bd (i0 : Int) l
          obtain ⟨c, hcc⟩ : ∃ c, c = cnt (i0 : Int) l := ⟨_, rfl⟩
          rw [← hcc] at hcn hc1 ⊢
          have hcl : 0 ≤ c := hc1.1
          have hcu : c ≤ 7 := by have := hnl.out; omega
          have HCN := Lib.hid hcn
          clear hcn
          clear hcc hc1 hT
          go_upto_region 16 with (fail)
          go_loopg [8, 10] m (fun gk c2 k wr2 => ∃ k0 : Nat, k0 ≤ m ∧ m - k0 ≤ gk ∧ k = .int .i64 k0 ∧ c2 = .int .i64 (c + cnt i0 (f.take k0)) ∧ wr2 = wr)
          case atStart => exact ⟨0, Nat.zero_le _, by omega, rfl, by show _ = Value.int .i64 (c + cnt i0 []); rw [cnt_nil, Int.add_zero], rfl⟩
          case round =>
            obtain ⟨k1, hk1, hgk1, rfl, rfl, rfl⟩ := hrel
            by_cases hkl : k1 < m
            · obtain ⟨b, off, x, c0, c1, rfl, hx, ⟨hc, _⟩, g0, g1⟩ := hs.at2 hkl
              simp only [List.cons.injEq, and_true] at hc
              obtain ⟨rfl, rfl⟩ := hc
              have hcs := cnt_succ (i0 : Int) hx
              have hcb := cnt_bd (i0 : Int) (f.take k1)
              have hct : (f.take k1).length ≤ 8 := by rw [List.length_take]; omega
              obtain ⟨d, hdd⟩ : ∃ d, d = cnt (i0 : Int) (f.take k1) := ⟨_, rfl⟩
              rw [← hdd] at hcs hcb ⊢
              have hd0 := hcb.1
              have hd1 : d ≤ 8 := by omega
              have HCS := Lib.hid hcs
              clear hcs
              clear hx hcb hdd hct
              by_cases h1 : x.frm ≤ (i0 : Int)
              · by_cases h2 : (i0 : Int) < x.upto
                · have HV := Lib.hid (show cnt (i0 : Int) (f.take (k1 + 1)) = d + 1 by rw [HCS.out, if_pos ⟨h1, h2⟩])
                  go_wp2_with fail
                  go_roundg (m - (k1 + 1))
                  case measure => omega
                  case rel => exact ⟨k1 + 1, by omega, by omega, by go_num, by rw [HV.out]; congr 1; omega, rfl⟩
                · have HV := Lib.hid (show cnt (i0 : Int) (f.take (k1 + 1)) = d by rw [HCS.out, if_neg (fun e => h2 e.2)]; omega)
                  go_wp2_with fail
                  go_roundg (m - (k1 + 1))
                  case measure => omega
                  case rel => exact ⟨k1 + 1, by omega, by omega, by go_num, by rw [HV.out], rfl⟩
              · have HV := Lib.hid (show cnt (i0 : Int) (f.take (k1 + 1)) = d by rw [HCS.out, if_neg (fun e => h1 e.1)]; omega)
                go_wp2_with fail
                go_roundg (m - (k1 + 1))
                case measure => omega
                case rel => exact ⟨k1 + 1, by omega, by omega, by go_num, by rw [HV.out], rfl⟩
            · obtain rfl : k1 = m := by omega
              have hT : f.take k1 = f := List.take_of_length_le (Nat.le_of_eq hml.out)
              rw [hT, HCN.out]
              clear hT
              go_wp2_with fail
              go_roundg (N - (i0 + 1))
              case measure => omega
              case rel => exact ⟨i0 + 1, by omega, by omega, by go_num, rfl⟩
    · obtain rfl : i0 = N := by omega
      go_upto_region 23 with (fail)
      go_loopg [11] m (fun gk k wr2 => ∃ k0 : Nat, (k0 ≤ m ∨ k0 = 1) ∧ 1 ≤ k0 ∧ m - k0 ≤ gk ∧ k = .int .i64 k0 ∧ Below wr.heap.size wr wr2)
      case atStart => exact ⟨1, .inr rfl, by omega, by omega, rfl, Below.refl _ _⟩
      case round =>
        obtain ⟨k0, hk0, hk1, hgk, rfl, hb3⟩ := hrel
        by_cases hkl : k0 < m
        · obtain ⟨j, rfl⟩ : ∃ j, k0 = j + 1 := ⟨k0 - 1, by omega⟩
          obtain ⟨b, off, x, c0, c1, rfl, hx, ⟨hc, _⟩, g0, g1⟩ := (hs.bel hb3).at2 hkl
          simp only [List.cons.injEq, and_true] at hc
          obtain ⟨rfl, rfl⟩ := hc
          obtain ⟨b2, off2, y, d0, d1, hA2, hy, ⟨hc2, _⟩, e0, e1⟩ := (hs.bel hb3).at2 (show j < m by omega)
          injection hA2 with hA2
          injection hA2 with hb2 ho2 _
          subst hb2 ho2
          simp only [List.cons.injEq, and_true] at hc2
          obtain ⟨rfl, rfl⟩ := hc2
          have hlt2 : y.upto < x.frm := by
            have hp := HAP.out
            rw [List.pairwise_iff_getElem] at hp
            obtain ⟨h3, rfl⟩ := List.getElem?_eq_some_iff.1 hx
            obtain ⟨h4, rfl⟩ := List.getElem?_eq_some_iff.1 hy
            exact hp j (j + 1) h4 h3 (by omega)
          have hw : IntKind.i64.wrap (j : Int) = j := IntWalk.i64_in _ (by omega)
          have hd : decide (x.frm ≤ y.upto) = false := decide_eq_false (by omega)
          clear hx hy
          go_wp2_with fail
          go_quiet (fail)
          go_wp2_with fail
          go_roundg (m - (j + 1 + 1))
          case measure => omega
          case rel => exact ⟨j + 1 + 1, by omega, by omega, by omega, by go_num, below_drewN hb3 _⟩
        · have hge : ¬ (k0 : Int) < (m : Int) := by omega
          go_wp2_with fail
          go_ret
          exact ⟨rfl, hb.trans (hb3.mono hb.size)⟩

set_option maxRecDepth 100000 in
theorem SpanFree_lifted (os : Os) (started : os.Started) (H : Type) (enc : TypeId × Value → H) :
    ReturnsInHanded {} Try.checked os 8 .any (Rows.spanFreeSpec.pre6 enc Try.prog Try.f8 Rows.spanFreeRow.domain false) (Rows.spanFreeSpec.post enc Try.prog Try.f8 false true false false) := by
  refine returnsInHanded_of_change (C := Try.checked) own started (by kernel_rfl) Try.func8
    (ChangeSpec.witness6 (enc := enc) (C := Try.checked) false ⟨#[], #[.slice none 0 0, .int .i64 0], []⟩ 8 (by kernel_rfl) (by kernel_rfl) (by kernel_rfl) (by kernel_rfl)) ?_
  intro W base args ds gs before hval0 hW hcnd _
  have hval : ∀ (j : Nat) t v, Try.f8.params[j]? = some t → args[j]? = some v → Value.okWide Try.prog W .any base t v := hval0
  have hW' := hW
  obtain ⟨p, q, hA0, hV, rfl, hfz, hnd⟩ := hW
  have hA : DataW.TrodAll enc Try.prog W 0 (fun _ => true) true Try.f8.params.toList args.toList ds p := hA0
  rw [Try.params8] at hA hval
  obtain ⟨v0, vs0, d0, ds0, p0, q0, hargs, rfl, rfl, h0, r0⟩ := trodAll_cons hA
  obtain ⟨v1, vs1, d1, ds1, p1, q1, rfl, rfl, rfl, h1, r1⟩ := trodAll_cons r0
  obtain ⟨rfl, rfl, rfl⟩ := trodAll_nil r1
  obtain rfl : args = #[v0, v1] := by cases args; simp_all
  obtain ⟨rfl, rfl⟩ := trodVars_none hV
  have lt0 := arg_lt h0
  have k0 := h0
  obtain ⟨A0, n0, c0, a0, rfl, w0⟩ := arg_sl (size := 2) Try.underlying43 (by kernel_rfl) (by omega) opens_spanC (hval 0 43 v0 rfl rfl) h0
  have lt1 := arg_lt h1
  have k1 := h1
  obtain ⟨a1, rfl, w1⟩ := arg_int Try.underlying3 (hval 1 3 v1 rfl rfl) h1
  clear hA0 hval0
  refine (SpanFree_walk W A0 n0 c0 a0 w0 a1 w1).mono fun e W' ⟨he, bel⟩ => ?_
  subst he
  exact ⟨_, rfl, _, _, _, [], _, [], hW', trodAll_mk1 (shut_bool Try.underlying4 _), (trodAll_cons_mk (Below.trod laidOut (by kernel_rfl) (of_decide_eq_true (by kernel_rfl)) k0 bel lt0) (trodAll_cons_mk (Below.trod laidOut (by kernel_rfl) (of_decide_eq_true (by kernel_rfl)) k1 bel lt1) trodAll_mk0)), rfl, bel.frame _, fun h => by cases h⟩

/-- THE GIVEN STATEMENT SpanFree. -/
theorem spanFree_holds : Rows.SpanFreeSaid :=
  OpenClaim.holds_of_wide 8 Try.f8 rfl rfl rfl rfl rfl rfl rfl ⟨rfl, rfl, rfl, rfl, rfl⟩ rfl rfl rfl rfl rfl (by kernel_rfl) Try.func8 (by kernel_rfl)
    (of_decide_eq_true (by kernel_rfl)) (by unfold Func.isWrapper; rw [if_neg (of_decide_eq_false (by kernel_rfl))]; exact ⟨rfl, rfl⟩)
    (fun os started H enc _ => SpanFree_lifted os started H enc)
#print axioms spanFree_holds
end Go.Proofs.Ytpodgidamoiakaa
