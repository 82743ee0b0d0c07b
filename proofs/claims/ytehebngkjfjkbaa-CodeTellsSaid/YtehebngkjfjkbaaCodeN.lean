/-
  Requests: the reference AskOf.
-/
import Derived.Test.YtehebngkjfjkbaaCodeO
namespace Go.Proofs.Ytehebngkjfjkbaa
open Go.RowKit Go.Shelf

set_option maxRecDepth 100000 in
set_option maxHeartbeats 20000000 in
theorem AskOf_any (s : List UInt8) (w : World) (hsz : s.length ≤ maxLen) : Calls Try.prog 39 #[.string ⟨s.toArray⟩] w fun e w' =>
    e = .returned (.tuple #[.agg (askA (decV s).1), .int .i64 (decV s).2]) ∧ Below w.heap.size w w' := by
  obtain ⟨V, hV⟩ : ∃ V, V = decV s := ⟨_, rfl⟩
  rw [← hV]
  have HV := Lib.hid hV
  clear hV
  unfold maxLen at hsz
  go_enter Try.func39, Try.ntmps39
  go_upto_region 0 with (fail)
  go_cut [2] (fun c wx => ∃ z, c = .pointer (some ⟨z, 0, none⟩) ∧ AskAt wx z ask0 ∧ Below w.heap.size w wx ∧ w.heap.size ≤ z)
  case first => as_aux_lemma =>
    go_wp2_with fail
    go_meet
    exact ⟨_, rfl, Blk.new _ _ _, bel1 _ _, by omega⟩
  obtain ⟨z, rfl, hZ, hb, gz⟩ := hcut
  obtain ⟨z0, z1, z2, z3, z4, z5, z6, z7, z8, z9, z10⟩ := hZ.all
  have zf := hZ.free
  by_cases hfew : s.length < 3
  · obtain rfl : V = (ask0, 1) := by rw [HV.out]; exact decV_few hfew
    go_wp2_with fail
    exact bodyPost_ret (v := .tuple #[.agg (askA ask0), .int .i64 1]) (ret_ask (by kernel_rfl) (((((((((((Blk.set hZ _).set _).set _).set _).set _).set _).set _).set _).set _).set _).set _) rfl rfl) rfl ⟨rfl, ((((((((((Below.setCell hb (p := ⟨z, 0, none⟩) gz _).setCell (p := ⟨z, 1, none⟩) gz _).setCell (p := ⟨z, 2, none⟩) gz _).setCell (p := ⟨z, 3, none⟩) gz _).setCell (p := ⟨z, 4, none⟩) gz _).setCell (p := ⟨z, 5, none⟩) gz _).setCell (p := ⟨z, 6, none⟩) gz _).setCell (p := ⟨z, 7, none⟩) gz _).setCell (p := ⟨z, 8, none⟩) gz _).setCell (p := ⟨z, 9, none⟩) gz _).setCell (p := ⟨z, 10, none⟩) gz _⟩
  match s, hfew, hsz, HV with
  | [], hfew, _, _ => exact absurd (show ([] : List UInt8).length < 3 by decide) hfew
  | [_], hfew, _, _ => exact absurd (show [_].length < 3 by simp) hfew
  | [_, _], hfew, _, _ => exact absurd (show [_, _].length < 3 by simp) hfew
  | ca :: cb :: cc :: rs, hfew, hsz, HV =>
    clear hfew
    have hd0 := dec0_three (a := ca) (b := cb) (c := cc) (r := rs)
    obtain ⟨s, hs⟩ : ∃ s, s = ca :: cb :: cc :: rs := ⟨_, rfl⟩
    rw [← hs] at HV hd0 hsz ⊢
    have hi0 := fun W => idx_str (L := s) (k := 0) (d := ca) (by rw [hs]; rfl) W
    have hi1 := fun W => idx_str (L := s) (k := 1) (d := cb) (by rw [hs]; rfl) W
    have hi2 : ∀ W, (Instr.index 9 (.string ⟨s.toArray⟩) (.int .i64 2)).run Try.prog W = .ok (.int .u8 (cc.toNat : Int)) W := fun W => idx_str (L := s) (k := 2) (d := cc) (by rw [hs]; rfl) W
    have hs3 : 3 ≤ s.length := by rw [hs]; simp
    have hrs : s.drop 3 = rs := by rw [hs]; rfl
    simp only [Int.natCast_zero, Int.natCast_one] at hi0 hi1
    have ha := ca.toNat_lt
    have hbb := cb.toNat_lt
    have hcc := cc.toNat_lt
    have HD0 := Lib.hid hd0
    clear hd0
    have HRS := Lib.hid hrs
    clear hrs
    clear hs
    obtain ⟨N, hN⟩ : ∃ N, N = namesS (ca.toNat : Int) := ⟨_, rfl⟩
    go_wp2_with fail
    refine (between_any (ca.toNat : Int) 1 8 _).mono ?_
    rintro e w9 ⟨rfl, rfl⟩
    cases q_HK : betB (ca.toNat : Int) 1 8 <;> have HK := Lib.hid q_HK <;> clear q_HK
    · obtain rfl : V = (ask0, 1) := by rw [HV.out]; exact decV_kind (by rw [HD0.out]; exact HK.out)
      go_wp2_with fail
      exact bodyPost_ret (v := .tuple #[.agg (askA ask0), .int .i64 1]) (ret_ask (by kernel_rfl) (((((((((((Blk.set hZ _).set _).set _).set _).set _).set _).set _).set _).set _).set _).set _) rfl rfl) rfl ⟨rfl, ((((((((((Below.setCell hb (p := ⟨z, 0, none⟩) gz _).setCell (p := ⟨z, 1, none⟩) gz _).setCell (p := ⟨z, 2, none⟩) gz _).setCell (p := ⟨z, 3, none⟩) gz _).setCell (p := ⟨z, 4, none⟩) gz _).setCell (p := ⟨z, 5, none⟩) gz _).setCell (p := ⟨z, 6, none⟩) gz _).setCell (p := ⟨z, 7, none⟩) gz _).setCell (p := ⟨z, 8, none⟩) gz _).setCell (p := ⟨z, 9, none⟩) gz _).setCell (p := ⟨z, 10, none⟩) gz _⟩
    go_upto_region 3 with (fail)
    go_cut [4] (fun a wx => ∃ ba, a = .pointer (some ⟨ba, 0, none⟩) ∧ AskAt wx ba ⟨256 * (cb.toNat : Int) + (cc.toNat : Int), (ca.toNat : Int), 0, 0, false, 0, 0, 0, 0, 0, 0⟩ ∧ AskAt wx z ask0 ∧ Below w.heap.size w wx ∧ w.heap.size ≤ ba ∧ ba ≠ z)
    case first => as_aux_lemma =>
      have hlz := Blk.lt hZ
      go_region
      all_goals go_wp2_with fail
      all_goals go_meet
      all_goals exact ⟨_, rfl, Blk.new wc _ _, hZ.bel (bel1 wc _).drew, (hb.alloc hb.size _).drew, hb.size, by omega⟩
    clear hZ hb z0 z1 z2 z3 z4 z5 z6 z7 z8 z9 z10 zf hi0 hi1 hi2
    obtain ⟨ba, rfl, hA, hZ, hb, ga, naz⟩ := hcut
    obtain ⟨_, k1, _⟩ := hA.all
    go_wp2_with fail
    refine (namesOf_any (ca.toNat : Int) _).mono ?_
    rintro e w9 ⟨rfl, rfl⟩
    rw [← hN]
    clear k1
    obtain ⟨pl, hpl⟩ : ∃ pl, pl = partsL (ca.toNat : Int) := ⟨_, rfl⟩
    have hNp : N.map partOf = pl := by rw [hN, hpl, names_parts]
    have hNl : N.length ≤ 7 := by rw [hN]; exact names_len _
    have hkd : (dec0 s).1.kind = (ca.toNat : Int) := by rw [HD0.out]
    obtain ⟨d0, hd0⟩ : ∃ d, d = dec0 s := ⟨_, rfl⟩
    have hi0 : (⟨256 * (cb.toNat : Int) + (cc.toNat : Int), (ca.toNat : Int), 0, 0, false, 0, 0, 0, 0, 0, 0⟩, (0 : Int), (rs, false)) = d0 := by rw [hd0, HD0.out]
    have e1 : (⟨256 * (cb.toNat : Int) + (cc.toNat : Int), (ca.toNat : Int), 0, 0, false, 0, 0, 0, 0, 0, 0⟩ : Ask) = decX d0 := by rw [← hi0]; rfl
    rw [e1] at hA
    have e2 : d0.2.2 = (s.drop 3, false) := by rw [← hi0, HRS.out]
    have e3 : 0 ≤ d0.2.1 ∧ d0.2.1 ≤ 1 := by rw [← hi0]; exact ⟨Int.le_refl 0, by show (0 : Int) ≤ 1; decide⟩
    have E2 := Lib.hid e2
    clear e2
    have E3 := Lib.hid e3
    clear e3
    have HN := Lib.hid hN
    clear hN
    have HPL := Lib.hid hpl
    clear hpl
    have HNP := Lib.hid hNp
    clear hNp
    have HD := Lib.hid hd0
    clear hd0
    have HKD := Lib.hid hkd
    clear hkd
    clear e1 hi0 ha hbb hcc
    go_wp2_with fail
    go_loopg [6, 7] N.length (fun gk a6 i wr => ∃ k a : Nat, k ≤ N.length ∧ N.length - k ≤ gk ∧ i = .int .i64 k ∧ a6 = .int .i64 a ∧ a ≤ s.length ∧ Aside ((decL (pl.take k) d0).2.2 = (s.drop a, false) ∧ 0 ≤ (decL (pl.take k) d0).2.1 ∧ (decL (pl.take k) d0).2.1 ≤ 1) ∧
      AskAt wr ba (decX (decL (pl.take k) d0)) ∧ AskAt wr z ask0 ∧ Below w.heap.size w wr)
    case atStart => exact ⟨0, 3, Nat.zero_le _, by omega, rfl, rfl, hs3, ⟨E2.out, E3.out⟩, hA, hZ, hb⟩
    case round =>
      clear hA hZ hb
      obtain ⟨k, a, hk, hgk, rfl, rfl, hal, HS, hA, hZ, hb⟩ := hrel
      obtain ⟨d, hd⟩ : ∃ d, d = decL (pl.take k) d0 := ⟨_, rfl⟩
      have HDK := Lib.hid hd
      rw [← hd] at HS hA
      clear hd
      by_cases hlt : k < N.length
      · obtain ⟨c, hc⟩ : ∃ c, N[k]? = some c := ⟨_, List.getElem?_eq_getElem hlt⟩
        have hiy := fun W => idx_str hc W
        have hcN : c ∈ namesS (ca.toNat : Int) := by rw [← HN.out]; exact List.mem_of_getElem? hc
        have hpk : pl[k]? = some (partOf c) := by rw [← HNP.out, List.getElem?_map, hc]; rfl
        have hpm : partOf c ∈ partsL (ca.toNat : Int) := names_mem hcN
        obtain ⟨m, hm, hm1, hm4⟩ := part_bytes hpm
        have HST := Lib.hid (show decL (pl.take (k + 1)) d0 = decStep d (partOf c) by rw [decL_succ d0 hpk, HDK.out])
        have HC9 := Lib.hid (names_C9 hcN)
        have HPK := Lib.hid hpk
        obtain ⟨y, hy⟩ : ∃ y, y = decX d := ⟨_, rfl⟩
        have hva := fun W => valueOf_any y c W
        rw [hm] at hva
        dsimp only [askA] at hva
        have hAy := hA
        rw [← hy] at hAy
        have HVA := Lib.hid hva
        clear hva
        obtain ⟨c0, c1, c2, c3, c4, c5, c6, c7, c8, c9, c10⟩ := hAy.all
        clear hc hcN hpk hy hAy
        go_upto_region 9 with (fail)
        go_cut [8, 9, 10] (fun u t f wx => t = .int .i64 m ∧ Below wr.heap.size wr wx)
        case first => as_aux_lemma =>
          go_region_with (go_at_call 75; refine (HVA.out _).mono ?_; rintro e wn ⟨rfl, hbn⟩)
          all_goals
            go_wp2_with fail
            go_meet
            exact ⟨rfl, (Below.refl _ wr).drew.trans hbn⟩
        obtain ⟨rfl, hb4⟩ := hcut
        replace hb := hb.trans (hb4.mono hb.size)
        replace hA := hA.bel hb4
        replace hZ := hZ.bel hb4
        clear hb4 c0 c1 c2 c3 c4 c5 c6 c7 c8 c9 c10
        by_cases hsh : (s.length : Int) - a < m
        · have hshort : V = (ask0, 1) := by
            rw [HV.out]
            refine decV_short_at (k := k + 1) ?_
            rw [HKD.out, ← HPL.out, ← HD.out, HST.out]
            show (readN d.2.2 (partOf c).bytes.toNat).2.2 = true
            rw [HS.1, hm]
            have : readN (s.drop a, false) m = (0, ([], true)) := if_pos (by rw [List.length_drop]; omega)
            rw [Int.toNat_natCast, this]
          obtain rfl := hshort
          obtain ⟨z0, z1, z2, z3, z4, z5, z6, z7, z8, z9, z10⟩ := hZ.all
          have zf := hZ.free
          go_wp2_with fail
          exact bodyPost_ret (v := .tuple #[.agg (askA ask0), .int .i64 1]) (ret_ask (by kernel_rfl) (((((((((((Blk.set hZ _).set _).set _).set _).set _).set _).set _).set _).set _).set _).set _) rfl rfl) rfl ⟨rfl, ((((((((((Below.setCell hb (p := ⟨z, 0, none⟩) gz _).setCell (p := ⟨z, 1, none⟩) gz _).setCell (p := ⟨z, 2, none⟩) gz _).setCell (p := ⟨z, 3, none⟩) gz _).setCell (p := ⟨z, 4, none⟩) gz _).setCell (p := ⟨z, 5, none⟩) gz _).setCell (p := ⟨z, 6, none⟩) gz _).setCell (p := ⟨z, 7, none⟩) gz _).setCell (p := ⟨z, 8, none⟩) gz _).setCell (p := ⟨z, 9, none⟩) gz _).setCell (p := ⟨z, 10, none⟩) gz _⟩
        have hrd : readN (s.drop a, false) m = (numOf ((s.drop a).take m), ((s.drop a).drop m, false)) := if_neg (by rw [List.length_drop]; omega)
        rw [List.drop_drop] at hrd
        have HD2 := Lib.hid (show decStep d (partOf c) = (setF d.1 (partOf c).ix (numOf ((s.drop a).take m)), levF d.2.1 (partOf c).ix (numOf ((s.drop a).take m)), (s.drop (a + m), false)) by
          unfold decStep; rw [HS.1, hm, Int.toNat_natCast, hrd])
        clear hrd
        go_upto_region 14 with (fail)
        go_loopg [6, 11, 12] m (fun gk2 a6 nv j wq => ∃ i : Nat, i ≤ m ∧ m - i ≤ gk2 ∧ j = .int .i64 i ∧ a6 = .int .i64 ((a : Int) + (i : Int)) ∧ nv = .int .i64 (numOf ((s.drop a).take i)) ∧ wq = wc)
        case atStart => exact ⟨0, by omega, by omega, rfl, by simp, rfl, rfl⟩
        case round =>
          obtain ⟨i, hi, hgi, rfl, rfl, rfl, rfl⟩ := hrel
          by_cases hli : i < m
          · obtain ⟨e, he⟩ : ∃ e, s[a + i]? = some e := ⟨_, List.getElem?_eq_getElem (by omega)⟩
            have hiz : ∀ W, (Instr.index 9 (.string ⟨s.toArray⟩) (.int .i64 ((a : Int) + (i : Int)))).run Try.prog W = .ok (.int .u8 (e.toNat : Int)) W := fun W => by
              have := idx_str he W
              rwa [Int.natCast_add] at this
            have hsn := numOf_snoc ((s.drop a).take i) e
            rw [← take_snoc (show (s.drop a)[i]? = some e by rw [List.getElem?_drop]; exact he)] at hsn
            have hb1 := (numOf_bd ((s.drop a).take i)).1
            have hb2 := numOf_lt (l := (s.drop a).take i) (by rw [List.length_take]; omega)
            have hel := e.toNat_lt
            obtain ⟨M, hM⟩ : ∃ M, M = numOf ((s.drop a).take i) := ⟨_, rfl⟩
            rw [← hM] at hsn hb1 hb2 ⊢
            have HSN := Lib.hid hsn
            clear hsn
            clear hM he
            go_wp2_with fail
            go_roundg (m - (i + 1))
            case measure => omega
            case rel => exact ⟨i + 1, by omega, by omega, by go_num, by go_num, by rw [HSN.out], rfl⟩
          · obtain rfl : i = m := by omega
            have hv0 := (numOf_bd ((s.drop a).take i)).1
            obtain ⟨v, hv⟩ : ∃ v, v = numOf ((s.drop a).take i) := ⟨_, rfl⟩
            rw [← hv] at HD2 hv0 ⊢
            obtain ⟨c0, c1, c2, c3, c4, c5, c6, c7, c8, c9, c10⟩ := hA.all
            have hf := hA.free
            have HA := Lib.hid hA
            have HZ := Lib.hid hZ
            have HB := Lib.hid hb
            clear hv hA hb
            have hcc := HC9.out
            simp only [C9, List.mem_cons, List.not_mem_nil, or_false] at hcc
            rcases hcc with rfl | rfl | rfl | rfl | rfl | rfl | rfl | rfl | rfl
            case inr.inr.inr.inr.inr.inr.inr.inr =>
              by_cases hv1 : 1 < v
              · obtain rfl : V = (ask0, 1) := by
                  rw [HV.out]
                  refine decV_lev (k := k + 1) ?_ ?_
                  · rw [HKD.out, ← HPL.out, ← HD.out, HST.out, HD2.out]; exact hv1
                  · rw [HKD.out, ← HPL.out]
                    exact nodup_drop (by rw [HPL.out]; exact (parts_ok _).2) HPK.out
                have hb := HB.out
                obtain ⟨z0, z1, z2, z3, z4, z5, z6, z7, z8, z9, z10⟩ := hZ.all
                have zf := hZ.free
                go_wp2_with fail
                exact bodyPost_ret (v := .tuple #[.agg (askA ask0), .int .i64 1]) (ret_ask (by kernel_rfl) (((((((((((Blk.set hZ _).set _).set _).set _).set _).set _).set _).set _).set _).set _).set _) rfl rfl) rfl ⟨rfl, ((((((((((Below.setCell hb (p := ⟨z, 0, none⟩) gz _).setCell (p := ⟨z, 1, none⟩) gz _).setCell (p := ⟨z, 2, none⟩) gz _).setCell (p := ⟨z, 3, none⟩) gz _).setCell (p := ⟨z, 4, none⟩) gz _).setCell (p := ⟨z, 5, none⟩) gz _).setCell (p := ⟨z, 6, none⟩) gz _).setCell (p := ⟨z, 7, none⟩) gz _).setCell (p := ⟨z, 8, none⟩) gz _).setCell (p := ⟨z, 9, none⟩) gz _).setCell (p := ⟨z, 10, none⟩) gz _⟩
              · clear hZ
                go_wp2_with fail
                go_roundg (N.length - (k + 1))
                case measure => omega
                case rel => exact ⟨k + 1, a + i, by omega, by omega, by go_num, by go_num, by omega, (show Aside _ from by rw [HST.out, HD2.out]; exact ⟨rfl, hv0, by show v ≤ 1; omega⟩), by rw [HST.out, HD2.out]; exact HA.out.set _, HZ.out.other (p := ⟨ba, 4, none⟩) naz _, HB.out.setCell (p := ⟨ba, 4, none⟩) ga _⟩
            all_goals
              clear hZ
              go_wp2_with fail
              go_roundg (N.length - (k + 1))
              case measure => omega
              case rel => exact ⟨k + 1, a + i, by omega, by omega, by go_num, by go_num, by omega, (show Aside _ from by rw [HST.out, HD2.out]; exact ⟨rfl, HS.2⟩), by rw [HST.out, HD2.out]; exact HA.out.set _, HZ.out.other (p := ⟨ba, _, none⟩) naz _, HB.out.setCell (p := ⟨ba, _, none⟩) ga _⟩
      · obtain rfl : k = N.length := by omega
        have hpn : pl.length = N.length := by rw [← HNP.out]; simp
        have hdd : d = decD s := by rw [HDK.out, ← hpn, List.take_length, HD.out, HPL.out]; unfold decD; rw [HKD.out]
        obtain ⟨z0, z1, z2, z3, z4, z5, z6, z7, z8, z9, z10⟩ := hZ.all
        have zf := hZ.free
        by_cases hmo : a < s.length
        · obtain rfl : V = (ask0, 1) := by
            rw [HV.out]
            refine decV_more ?_
            rw [← hdd, HS.1]
            intro e
            have := congrArg List.length e
            simp at this
            omega
          clear hdd
          go_wp2_with fail
          exact bodyPost_ret (v := .tuple #[.agg (askA ask0), .int .i64 1]) (ret_ask (by kernel_rfl) (((((((((((Blk.set hZ _).set _).set _).set _).set _).set _).set _).set _).set _).set _).set _) rfl rfl) rfl ⟨rfl, ((((((((((Below.setCell hb (p := ⟨z, 0, none⟩) gz _).setCell (p := ⟨z, 1, none⟩) gz _).setCell (p := ⟨z, 2, none⟩) gz _).setCell (p := ⟨z, 3, none⟩) gz _).setCell (p := ⟨z, 4, none⟩) gz _).setCell (p := ⟨z, 5, none⟩) gz _).setCell (p := ⟨z, 6, none⟩) gz _).setCell (p := ⟨z, 7, none⟩) gz _).setCell (p := ⟨z, 8, none⟩) gz _).setCell (p := ⟨z, 9, none⟩) gz _).setCell (p := ⟨z, 10, none⟩) gz _⟩
        have HV3 := Lib.hid (show V = if codeE (decX d) ≠ 0 then (ask0, codeE (decX d)) else (decX d, 0) by
          rw [HV.out, hdd]
          refine decV_good (by rw [HKD.out]; exact HK.out) ?_ (by rw [← hdd]; exact HS.2.2)
          rw [← hdd, HS.1, List.drop_eq_nil_of_le (by omega)])
        obtain ⟨y, hy⟩ : ∃ y, y = decX d := ⟨_, rfl⟩
        obtain ⟨r, hr⟩ : ∃ r, r = codeE y := ⟨_, rfl⟩
        rw [← hy, ← hr] at HV3
        rw [← hy] at hA
        have hck := fun W => CheckAsk_any y W
        rw [askR_code, ← hr] at hck
        dsimp only [askA] at hck
        have HCK := Lib.hid hck
        clear hck
        obtain ⟨a0, a1, a2, a3, a4, a5, a6, a7, a8, a9, a10⟩ := hA.all
        clear hy hr hdd z0 z1 z2 z3 z4 z5 z6 z7 z8 z9 z10
        go_wp2_with fail
        refine (HCK.out _).mono ?_
        rintro e w5 ⟨rfl, hb5⟩
        replace hA := hA.bel hb5
        replace hZ := hZ.bel hb5
        replace hb := hb.trans (hb5.mono hb.size)
        obtain ⟨z0, z1, z2, z3, z4, z5, z6, z7, z8, z9, z10⟩ := hZ.all
        replace zf := hZ.free
        by_cases h0 : ¬ r = 0
        · obtain rfl : V = (ask0, r) := by rw [HV3.out, if_pos h0]
          have h0' : (r != 0) = true := by simpa using h0
          clear h0
          go_wp2_with fail
          exact bodyPost_ret (v := .tuple #[.agg (askA ask0), .int .i64 r]) (ret_ask (by kernel_rfl) (((((((((((Blk.set hZ _).set _).set _).set _).set _).set _).set _).set _).set _).set _).set _) rfl rfl) rfl ⟨rfl, ((((((((((Below.setCell hb (p := ⟨z, 0, none⟩) gz _).setCell (p := ⟨z, 1, none⟩) gz _).setCell (p := ⟨z, 2, none⟩) gz _).setCell (p := ⟨z, 3, none⟩) gz _).setCell (p := ⟨z, 4, none⟩) gz _).setCell (p := ⟨z, 5, none⟩) gz _).setCell (p := ⟨z, 6, none⟩) gz _).setCell (p := ⟨z, 7, none⟩) gz _).setCell (p := ⟨z, 8, none⟩) gz _).setCell (p := ⟨z, 9, none⟩) gz _).setCell (p := ⟨z, 10, none⟩) gz _⟩
        · obtain rfl : r = 0 := by omega
          obtain rfl : V = (y, 0) := by rw [HV3.out, if_neg (by simp)]
          clear a0 a1 a2 a3 a4 a5 a6 a7 a8 a9 a10
          obtain ⟨a0, a1, a2, a3, a4, a5, a6, a7, a8, a9, a10⟩ := hA.all
          go_wp2_with fail
          exact bodyPost_ret (v := .tuple #[.agg (askA y), .int .i64 0]) (ret_ask (x := y) (e := 0) (by kernel_rfl) (ask_store y hZ) rfl rfl) rfl ⟨rfl, ((((((((((Below.setCell hb (p := ⟨z, 0, none⟩) gz _).setCell (p := ⟨z, 1, none⟩) gz _).setCell (p := ⟨z, 2, none⟩) gz _).setCell (p := ⟨z, 3, none⟩) gz _).setCell (p := ⟨z, 4, none⟩) gz _).setCell (p := ⟨z, 5, none⟩) gz _).setCell (p := ⟨z, 6, none⟩) gz _).setCell (p := ⟨z, 7, none⟩) gz _).setCell (p := ⟨z, 8, none⟩) gz _).setCell (p := ⟨z, 9, none⟩) gz _).setCell (p := ⟨z, 10, none⟩) gz _⟩
end Go.Proofs.Ytehebngkjfjkbaa
