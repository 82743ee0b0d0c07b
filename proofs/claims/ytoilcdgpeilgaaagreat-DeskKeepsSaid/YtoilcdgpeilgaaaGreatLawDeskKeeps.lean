/-
  The law DeskKeeps returns true, whatever it is handed, and changes nothing that was there.
-/
import Derived.Test.YtoilcdgpeilgaaaGreatBun0
import Derived.Test.YtoilcdgpeilgaaaGreatBun32
import Derived.Test.YtoilcdgpeilgaaaGreatBun35
import Derived.BigQuiet
set_option linter.unusedSimpArgs false
set_option linter.unusedVariables false
namespace Go.Proofs.YtoilcdgpeilgaaaGreat
open Go.ChangeShapes Go.WideShapes Go.ChangeAt Go.RowKit Go.Shelf

theorem crash_ok {wr keep : Int} {n : Nat} (h : crE wr n keep = 0) : ∃ c : Nat, crN wr n keep = (c : Int) ∧ c ≤ n ∧ wr ≤ (c : Int) := by
  unfold crE at h
  by_cases q : wrB wr n = false ∨ keep < 0
  · rw [if_pos q] at h; omega
  have h1 : 0 ≤ wr ∧ wr ≤ (n : Int) := by
    have h2 : wrB wr n = true := by cases hb : wrB wr n; exact absurd (.inl hb) q; rfl
    unfold wrB at h2
    rw [Bool.and_eq_true, decide_eq_true_eq, decide_eq_true_eq] at h2
    exact h2
  have h2 : 0 ≤ keep := by
    rcases Int.lt_or_le keep 0 with h | h
    · exact absurd (.inr h) q
    · exact h
  obtain ⟨c, hc⟩ := Int.eq_ofNat_of_zero_le (show 0 ≤ crN wr n keep by unfold crN; omega)
  refine ⟨c, hc, ?_, ?_⟩
  · unfold crN at hc; omega
  · unfold crN at hc; omega
theorem crash_two {c : Nat} {more : Int} (h : 0 ≤ more) : crE (c : Int) c more = 0 ∧ crN (c : Int) c more = (c : Int) := by
  constructor
  · unfold crE
    rw [if_neg]
    rintro (q | q)
    · unfold wrB at q
      rw [decide_eq_true (show (0 : Int) ≤ (c : Int) by omega), decide_eq_true (Int.le_refl _)] at q
      cases q
    · omega
  · unfold crN; omega
set_option maxRecDepth 100000 in
set_option maxHeartbeats 20000000 in
theorem DeskKeeps_walk (W : World) (cs0 : Array Value) (x : List Don × Int) (hx0 : logC W All x cs0.toList) (hz : ∀ (A : Option Addr) (n cap : Nat) (v : Value), cs0 = #[.slice A n cap, v] → n * 104 ≤ 140737488355328) (keep : Int) (ik : InI keep) (more : Int) (im : InI more) :
    Calls Tryz.prog 16 #[.agg cs0, .int .i64 keep, .int .i64 more] W fun e w' => e = .returned (.bool true) ∧ Below W.heap.size W w' := by
  obtain ⟨l, wr⟩ := x
  obtain ⟨A, n, cap, he, hS, iw⟩ := hx0
  simp only at he hS iw
  obtain rfl : cs0 = #[.slice A n cap, .int .i64 wr] := by cases cs0; simp_all
  have hn := hz A n cap _ rfl
  have HC1 := Lib.hid (fun X hX => Crash_any A n cap l wr keep X hX hn ik)
  obtain ⟨e1, he1⟩ : ∃ r, r = crE wr n keep := ⟨_, rfl⟩
  obtain ⟨N, hN⟩ : ∃ r, r = crN wr n keep := ⟨_, rfl⟩
  rw [← he1, ← hN] at HC1
  have HOK := Lib.hid (show e1 = 0 → ∃ c : Nat, N = (c : Int) ∧ c ≤ n ∧ wr ≤ (c : Int) from fun q => by rw [hN]; exact crash_ok (he1.symm.trans q))
  have hbd := hS.bd
  have HLE := Lib.hid (show n ≤ cap from hS.le)
  have HS := Lib.hid hS
  clear he1 hN he hS hz
  go_enter Tryz.func16, Tryz.ntmps16
  go_upto_region 0 with (fail)
  go_cut [3, 6] (fun p _ wx => ∃ g, p = .pointer (some ⟨g, 0, none⟩) ∧ Blk wx g #[.slice A n cap, .int .i64 wr] 83 ∧ Below W.heap.size W wx)
  case first => as_aux_lemma =>
    go_wp2_with fail
    go_meet
    exact ⟨_, rfl, blk1 _ _, bel1 _ _⟩
  obtain ⟨g, rfl, hG, hb0⟩ := hcut
  obtain ⟨W0, hW0⟩ : ∃ V, V = wc := ⟨_, rfl⟩
  subst hW0
  have HT := Lib.hid (fun X (hX : Below W0.heap.size W0 X) => hb0.trans (hX.mono hb0.size))
  have HG := Lib.hid (fun X (hX : Below W0.heap.size W0 X) => hG.bel hX)
  have HSX := Lib.hid (fun X (hX : Below W0.heap.size W0 X) => HS.out.bel (HT.out X hX))
  clear hG hb0
  go_upto_region 1 with (fail)
  go_cut [7, 8] (fun q e wx => e = .int .i64 e1 ∧ (∃ s A1 n1 c1, q = .pointer (some ⟨s, 0, none⟩) ∧ Blk wx s #[.slice A1 n1 c1, .int .i64 (okI e1 N)] 83 ∧ Sl donC 13 wx All A1 n1 c1 (okL e1 (l.take N.toNat))) ∧ Below W0.heap.size W0 wx)
  case first =>
    have HC := Lib.hid (HC1.out _ (HSX.out _ (Below.refl _ _)))
    have hg := HG.out _ (Below.refl _ _)
    clear HC1 HOK
    go_wp2_with (refine wpList_load_row rfl 83 (.tmp 3) rfl g rfl 83 _ (0, 0) _ hg Tryz.underlying83 rfl (by kernel_rfl) ?_)
    refine HC.out.mono ?_
    rintro e w8 ⟨⟨v, xs, rfl, hO⟩, hb8⟩
    obtain ⟨A1, n1, c1, rfl, hs⟩ := hO.sl donC_good
    have HD8 := Lib.hid (hs.all donC_good (by omega))
    have HB8 := Lib.hid hb8
    clear hO hs hb8 HC hg
    go_wp2_with (refine wpList_store_row rfl 83 (.tmp 7) (.tmp 15) rfl w8.heap.size #[.slice A1 n1 c1, .int .i64 (okI e1 N)] rfl rfl 83 _ (Blk.new w8 #[.slice none 0 0, .int .i64 0] 83) (by kernel_rfl) rfl (by simp [Value.oneCell']) ?_)
    go_meet
    have hbe : Below w8.heap.size w8 ((w8.alloc (.cells #[.slice none 0 0, .int .i64 0] 83)).setRow w8.heap.size #[.slice A1 n1 c1, .int .i64 (okI e1 N)]) := below_setRow (bel1 w8 _) (Nat.le_refl _) _
    exact ⟨rfl, ⟨_, A1, n1, c1, rfl, (Blk.new w8 _ _).row _, HD8.out.bel hbe⟩, HB8.out.trans (hbe.mono HB8.out.size)⟩
  obtain ⟨rfl, ⟨s1, A1, n1, c1, rfl, hZ1, hD1⟩, hb⟩ := hcut
  obtain ⟨W1, hW1⟩ : ∃ V, V = wc := ⟨_, rfl⟩
  subst hW1
  have HZ1 := Lib.hid hZ1
  have HD1 := Lib.hid hD1
  have HB := Lib.hid hb
  clear hb
  clear hZ1 hD1 HC1
  go_wp2_with fail
  refine (deskBegun_any _).mono ?_
  rintro e w2 ⟨rfl, hb2⟩
  have hZ2 := HZ1.out.bel hb2
  have hD2 := HD1.out.bel hb2
  have hb := HB.out.trans (hb2.mono HB.out.size)
  clear hb2 HZ1 HD1 HB
  obtain ⟨W2, hW2⟩ : ∃ V, V = w2 := ⟨_, rfl⟩
  subst hW2
  by_cases q1 : e1 = 0
  rotate_left
  · have q2 : (e1 != 0) = true := by simpa using q1
    obtain rfl : 0 = n1 := by have := hD2.len; rw [okL_ne q1] at this; exact this
    have z0 : W2.cell? ⟨s1, 0, none⟩ = some (.slice A1 0 c1) := hZ2.cell rfl
    have HB := Lib.hid (HT.out _ hb)
    clear q1 hZ2 hD2 hb
    go_wp2_with fail
    go_ret
    exact ⟨rfl, HB.out⟩
  obtain ⟨c, hNc, hcn, hwc⟩ := HOK.out q1
  subst q1
  rw [okI_zero, hNc] at hZ2
  rw [okL_zero, hNc, Int.toNat_natCast] at hD2
  have hlen : l.length = n := HS.out.len
  obtain rfl : c = n1 := by have := hD2.len; rw [List.length_take] at this; omega
  obtain ⟨L1, hL1⟩ : ∃ L, L = l.take c := ⟨_, rfl⟩
  have hpre := fun X (hX : Below W2.heap.size W2 X) => ((HSX.out _ hb).bel hX).pre hcn
  rw [← hL1] at hD2 hpre
  have HPR := Lib.hid hpre
  have HZ2 := Lib.hid (fun X (hX : Below W2.heap.size W2 X) => hZ2.bel hX)
  have HD2 := Lib.hid (fun X (hX : Below W2.heap.size W2 X) => hD2.bel hX)
  have HG2 := Lib.hid (fun X (hX : Below W2.heap.size W2 X) => HG.out _ (hb.trans (hX.mono hb.size)))
  have HB := Lib.hid hb
  have HLT := Lib.hid (show L1.length = c from hD2.len)
  have hbc := hD2.bd
  clear hL1 hpre hNc hZ2 hD2 hb HOK hlen
  have hcc : c ≤ cap := by have := HLE.out; omega
  have hd1 : decide ((n : Int) < (c : Int)) = false := decide_eq_false (by omega)
  have hd1n : decide (n < c) = false := decide_eq_false (by omega)
  have hd2 : decide ((c : Int) < wr) = false := decide_eq_false (by omega)
  have hd3 : decide ((c : Int) < 0) = false := decide_eq_false (by omega)
  have HSS := Lib.hid (show ∀ X, Below W2.heap.size W2 X → (fun n1 => (fun w' => (w'.cell? ⟨g, 0, none⟩ = some (.slice A n cap) ∧ w'.cell? ⟨g, 1, none⟩ = some (.int .i64 wr)) ∧ w'.cell? ⟨s1, 0, none⟩ = some (.slice A1 n1 c1) ∧ w'.cell? ⟨s1, 1, none⟩ = some (.int .i64 (n1 : Int)))) c X from fun X hX => ⟨⟨(HG2.out X hX).cell rfl, (HG2.out X hX).cell rfl⟩, (HZ2.out X hX).cell rfl, (HZ2.out X hX).cell rfl⟩)
  have s0 : W2.cell? ⟨s1, 0, none⟩ = some (.slice A1 c c1) := (HZ2.out _ (Below.refl _ _)).cell rfl
  go_upto_region 7 with (fail)
  clear s0
  go_cut [56] (fun q wx => q = .bool false ∧ Below W2.heap.size W2 wx)
  case first =>
    have HSL := Lib.hid (fun X (hX : Below W2.heap.size W2 X) => SameLog_any A1 A c c1 c cap L1 L1 0 0 X (HD2.out X hX) (HPR.out X hX))
    rw [decide_eq_true (show (0 : Int) = 0 ∧ L1 = L1 from ⟨rfl, rfl⟩)] at HSL
    have hbx : Below W2.heap.size W2 W2.drew := (Below.refl _ W2).drew
    clear HZ2 HD2 HPR HG2 HSX HG
    refine wp_region_held_drew (S := (fun n1 => (fun w' => (w'.cell? ⟨g, 0, none⟩ = some (.slice A n cap) ∧ w'.cell? ⟨g, 1, none⟩ = some (.int .i64 wr)) ∧ w'.cell? ⟨s1, 0, none⟩ = some (.slice A1 n1 c1) ∧ w'.cell? ⟨s1, 1, none⟩ = some (.int .i64 (n1 : Int)))) c) (by kernel_rfl) (HSS.out _ hbx) (fun hHeld => ?_)
    refine wpAnyH_take (i := 0) (v := ?v1) (gA rfl) (by kernel_rfl) (by kernel_rfl) (by kernel_rfl) (fun _ _ _ h => h) (Or.inl ⟨rfl, ?y1⟩) (by assumption) ?_
    case y1 => (intro w hSw; (try dsimp only at hSw); go_simp <;> with_reducible rfl)
    simp only [Act.put, List.setIfInBounds_toArray, List.set_cons_zero, List.set_cons_succ]
    refine wpAnyH_take (i := 1) (v := ?v2) (gA rfl) (by kernel_rfl) (by kernel_rfl) (by kernel_rfl) (fun _ _ _ h => h) (Or.inl ⟨rfl, ?y2⟩) (by assumption) ?_
    case y2 => (intro w hSw; (try dsimp only at hSw); go_simp <;> with_reducible rfl)
    simp only [Act.put, List.setIfInBounds_toArray, List.set_cons_zero, List.set_cons_succ]
    refine wpAnyH_take (i := 2) (v := ?v3) (gA rfl) (by kernel_rfl) (by kernel_rfl) (by kernel_rfl) (fun _ _ _ h => h) (Or.inl ⟨rfl, ?y3⟩) (by assumption) ?_
    case y3 => (intro w hSw; (try dsimp only at hSw); go_simp <;> with_reducible rfl)
    simp only [Act.put, List.setIfInBounds_toArray, List.set_cons_zero, List.set_cons_succ]
    refine wpAnyH_take (i := 3) (v := ?v4) (gA rfl) (by kernel_rfl) (by kernel_rfl) (by kernel_rfl) (fun _ _ _ h => h) (Or.inl ⟨rfl, ?y4⟩) (by assumption) ?_
    case y4 => (intro w hSw; (try dsimp only at hSw); go_simp <;> with_reducible rfl)
    simp only [Act.put, List.setIfInBounds_toArray, List.set_cons_zero, List.set_cons_succ]
    refine wpAnyH_take (i := 4) (v := ?v5) (gA rfl) (by kernel_rfl) (by kernel_rfl) (by kernel_rfl) (fun _ _ _ h => h) (Or.inl ⟨rfl, ?y5⟩) (by assumption) ?_
    case y5 => (intro w hSw; (try dsimp only at hSw); go_simp <;> with_reducible rfl)
    simp only [Act.put, List.setIfInBounds_toArray, List.set_cons_zero, List.set_cons_succ]
    refine wpAnyH_take (i := 5) (v := ?v6) (gA rfl) (by kernel_rfl) (by kernel_rfl) (by kernel_rfl) (fun _ _ _ h => h) (Or.inl ⟨rfl, ?y6⟩) (by assumption) ?_
    case y6 => (intro w hSw; (try dsimp only at hSw); go_simp <;> with_reducible rfl)
    simp only [Act.put, List.setIfInBounds_toArray, List.set_cons_zero, List.set_cons_succ]
    refine wpAnyH_take (i := 6) (v := ?v7) (gA rfl) (by kernel_rfl) (by kernel_rfl) (by kernel_rfl) (fun _ _ _ h => h) (Or.inl ⟨rfl, ?y7⟩) (by assumption) ?_
    case y7 => (intro w hSw; (try dsimp only at hSw); go_simp <;> with_reducible rfl)
    simp only [Act.put, List.setIfInBounds_toArray, List.set_cons_zero, List.set_cons_succ]
    refine wpAnyH_take (i := 7) (v := ?v8) (gA rfl) (by kernel_rfl) (by kernel_rfl) (by kernel_rfl) (fun _ _ _ h => h) (Or.inl ⟨rfl, ?y8⟩) (by assumption) ?_
    case y8 => (intro w hSw; (try dsimp only at hSw); go_simp <;> with_reducible rfl)
    simp only [Act.put, List.setIfInBounds_toArray, List.set_cons_zero, List.set_cons_succ]
    refine wpAnyH_take (i := 8) (v := ?v9) (gA rfl) (by kernel_rfl) (by kernel_rfl) (by kernel_rfl) (fun _ _ _ h => h) (Or.inl ⟨rfl, ?y9⟩) (by assumption) ?_
    case y9 => (intro w hSw; (try dsimp only at hSw); go_simp <;> with_reducible rfl)
    simp only [Act.put, List.setIfInBounds_toArray, List.set_cons_zero, List.set_cons_succ]
    refine wpAnyH_take (i := 9) (v := ?v10) (gA rfl) (by kernel_rfl) (by kernel_rfl) (by kernel_rfl) (fun _ _ _ h => h) (Or.inl ⟨rfl, ?y10⟩) (by assumption) ?_
    case y10 => (intro w hSw; (try dsimp only at hSw); go_simp <;> with_reducible rfl)
    simp only [Act.put, List.setIfInBounds_toArray, List.set_cons_zero, List.set_cons_succ]
    refine wpAnyH_take (i := 10) (v := ?v11) (gA rfl) (by kernel_rfl) (by kernel_rfl) (by kernel_rfl) (fun _ _ _ h => h) (Or.inl ⟨rfl, ?y11⟩) (by assumption) ?_
    case y11 => (intro w hSw; (try dsimp only at hSw); go_simp <;> with_reducible rfl)
    simp only [Act.put, List.setIfInBounds_toArray, List.set_cons_zero, List.set_cons_succ]
    refine wpAnyH_take (i := 11) (v := ?v12) (gA rfl) (by kernel_rfl) (by kernel_rfl) (by kernel_rfl) (fun _ _ _ h => h) (Or.inl ⟨rfl, ?y12⟩) (by assumption) ?_
    case y12 => (intro w hSw; (try dsimp only at hSw); go_simp <;> with_reducible rfl)
    simp only [Act.put, List.setIfInBounds_toArray, List.set_cons_zero, List.set_cons_succ]
    refine wpAnyH_take (i := 12) (v := ?v13) (gA rfl) (by kernel_rfl) (by kernel_rfl) (by kernel_rfl) (fun _ _ _ h => h) (Or.inl ⟨rfl, ?y13⟩) (by assumption) ?_
    case y13 => (intro w hSw; (try dsimp only at hSw); go_simp <;> with_reducible rfl)
    simp only [Act.put, List.setIfInBounds_toArray, List.set_cons_zero, List.set_cons_succ]
    refine wpAnyH_take (i := 13) (v := ?v14) (gA rfl) (by kernel_rfl) (by kernel_rfl) (by kernel_rfl) (fun _ _ _ h => h) (Or.inl ⟨rfl, ?y14⟩) (by assumption) ?_
    case y14 => (intro w hSw; (try dsimp only at hSw); go_simp <;> with_reducible rfl)
    simp only [Act.put, List.setIfInBounds_toArray, List.set_cons_zero, List.set_cons_succ]
    refine wpAnyH_take (i := 14) (v := ?v15) (gA rfl) (by kernel_rfl) (by kernel_rfl) (by kernel_rfl) (fun _ _ _ h => h) (Or.inl ⟨rfl, ?y15⟩) (by assumption) ?_
    case y15 => (intro w hSw; (try dsimp only at hSw); go_simp <;> with_reducible rfl)
    simp only [Act.put, List.setIfInBounds_toArray, List.set_cons_zero, List.set_cons_succ]
    refine wpAnyH_take (i := 15) (v := ?v16) (gA rfl) (by kernel_rfl) (by kernel_rfl) (by kernel_rfl) (fun _ _ _ h => h) (Or.inl ⟨rfl, ?y16⟩) (by assumption) ?_
    case y16 => (intro w hSw; (try dsimp only at hSw); go_simp <;> with_reducible rfl)
    simp only [Act.put, List.setIfInBounds_toArray, List.set_cons_zero, List.set_cons_succ]
    refine wpAnyH_take (i := 16) (v := ?v17) (gA rfl) (by kernel_rfl) (by kernel_rfl) (by kernel_rfl) (fun _ _ _ h => h) (Or.inl ⟨rfl, ?y17⟩) (by assumption) ?_
    case y17 => (intro w hSw; (try dsimp only at hSw); go_simp <;> with_reducible rfl)
    simp only [Act.put, List.setIfInBounds_toArray, List.set_cons_zero, List.set_cons_succ]
    refine wpAnyH_take (i := 17) (v := ?v18) (gA rfl) (by kernel_rfl) (by kernel_rfl) (by kernel_rfl) (fun _ _ _ h => h) (Or.inl ⟨rfl, ?y18⟩) (by assumption) ?_
    case y18 => (intro w hSw; (try dsimp only at hSw); go_simp <;> with_reducible rfl)
    simp only [Act.put, List.setIfInBounds_toArray, List.set_cons_zero, List.set_cons_succ]
    refine wpAnyH_take (i := 18) (v := ?v19) (gA rfl) (by kernel_rfl) (by kernel_rfl) (by kernel_rfl) (fun _ _ _ h => h) (Or.inl ⟨rfl, ?y19⟩) (by assumption) ?_
    case y19 => (intro w hSw; (try dsimp only at hSw); go_simp <;> with_reducible rfl)
    simp only [Act.put, List.setIfInBounds_toArray, List.set_cons_zero, List.set_cons_succ]
    refine wpAnyH_take (i := 19) (v := ?v20) (gA rfl) (by kernel_rfl) (by kernel_rfl) (by kernel_rfl) (fun _ _ _ h => h) (Or.inl ⟨rfl, ?y20⟩) (by assumption) ?_
    case y20 => (intro w hSw; (try dsimp only at hSw); go_simp <;> with_reducible rfl)
    simp only [Act.put, List.setIfInBounds_toArray, List.set_cons_zero, List.set_cons_succ]
    refine wpAnyH_take (i := 20) (v := ?v21) (gA rfl) (by kernel_rfl) (by kernel_rfl) (by kernel_rfl) (fun _ _ _ h => h) (Or.inl ⟨rfl, ?y21⟩) (by assumption) ?_
    case y21 => (intro w hSw; (try dsimp only at hSw); go_simp <;> with_reducible rfl)
    simp only [Act.put, List.setIfInBounds_toArray, List.set_cons_zero, List.set_cons_succ]
    refine wpAnyH_take (i := 21) (v := ?v22) (gA rfl) (by kernel_rfl) (by kernel_rfl) (by kernel_rfl) (fun _ _ _ h => h) (Or.inl ⟨rfl, ?y22⟩) (by assumption) ?_
    case y22 => (intro w hSw; (try dsimp only at hSw); go_simp <;> with_reducible rfl)
    simp only [Act.put, List.setIfInBounds_toArray, List.set_cons_zero, List.set_cons_succ]
    refine wpAnyH_take (i := 22) (v := ?v23) (gA rfl) (by kernel_rfl) (by kernel_rfl) (by kernel_rfl) (fun _ _ _ h => h) (Or.inl ⟨rfl, ?y23⟩) (by assumption) ?_
    case y23 => (intro w hSw; (try dsimp only at hSw); go_simp <;> with_reducible rfl)
    simp only [Act.put, List.setIfInBounds_toArray, List.set_cons_zero, List.set_cons_succ]
    refine wpAnyH_take (i := 23) (v := ?v24) (gA rfl) (by kernel_rfl) (by kernel_rfl) (by kernel_rfl) (fun _ _ _ h => h) (Or.inl ⟨rfl, ?y24⟩) (by assumption) ?_
    case y24 => (intro w hSw; (try dsimp only at hSw); go_simp <;> with_reducible rfl)
    simp only [Act.put, List.setIfInBounds_toArray, List.set_cons_zero, List.set_cons_succ]
    refine wpAnyH_take (i := 24) (v := ?v25) (gA rfl) (by kernel_rfl) (by kernel_rfl) (by kernel_rfl) (fun _ _ _ h => h) (Or.inl ⟨rfl, ?y25⟩) (by assumption) ?_
    case y25 => (intro w hSw; (try dsimp only at hSw); go_simp <;> with_reducible rfl)
    simp only [Act.put, List.setIfInBounds_toArray, List.set_cons_zero, List.set_cons_succ]
    refine wpAnyH_take (i := 25) (v := ?v26) (gA rfl) (by kernel_rfl) (by kernel_rfl) (by kernel_rfl) (fun _ _ _ h => h) (Or.inl ⟨rfl, ?y26⟩) (by assumption) ?_
    case y26 => (intro w hSw; (try dsimp only at hSw); go_simp <;> with_reducible rfl)
    simp only [Act.put, List.setIfInBounds_toArray, List.set_cons_zero, List.set_cons_succ]
    refine wpAnyH_ready (rs := [26]) (by kernel_rfl) (by simp) (AllReadyH.cons (gA rfl) (fun K hK => ?_) AllReadyH.nil)
    go_simp
    (go_at_call 58; refine (HSL.out _ hbx).mono ?_; rintro e w6 ⟨rfl, hb6⟩; replace hbx := hbx.trans (hb6.mono hbx.size); clear hb6)
    go_wp2_with fail
    refine hK.out _ _ ?_ (fun hHeld => ?_)
    · exact HSS.out _ hbx
    clear hK K
    try simp only [Act.put, List.setIfInBounds_toArray, List.set_cons_zero, List.set_cons_succ]
    refine wpAnyH_take (i := 27) (v := ?v28) (gA rfl) (by kernel_rfl) (by kernel_rfl) (by kernel_rfl) (fun _ _ _ h => h) (Or.inl ⟨rfl, ?y28⟩) (by assumption) ?_
    case y28 => (intro w hSw; (try dsimp only at hSw); go_simp <;> with_reducible rfl)
    simp only [Act.put, List.setIfInBounds_toArray, List.set_cons_zero, List.set_cons_succ]
    refine wpAnyH_take (i := 28) (v := ?v29) (gA rfl) (by kernel_rfl) (by kernel_rfl) (by kernel_rfl) (fun _ _ _ h => h) (Or.inl ⟨rfl, ?y29⟩) (by assumption) ?_
    case y29 => (intro w hSw; (try dsimp only at hSw); go_simp <;> with_reducible rfl)
    simp only [Act.put, List.setIfInBounds_toArray, List.set_cons_zero, List.set_cons_succ]
    refine wpAnyH_done (by kernel_rfl) ?_ _
    go_wp2_with fail
    go_meet
    exact ⟨rfl, hbx⟩
  obtain ⟨rfl, hb3⟩ := hcut
  obtain ⟨W3, hW3⟩ : ∃ V, V = wc := ⟨_, rfl⟩
  subst hW3
  have HB3 := Lib.hid hb3
  clear hb3 HSS HPR
  by_cases q2 : more < 0
  · have q3 : decide (more < 0) = true := decide_eq_true q2
    have HE := Lib.hid (HT.out _ (HB.out.trans (HB3.out.mono HB.out.size)))
    clear q2
    go_wp2_with fail
    go_ret
    exact ⟨rfl, HE.out⟩
  have q3 : decide (more < 0) = false := decide_eq_false q2
  have hc2 := crash_two (c := c) (more := more) (by omega)
  have hC2 := Crash_any A1 c c1 L1 (c : Int) more W3 (HD2.out _ HB3.out) (Nat.le_trans (Nat.mul_le_mul_right _ hcn) hn) im
  rw [hc2.1, hc2.2, Int.toNat_natCast, List.take_of_length_le (Nat.le_of_eq HLT.out)] at hC2
  have HC2 := Lib.hid hC2
  have hz3 := HZ2.out _ HB3.out
  clear q2 hc2 hC2
  go_upto_region 11 with (fail)
  go_cut [10, 8] (fun q e wx => e = .int .i64 0 ∧ (∃ s A2 n2 c2, q = .pointer (some ⟨s, 0, none⟩) ∧ Blk wx s #[.slice A2 n2 c2, .int .i64 (c : Int)] 83 ∧ Sl donC 13 wx All A2 n2 c2 L1) ∧ Below W3.heap.size W3 wx)
  case first =>
    go_wp2_with (refine wpList_load_row rfl 83 (.tmp 7) rfl s1 rfl 83 _ (0, 0) _ hz3 Tryz.underlying83 rfl (by kernel_rfl) ?_)
    refine HC2.out.mono ?_
    rintro e w8 ⟨⟨v, xs, he, hO⟩, hb8⟩
    rw [okI_zero] at he
    rw [okL_zero] at hO
    obtain ⟨A2, n2, c2, rfl, hs⟩ := hO.sl donC_good
    have HD8 := Lib.hid (hs.all donC_good (by omega))
    have HB8 := Lib.hid hb8
    subst he
    clear hO hs hb8 HC2
    go_wp2_with (refine wpList_store_row rfl 83 (.tmp 10) (.tmp 63) rfl w8.heap.size #[.slice A2 n2 c2, .int .i64 (c : Int)] rfl rfl 83 _ (Blk.new w8 #[.slice none 0 0, .int .i64 0] 83) (by kernel_rfl) rfl (by simp [Value.oneCell']) ?_)
    go_meet
    have hbe : Below w8.heap.size w8 ((w8.alloc (.cells #[.slice none 0 0, .int .i64 0] 83)).setRow w8.heap.size #[.slice A2 n2 c2, .int .i64 (c : Int)]) := below_setRow (bel1 w8 _) (Nat.le_refl _) _
    exact ⟨rfl, ⟨_, A2, n2, c2, rfl, (Blk.new w8 _ _).row _, HD8.out.bel hbe⟩, HB8.out.trans (hbe.mono HB8.out.size)⟩
  obtain ⟨rfl, ⟨s2, A2, n2, c2, rfl, hZ4, hD4⟩, hb4⟩ := hcut
  obtain ⟨W4, hW4⟩ : ∃ V, V = wc := ⟨_, rfl⟩
  subst hW4
  have hb24 := HB3.out.trans (hb4.mono HB3.out.size)
  have hz4 := HZ2.out _ hb24
  have a0 : W4.cell? ⟨s2, 0, none⟩ = some (.slice A2 n2 c2) := hZ4.cell rfl
  have a1 : W4.cell? ⟨s2, 1, none⟩ = some (.int .i64 (c : Int)) := hZ4.cell rfl
  have b0 : W4.cell? ⟨s1, 0, none⟩ = some (.slice A1 c c1) := hz4.cell rfl
  have b1 : W4.cell? ⟨s1, 1, none⟩ = some (.int .i64 (c : Int)) := hz4.cell rfl
  have hSL := SameLog_any A2 A1 n2 c2 c c1 L1 L1 (c : Int) (c : Int) W4 hD4 (HD2.out _ hb24)
  rw [decide_eq_true (show (c : Int) = (c : Int) ∧ L1 = L1 from ⟨rfl, rfl⟩)] at hSL
  have HSL := Lib.hid hSL
  have HE := Lib.hid (HB.out.trans (hb24.mono HB.out.size))
  clear hSL hz4 hz3 hZ4 hD4 hb4 hb24 HC2
  go_wp2_with fail
  refine HSL.out.mono ?_
  rintro e w9 ⟨rfl, hb9⟩
  have HE9 := Lib.hid (HT.out _ (HE.out.trans (hb9.mono HE.out.size)))
  clear hb9 HSL a0 a1 b0 b1
  go_wp2_with fail
  go_ret
  exact ⟨rfl, HE9.out⟩
set_option maxRecDepth 100000 in
theorem DeskKeeps_lifted (os : Os) (started : os.Started) (H : Type) (enc : TypeId × Value → H) :
    ReturnsInHanded {} Tryz.checked os 16 .any (Rows.deskKeepsSpec.pre6 enc Tryz.prog Tryz.f16 Rows.deskKeepsRow.domain false) (Rows.deskKeepsSpec.post enc Tryz.prog Tryz.f16 false true false false) := by
  refine returnsInHanded_of_change_sized (C := Tryz.checked) own started (by kernel_rfl) Tryz.func16
    (ChangeSpec.witness6 (enc := enc) (C := Tryz.checked) false ⟨#[], #[.agg #[.slice none 0 0, .int .i64 0], .int .i64 0, .int .i64 0], []⟩ 8 (by kernel_rfl) (by kernel_rfl) (by kernel_rfl) (by kernel_rfl)) ?_
  intro W base args ds gs before hval0 hW hcnd hsz0 _
  have hval : ∀ (j : Nat) t v, Tryz.f16.params[j]? = some t → args[j]? = some v → Value.okWide Tryz.prog W .any base t v := hval0
  have hW' := hW
  obtain ⟨p, q, hA0, hV, rfl, hfz, hnd⟩ := hW
  have hA : DataW.TrodAll enc Tryz.prog W 0 (fun _ => true) true Tryz.f16.params.toList args.toList ds p := hA0
  rw [Tryz.params16] at hA hval
  obtain ⟨v0, vs0, d0, ds0, p0, q0, hargs, rfl, rfl, h0, r0⟩ := trodAll_cons hA
  obtain ⟨v1, vs1, d1, ds1, p1, q1, rfl, rfl, rfl, h1, r1⟩ := trodAll_cons r0
  obtain ⟨v2, vs2, d2, ds2, p2, q2, rfl, rfl, rfl, h2, r2⟩ := trodAll_cons r1
  obtain ⟨rfl, rfl, rfl⟩ := trodAll_nil r2
  obtain rfl : args = #[v0, v1, v2] := by cases args; simp_all
  obtain ⟨rfl, rfl⟩ := trodVars_none hV
  have lt0 := arg_lt h0
  have k0 := h0
  obtain ⟨cs0, a0, rfl, w0⟩ := arg_agg (c := logC) Tryz.underlying83 opens_logC (hval 0 83 v0 rfl rfl) h0
  have z0 := log_len k0 (fun z hz => by have := List.all_eq_true.1 hsz0 z (DataW.weights_mem_each (j := 0) (by rw [Tryz.params16]; rfl) rfl z hz); simpa using this)
  have lt1 := arg_lt h1
  have k1 := h1
  obtain ⟨a1, rfl, w1⟩ := arg_int Tryz.underlying3 (hval 1 3 v1 rfl rfl) h1
  have lt2 := arg_lt h2
  have k2 := h2
  obtain ⟨a2, rfl, w2⟩ := arg_int Tryz.underlying3 (hval 2 3 v2 rfl rfl) h2
  clear hA0 hval0
  refine (DeskKeeps_walk W cs0 a0 w0 z0 a1 w1 a2 w2).mono fun e W' ⟨he, bel⟩ => ?_
  subst he
  exact ⟨_, rfl, _, _, _, [], _, [], hW', trodAll_mk1 (shut_bool Tryz.underlying4 _), (trodAll_cons_mk (Below.trod laidOut (by kernel_rfl) (of_decide_eq_true (by kernel_rfl)) k0 bel lt0) (trodAll_cons_mk (Below.trod laidOut (by kernel_rfl) (of_decide_eq_true (by kernel_rfl)) k1 bel lt1) (trodAll_cons_mk (Below.trod laidOut (by kernel_rfl) (of_decide_eq_true (by kernel_rfl)) k2 bel lt2) trodAll_mk0))), rfl, bel.frame _, fun h => by cases h⟩

theorem DeskKeeps_fit1 : (Rows.deskKeepsRow.wf (OpenSpec.ofChange Rows.deskKeepsSpec) && Tryz.f16.params.all (Tryz.prog.readableRec ·) && namedTie Tryz.prog Rows.deskKeepsRow.named Rows.deskKeepsSpec.vars && (Rows.deskKeepsRow.stops == []) && (Tryz.prog.stops == []) && (Rows.deskKeepsRow.knobs == []) && (Tryz.prog.stopKnobs == [])) = true := by kernel_rfl
theorem DeskKeeps_fit2 : ((Rows.deskKeepsRow.inPlace == Tryz.prog.inPlace 16) && (Rows.deskKeepsRow.unfollowed == Tryz.prog.unfollowed 16) && (Rows.deskKeepsRow.recurses == Tryz.prog.recurses 16) && (Rows.deskKeepsRow.named == Tryz.prog.varsNamed 16)) = true := by kernel_rfl
theorem DeskKeeps_fit3 : ((Rows.deskKeepsRow.maps == (Tryz.f16.params.toList ++ Rows.deskKeepsSpec.plain.varTypes Tryz.prog).any (Tryz.prog.mapsRec ·)) && (Rows.deskKeepsRow.ifaces == (Tryz.f16.params.toList ++ Rows.deskKeepsSpec.plain.varTypes Tryz.prog).any (Tryz.prog.ifacesRec ·)) && (Rows.deskKeepsRow.mapsOut == Tryz.prog.mapsAmong Tryz.f16.resultTypes.toList) && (Rows.deskKeepsRow.loops == (Tryz.f16.params.toList ++ Rows.deskKeepsSpec.plain.varTypes Tryz.prog).any (Tryz.prog.loopsFrom ·)) && (Rows.deskKeepsRow.wideKeys == (Tryz.f16.params.toList ++ Rows.deskKeepsSpec.plain.varTypes Tryz.prog ++ Tryz.f16.resultTypes.toList).any (Tryz.prog.wideKeysFrom ·)) &&
    Rows.deskKeepsSpec.vars.all (Tryz.prog.varReadable ·) && Tryz.f16.resultTypes.all (fun t => Tryz.prog.readableRec t && decide (t < Tryz.prog.types.size)) && (Rows.deskKeepsRow.ifacesOut == Tryz.f16.resultTypes.toList.any (Tryz.prog.ifacesRec ·)) && (Rows.deskKeepsRow.loopsOut == Tryz.f16.resultTypes.toList.any (Tryz.prog.loopsFrom ·)) && (Rows.deskKeepsRow.plainKeys == Tryz.prog.plainKeys) && Rows.deskKeepsRow.shortTexts.isNone) = true := by kernel_rfl
theorem DeskKeeps_fit4 : ((Rows.deskKeepsRow.lifted == Tryz.prog.liftsFinal) && (Tryz.prog.make == some Rows.deskKeepsRow.make)) = true := by kernel_rfl
theorem DeskKeeps_fit5 : ((Rows.deskKeepsRow.kinds == (if Rows.deskKeepsRow.domain.isEmpty then [] else Tryz.f16.params.toList.map fun t => match Tryz.prog.underlying t with | some (.int k) => some k | _ => none)) && (Rows.deskKeepsRow.pinned == Rows.deskKeepsRow.pinnedBy) && (Rows.deskKeepsRow.veiled == (Tryz.f16.params.toList ++ Rows.deskKeepsSpec.plain.varTypes Tryz.prog ++ Tryz.f16.resultTypes.toList).any (Tryz.prog.veiledRec ·)) && Rows.deskKeepsRow.veiledFits Tryz.prog Tryz.f16.params.toList (Tryz.f16.params.toList ++ Rows.deskKeepsSpec.plain.varTypes Tryz.prog ++ Tryz.f16.resultTypes.toList)) = true := by kernel_rfl

set_option maxRecDepth 100000 in
/-- THE GIVEN STATEMENT DeskKeeps. -/
theorem deskKeeps_holds : Rows.DeskKeepsSaid :=
  OpenClaim.holds_of_wide 16 Tryz.f16 rfl rfl rfl rfl rfl rfl rfl ⟨rfl, rfl, rfl, rfl, rfl⟩ rfl rfl rfl rfl rfl (by kernel_rfl) Tryz.func16
    (joined_of DeskKeeps_fit1 fit_laid fit_rows DeskKeeps_fit2 DeskKeeps_fit3 fit_heard fit_enter DeskKeeps_fit4 DeskKeeps_fit5)
    (of_decide_eq_true (by kernel_rfl)) (by unfold Func.isWrapper; rw [if_neg (of_decide_eq_false (by kernel_rfl))]; exact ⟨rfl, rfl⟩)
    (fun os started H enc _ => DeskKeeps_lifted os started H enc)
#print axioms deskKeeps_holds
end Go.Proofs.YtoilcdgpeilgaaaGreat
