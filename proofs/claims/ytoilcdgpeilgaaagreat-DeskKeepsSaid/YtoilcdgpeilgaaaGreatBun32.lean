/-
  Words, laws and contracts: DeskM.
-/
import Derived.Test.YtoilcdgpeilgaaaGreatBun30
import Derived.Test.YtoilcdgpeilgaaaGreatBun31
import Derived.BigQuiet
set_option linter.unusedSimpArgs false
set_option linter.unusedVariables false
namespace Go.Proofs.YtoilcdgpeilgaaaGreat
open Go.RowKit Go.Shelf
set_option maxRecDepth 100000 in
set_option maxHeartbeats 4000000 in
theorem firstS_any (w : World) : Calls Tryz.prog 131 #[] w fun e w' => ∃ p, e = .returned (.agg (saiA firstX p)) ∧ SaiR w' firstX p ∧ Below w.heap.size w w' := by
  go_enter Tryz.func131, Tryz.ntmps131
  go_wp2_with fail
  refine (vesselS_any _).mono ?_
  rintro e w1 ⟨A, n, cap, B, m, cap2, rfl, hc, hd, hb1⟩
  have hZ := (Blk.new w #[.int .i64 0, .int .i64 0, .slice none 0 0, .slice none 0 0, .slice none 0 0, .int .i64 0, .int .i64 0, .slice none 0 0, .int .i64 0, .int .i64 0, .int .i64 0, .slice none 0 0, .bool false] 32).bel hb1
  have hb := (bel1 w (.cells #[.int .i64 0, .int .i64 0, .slice none 0 0, .slice none 0 0, .slice none 0 0, .int .i64 0, .int .i64 0, .slice none 0 0, .int .i64 0, .int .i64 0, .int .i64 0, .slice none 0 0, .bool false] 32)).trans (hb1.mono (by simp))
  have hc := hc.keep (w' := w1) (S' := fun b => b ≠ w.heap.size) catC_good (by omega) (fun b hb _ => ⟨rfl, fun e => by subst e; simp at hb; omega⟩)
  have hd := hd.keep (w' := w1) (S' := fun b => b ≠ w.heap.size) cabC_good (by omega) (fun b hb _ => ⟨rfl, fun e => by subst e; simp at hb; omega⟩)
  clear hb1
  go_wp2_with fail
  refine (tableS_any _).mono ?_
  rintro e w2 ⟨D, nd, cd, E, ne, ce, rfl, hf, hg, hb2⟩
  have hs1 := hb.size
  have hf := hf.keep (w' := w2) (S' := fun b => b ≠ w.heap.size) (slC_good intC_good (by omega)) (by omega) (fun b hb _ => ⟨rfl, fun e => by subst e; have := hZ.lt; omega⟩)
  have hg := hg.keep (w' := w2) (S' := fun b => b ≠ w.heap.size) bandC_good (by omega) (fun b hb _ => ⟨rfl, fun e => by subst e; have := hZ.lt; omega⟩)
  have hc := hc.bel hb2
  have hd := hd.bel hb2
  have hZ2 := hZ.bel hb2
  replace hb := hb.trans (hb2.mono hb.size)
  have HC := Lib.hid hc
  clear hc
  have HD := Lib.hid hd
  clear hd
  have HF := Lib.hid hf
  clear hf
  have HG := Lib.hid hg
  clear hg
  have HB := Lib.hid hb
  clear hb
  clear hb2 hZ
  go_wp2_with (refine wpList_store_row rfl 32 (.tmp 0) (.tmp 3) rfl w.heap.size (saiA firstX ⟨A, n, cap, B, m, cap2, D, nd, cd, E, ne, ce, none, 0, 0⟩) rfl rfl 32 _ hZ2 (by kernel_rfl) rfl (by simp [Value.oneCell']) ?_)
  refine bodyPost_ret (v := .agg (saiA firstX ⟨A, n, cap, B, m, cap2, D, nd, cd, E, ne, ce, none, 0, 0⟩)) ((hZ2.row _).ret (k := 0) (by kernel_rfl) rfl Tryz.underlying32 (by kernel_rfl) (by kernel_rfl)) rfl ?_
  have hK := keptRow (Below.refl w2.heap.size w2) w.heap.size (saiA firstX ⟨A, n, cap, B, m, cap2, D, nd, cd, E, ne, ce, none, 0, 0⟩)
  exact ⟨_, rfl, ⟨(HC.out.kept hK (fun b _ hb e => hb e)).all catC_good (by omega), (HD.out.kept hK (fun b _ hb e => hb e)).all cabC_good (by omega), ⟨HF.out.keep (S' := All) (slC_good intC_good (by omega)) (by omega) (fun b hb hlt => ⟨hK.block b hlt hb, trivial⟩), (HG.out.kept hK (fun b _ hb e => hb e)).all bandC_good (by omega), .of (by decide) (by decide), .of (by decide) (by decide), .of (by decide) (by decide)⟩, Sl.nil _ _ _ _⟩,
    HB.out.trans (hK.below (B := w.heap.size) HB.out.size (fun k hk e => by omega))⟩
set_option maxRecDepth 100000 in
theorem asks_any (w : World) : Calls Tryz.prog 132 #[] w fun e w' => ∃ q, e = .returned (.slice (some ⟨q, 0, none⟩) 3 3) ∧ Blk w' q #[.int .i64 1, .int .i64 1, .int .i64 5, .int .i64 2, .bool true, .int .i64 1, .int .i64 0, .int .i64 0, .int .i64 2, .int .i64 0, .int .i64 0, .int .i64 2, .int .i64 4, .int .i64 5, .int .i64 0, .bool false, .int .i64 0, .int .i64 0, .int .i64 0, .int .i64 0, .int .i64 0, .int .i64 300, .int .i64 3, .int .i64 8, .int .i64 0, .int .i64 0, .bool false, .int .i64 0, .int .i64 0, .int .i64 0, .int .i64 0, .int .i64 0, .int .i64 0] 93 ∧ Below w.heap.size w w' := by
  go_enter Tryz.func132, Tryz.ntmps132
  go_wp2_with fail
  go_ret
  exact ⟨_, rfl, Blk.new w _ _, bel1 _ _⟩
theorem asks_row {w : World} {q : Nat} (h : Blk w q #[.int .i64 1, .int .i64 1, .int .i64 5, .int .i64 2, .bool true, .int .i64 1, .int .i64 0, .int .i64 0, .int .i64 2, .int .i64 0, .int .i64 0, .int .i64 2, .int .i64 4, .int .i64 5, .int .i64 0, .bool false, .int .i64 0, .int .i64 0, .int .i64 0, .int .i64 0, .int .i64 0, .int .i64 300, .int .i64 3, .int .i64 8, .int .i64 0, .int .i64 0, .bool false, .int .i64 0, .int .i64 0, .int .i64 0, .int .i64 0, .int .i64 0, .int .i64 0] 93) : w.rangeAt q 0 (askA ask1).toList := fun j u hu => by
  rcases j with _ | _ | _ | _ | _ | _ | _ | _ | _ | _ | _ | j <;> first | (simp [askA, ask1] at hu; subst hu; exact h.cell rfl) | simp [askA] at hu
def soldX : Sai := { firstX with bks := [bk5F] }
set_option maxRecDepth 100000 in
set_option maxHeartbeats 16000000 in
theorem deskBegun_any (w : World) : Calls Tryz.prog 53 #[] w fun e w' => e = .returned (.bool true) ∧ Below w.heap.size w w' := by
  have HDO := Lib.hid (fun p X hX => Do_any madeN_any rightN firstX p ask1 X hX (fun h _ => byName h) (.of (by decide) (by decide)))
  rw [desk1_e, do1_x, do1_a] at HDO
  obtain ⟨bs, hbs⟩ : ∃ b, b = encS ask1 := ⟨_, rfl⟩
  have HEN := Lib.hid (fun X => Encode_any ask1 X)
  rw [code1_e, okL_zero, ← hbs] at HEN
  have HS0 := Lib.hid (fun p X hX => Step_any madeN_any rightN firstX p none 0 0 [] 0 bs X hX (Sl.nil _ _ _ _) (fun y h d hd => by cases hd) (by rw [hbs, dec1]; exact fun y h _ => byName h) (by rw [hbs, dec1]; exact fun _ => ask1_in) (by rw [hbs, dec1]; exact fun y h _ => ansN_in h (byName h)))
  have HS1 := Lib.hid (fun p A cap X hX hl => Step_any madeN_any rightN firstX p A 1 cap [don1] 1 bs X hX hl (fun y h d hd _ => by rw [List.mem_singleton] at hd; subst hd; exact byName h) (by rw [hbs, dec1]; exact fun y h _ => byName h) (by rw [hbs, dec1]; exact fun _ => ask1_in) (by rw [hbs, dec1]; exact fun y h _ => ansN_in h (byName h)))
  rw [hbs, step0, ← hbs] at HS0
  rw [hbs, step1, ← hbs] at HS1
  have HOPN := Lib.hid (fun p A cap X hX hl => Open_desk madeN_any rightN firstX p A 1 cap [don1] 1 X hX hl (fun y h d hd _ => by rw [List.mem_singleton] at hd; subst hd; exact byName h))
  rw [open1_e, open1_x] at HOPN
  have HCRA := Lib.hid (fun A cap X hl => Crash_any A 1 cap [don1] 1 0 X hl (by decide) zero_in)
  rw [crash1.1, crash1.2] at HCRA
  obtain ⟨F1, hF1⟩ : ∃ F, F = soldX := ⟨_, rfl⟩
  rw [show ({ firstX with bks := [bk5F] } : Sai) = F1 from hF1.symm] at HDO HOPN
  clear hbs hF1
  have HBW := Lib.hid (Below.refl w.heap.size w)
  go_enter Tryz.func53, Tryz.ntmps53
  go_upto_region 1 with (fail)
  go_cut [1, 2, 3] (fun q q2 q3 wx => ∃ s a y p', q = .pointer (some ⟨s, 0, none⟩) ∧ q2 = .pointer (some ⟨a, 0, none⟩) ∧ q3 = .int .i64 0 ∧ Blk wx s (saiA y p') 32 ∧ y = F1 ∧ SaiR wx y p' ∧ Blk wx a (ansA ans1) 95 ∧ Below w.heap.size w wx)
  case first =>
    clear HS0 HS1 HOPN HCRA HEN
    go_wp2_with fail
    refine (firstS_any _).mono ?_
    rintro e w1 ⟨p1, rfl, hS1, hb1⟩
    have HS1 := Lib.hid hS1
    clear hS1
    have HB1 := Lib.hid hb1
    clear hb1
    go_wp2_with fail
    refine (asks_any _).mono ?_
    rintro e w2 ⟨q, rfl, hA, hb2⟩
    have HR := Lib.hid (asks_row hA)
    have HC := Lib.hid (HDO.out p1 _ (HS1.out.bel hb2))
    have HB2 := Lib.hid (HB1.out.trans (hb2.mono HB1.out.size))
    clear hA hb2
    go_wp2_with (refine wpList_load_mid rfl 93 (.tmp 19) rfl q 0 rfl (askA ask1).toList _ HR.out Tryz.underlying93 (by kernel_rfl) (by kernel_rfl) ?_)
    refine HC.out.mono ?_
    rintro e w3 ⟨⟨y, p', an, rfl, hy, han, hO⟩, hb3⟩
    obtain rfl : an = ans1 := han
    have HO := Lib.hid hO.sai
    have HY := Lib.hid hy
    have HB3 := Lib.hid (HB2.out.trans (hb3.mono HB2.out.size))
    clear hy hO hb3 HC HDO HR
    have HLS := Lib.hid (show ∀ g, g = w3.heap.size → Blk ((w3.alloc (.cells #[.int .i64 0, .int .i64 0, .slice none 0 0, .slice none 0 0, .slice none 0 0, .int .i64 0, .int .i64 0, .slice none 0 0, .int .i64 0, .int .i64 0, .int .i64 0, .slice none 0 0, .bool false] 32)).alloc (.cells #[.int .i64 0, .int .i64 0] 95)) g #[.int .i64 0, .int .i64 0, .slice none 0 0, .slice none 0 0, .slice none 0 0, .int .i64 0, .int .i64 0, .slice none 0 0, .int .i64 0, .int .i64 0, .int .i64 0, .slice none 0 0, .bool false] 32 from fun g hg => by subst hg; exact (Blk.new w3 _ _).old _)
    have HLA := Lib.hid (show ∀ g, g = w3.heap.size + 1 → Blk (((w3.alloc (.cells #[.int .i64 0, .int .i64 0, .slice none 0 0, .slice none 0 0, .slice none 0 0, .int .i64 0, .int .i64 0, .slice none 0 0, .int .i64 0, .int .i64 0, .int .i64 0, .slice none 0 0, .bool false] 32)).alloc (.cells #[.int .i64 0, .int .i64 0] 95)).setRow w3.heap.size (saiA y p')) g #[.int .i64 0, .int .i64 0] 95 from fun g hg => by subst hg; exact (Blk.new1 w3 _ _ _).rowOther (by omega) _)
    go_wp2_with (first | (refine wpList_store_row rfl 32 (.tmp 1) (.tmp 22) rfl _ (saiA y p') rfl rfl 32 _ (HLS.out _ (by simp)) (by kernel_rfl) rfl (by simp [Value.oneCell']) ?_) | (refine wpList_store_row rfl 95 (.tmp 2) (.tmp 23) rfl _ (ansA ans1) rfl rfl 95 _ (HLA.out _ (by simp)) (by kernel_rfl) rfl (by simp [ansA, Value.oneCell']) ?_))
    go_meet
    have hbe : Below w3.heap.size w3 ((((w3.alloc (.cells #[.int .i64 0, .int .i64 0, .slice none 0 0, .slice none 0 0, .slice none 0 0, .int .i64 0, .int .i64 0, .slice none 0 0, .int .i64 0, .int .i64 0, .int .i64 0, .slice none 0 0, .bool false] 32)).alloc (.cells #[.int .i64 0, .int .i64 0] 95)).setRow w3.heap.size (saiA y p')).setRow (w3.heap.size + 1) (ansA ans1)) := below_setRow (below_setRow (bel2 w3 _ _) (Nat.le_refl _) _) (by omega) _
    exact ⟨_, _, y, p', rfl, rfl, rfl, ((HLS.out _ rfl).row _).rowOther (by omega) _, HY.out, HO.out.bel hbe, (HLA.out _ rfl).row _, HB3.out.trans (hbe.mono HB3.out.size)⟩
  obtain ⟨s1, a1, y1, p1, rfl, rfl, rfl, hZ1, rfl, hS1, hA1, hb⟩ := hcut
  obtain ⟨V1, hV1⟩ : ∃ V, V = wc := ⟨_, rfl⟩
  subst hV1
  have HZ1 := Lib.hid (fun X (hX : Below V1.heap.size V1 X) => hZ1.bel hX)
  have HS1X := Lib.hid (fun X (hX : Below V1.heap.size V1 X) => hS1.bel hX)
  have HA1 := Lib.hid (fun X (hX : Below V1.heap.size V1 X) => hA1.bel hX)
  have HB1 := Lib.hid hb
  clear hb
  clear hZ1 hS1 hA1 HBW HDO
  go_upto_region 2 with (fail)
  go_cut [4, 5] (fun q r wx => q = .string ⟨bs.toArray⟩ ∧ r = .int .i64 0 ∧ Below V1.heap.size V1 wx)
  case first =>
    clear HS0 HS1 HOPN HCRA HZ1 HS1X HA1 HB1
    go_wp2_with fail
    refine (asks_any _).mono ?_
    rintro e w2 ⟨q, rfl, hA, hb2⟩
    have HR := Lib.hid (asks_row hA)
    have HB2 := Lib.hid hb2
    clear hb2
    clear hA
    go_wp2_with (refine wpList_load_mid rfl 93 (.tmp 27) rfl q 0 rfl (askA ask1).toList _ HR.out Tryz.underlying93 (by kernel_rfl) (by kernel_rfl) ?_)
    refine (HEN.out _).mono ?_
    rintro e w3 ⟨rfl, hb3⟩
    have HB3 := Lib.hid hb3
    clear hb3
    go_wp2_with fail
    go_meet
    exact ⟨rfl, rfl, HB2.out.trans (HB3.out.mono HB2.out.size)⟩
  obtain ⟨rfl, rfl, hb2⟩ := hcut
  obtain ⟨V2, hV2⟩ : ∃ V, V = wc := ⟨_, rfl⟩
  subst hV2
  have HB2 := Lib.hid hb2
  clear hb2
  clear HEN
  go_upto_region 3 with (fail)
  go_cut [6, 7, 8] (fun q q2 q3 wx => ∃ s a A c, q = .pointer (some ⟨s, 0, none⟩) ∧ q2 = .pointer (some ⟨a, 0, none⟩) ∧ q3 = .int .i64 0 ∧ Blk wx s #[.slice A 1 c, .int .i64 1] 83 ∧ Sl donC 13 wx All A 1 c [don1] ∧ Blk wx a (ansA ans1) 95 ∧ Below V2.heap.size V2 wx)
  case first =>
    clear HS1 HOPN HCRA HZ1 HS1X HA1 HB1 HB2
    go_wp2_with fail
    refine (firstS_any _).mono ?_
    rintro e w1 ⟨p4, rfl, hS4, hb4⟩
    have HC := Lib.hid (HS0.out p4 _ hS4)
    have HB4 := Lib.hid hb4
    clear hb4
    clear hS4
    go_wp2_with fail
    refine HC.out.mono ?_
    rintro e w3 ⟨⟨v, xs, an, he, han, hO⟩, hb3⟩
    obtain rfl : an = ans1 := han
    rw [okI_zero] at he
    rw [okL_zero] at hO
    obtain ⟨A, n, c, rfl, hs⟩ := hO.sl donC_good
    obtain rfl : 1 = n := hs.len
    have HD := Lib.hid (hs.all donC_good (by omega))
    have HB3 := Lib.hid (HB4.out.trans (hb3.mono HB4.out.size))
    subst he
    clear hO hs hb3 HC
    have HLS := Lib.hid (show ∀ g, g = w3.heap.size → Blk ((w3.alloc (.cells #[.slice none 0 0, .int .i64 0] 83)).alloc (.cells #[.int .i64 0, .int .i64 0] 95)) g #[.slice none 0 0, .int .i64 0] 83 from fun g hg => by subst hg; exact (Blk.new w3 _ _).old _)
    have HLA := Lib.hid (show ∀ g, g = w3.heap.size + 1 → Blk (((w3.alloc (.cells #[.slice none 0 0, .int .i64 0] 83)).alloc (.cells #[.int .i64 0, .int .i64 0] 95)).setRow w3.heap.size #[.slice A 1 c, .int .i64 1]) g #[.int .i64 0, .int .i64 0] 95 from fun g hg => by subst hg; exact (Blk.new1 w3 _ _ _).rowOther (by omega) _)
    go_wp2_with (first | (refine wpList_store_row rfl 83 (.tmp 6) (.tmp 37) rfl _ #[.slice A 1 c, .int .i64 1] rfl rfl 83 _ (HLS.out _ (by simp)) (by kernel_rfl) rfl (by simp [Value.oneCell']) ?_) | (refine wpList_store_row rfl 95 (.tmp 7) (.tmp 38) rfl _ (ansA ans1) rfl rfl 95 _ (HLA.out _ (by simp)) (by kernel_rfl) rfl (by simp [ansA, Value.oneCell']) ?_))
    go_meet
    have hbe : Below w3.heap.size w3 ((((w3.alloc (.cells #[.slice none 0 0, .int .i64 0] 83)).alloc (.cells #[.int .i64 0, .int .i64 0] 95)).setRow w3.heap.size #[.slice A 1 c, .int .i64 1]).setRow (w3.heap.size + 1) (ansA ans1)) := below_setRow (below_setRow (bel2 w3 _ _) (Nat.le_refl _) _) (by omega) _
    exact ⟨_, _, A, c, rfl, rfl, rfl, ((HLS.out _ rfl).row _).rowOther (by omega) _, HD.out.bel hbe, (HLA.out _ rfl).row _, HB3.out.trans (hbe.mono HB3.out.size)⟩
  obtain ⟨s3, a3, A3, c3, rfl, rfl, rfl, hZ3, hD3, hA3, hb3⟩ := hcut
  obtain ⟨V3, hV3⟩ : ∃ V, V = wc := ⟨_, rfl⟩
  subst hV3
  have hb13 := HB2.out.trans (hb3.mono HB2.out.size)
  have HB3 := Lib.hid (fun X (hX : Below V3.heap.size V3 X) => hb13.trans (hX.mono hb13.size))
  have HZ3 := Lib.hid (fun X (hX : Below V3.heap.size V3 X) => hZ3.bel hX)
  have HD3 := Lib.hid (fun X (hX : Below V3.heap.size V3 X) => hD3.bel hX)
  have HA3 := Lib.hid (fun X (hX : Below V3.heap.size V3 X) => hA3.bel hX)
  have HSL := Lib.hid (show ∀ X, Below V3.heap.size V3 X → (fun w' => w'.cell? ⟨s3, 0, none⟩ = some (.slice A3 1 c3) ∧ w'.cell? ⟨s3, 1, none⟩ = some (.int .i64 1)) X from fun X hX => ⟨(hZ3.bel hX).cell rfl, (hZ3.bel hX).cell rfl⟩)
  clear hb3 hb13 hZ3 hD3 hA3 HB2 HS0
  go_upto_region 4 with (fail)
  go_cut [10, 11] (fun q q2 wx => ∃ a, q = .pointer (some ⟨a, 0, none⟩) ∧ q2 = .int .i64 0 ∧ Blk wx a (ansA ans1) 95 ∧ Below V3.heap.size V3 wx)
  case first =>
    clear HOPN HCRA HZ1 HS1X HA1 HB1 HB3 HA3
    have hbx : Below V3.heap.size V3 V3.drew := (Below.refl _ V3).drew
    refine wp_region_held_drew (S := (fun w' => w'.cell? ⟨s3, 0, none⟩ = some (.slice A3 1 c3) ∧ w'.cell? ⟨s3, 1, none⟩ = some (.int .i64 1))) (by kernel_rfl) (HSL.out _ hbx) (fun hHeld => ?_)
    refine wpAnyH_take (i := 1) (v := ?v20) (gA rfl) (by kernel_rfl) (by kernel_rfl) (by kernel_rfl) (fun _ _ _ h => h) (Or.inl ⟨rfl, ?y20⟩) (by assumption) ?_
    case y20 => (intro w hSw; (try dsimp only at hSw); go_simp <;> with_reducible rfl)
    simp only [Act.put, List.setIfInBounds_toArray, List.set_cons_zero, List.set_cons_succ]
    refine wpAnyH_take (i := 2) (v := ?v21) (gA rfl) (by kernel_rfl) (by kernel_rfl) (by kernel_rfl) (fun _ _ _ h => h) (Or.inl ⟨rfl, ?y21⟩) (by assumption) ?_
    case y21 => (intro w hSw; (try dsimp only at hSw); go_simp <;> with_reducible rfl)
    simp only [Act.put, List.setIfInBounds_toArray, List.set_cons_zero, List.set_cons_succ]
    refine wpAnyH_ready (rs := [0, 8, 9]) (by kernel_rfl) (by simp) ?_
    refine AllReadyH.cons (gA rfl) (fun K hK => ?_) ?m_9
    case m_9 =>
      refine AllReadyH.cons (gA rfl) (fun K hK => ?_) ?m_10
      case m_10 =>
        refine AllReadyH.cons (gA rfl) (fun K hK => ?_) AllReadyH.nil
        go_simp
        refine hK.out _ _ ?_ (fun hHeld => ?_)
        · exact HSL.out _ (hbx.alloc hbx.size (.cells #[.int .i64 0, .int .i64 0] 95))
        clear hK K
        try simp only [Act.put, List.setIfInBounds_toArray, List.set_cons_zero, List.set_cons_succ]
        (have hM := freshG hbx #[.int .i64 0, .int .i64 0] 95; have hgM := geOf hbx; (try replace hL := fun g hg => (hL g hg).bel (bel1 _ (.cells #[.int .i64 0, .int .i64 0] 95))); (try replace hS4 := hS4.bel (bel1 _ (.cells #[.int .i64 0, .int .i64 0] 95))); replace hbx := hbx.alloc hbx.size (.cells #[.int .i64 0, .int .i64 0] 95))
        refine wpAnyH_ready (rs := [0, 8]) (by kernel_rfl) (by simp) ?_
        refine AllReadyH.cons (gA rfl) (fun K hK => ?_) ?m_11
        case m_11 =>
          refine AllReadyH.cons (gA rfl) (fun K hK => ?_) AllReadyH.nil
          go_simp
          refine hK.out _ _ ?_ (fun hHeld => ?_)
          · exact HSL.out _ (hbx.alloc hbx.size (.cells #[.slice none 0 0, .int .i64 0] 83))
          clear hK K
          try simp only [Act.put, List.setIfInBounds_toArray, List.set_cons_zero, List.set_cons_succ]
          (have hL := freshG hbx #[.slice none 0 0, .int .i64 0] 83; have hgL := geOf hbx; (try replace hM := fun g hg => (hM g hg).bel (bel1 _ (.cells #[.slice none 0 0, .int .i64 0] 83))); (try replace hS4 := hS4.bel (bel1 _ (.cells #[.slice none 0 0, .int .i64 0] 83))); replace hbx := hbx.alloc hbx.size (.cells #[.slice none 0 0, .int .i64 0] 83))
          refine wpAnyH_ready (rs := [0]) (by kernel_rfl) (by simp) ?_
          refine AllReadyH.cons (gA rfl) (fun K hK => ?_) AllReadyH.nil
          go_simp
          (go_at_call 131; refine (firstS_any _).mono ?_; rintro e w4 ⟨p4, rfl, hS4, hb4⟩; (try replace hL := fun g hg => (hL g hg).bel hb4); (try replace hM := fun g hg => (hM g hg).bel hb4); replace hbx := hbx.trans (hb4.mono hbx.size); clear hb4)
          go_wp2_with fail
          refine hK.out _ _ ?_ (fun hHeld => ?_)
          · exact HSL.out _ hbx
          clear hK K
          try simp only [Act.put, List.setIfInBounds_toArray, List.set_cons_zero, List.set_cons_succ]
          refine wpAnyH_ready (rs := [3]) (by kernel_rfl) (by simp) ?_
          refine AllReadyH.cons (gA rfl) (fun K hK => ?_) AllReadyH.nil
          go_simp
          (go_at_call 77; refine (HS1.out p4 A3 c3 _ hS4 (HD3.out _ hbx)).mono ?_; rintro e w5 ⟨⟨v, xs, an, he, han, hO⟩, hb5⟩; obtain rfl : an = ans1 := han; rw [okI_zero] at he; rw [okL_zero] at hO; obtain ⟨A5, n5, c5, rfl, -⟩ := hO.sl donC_good; subst he; (try replace hL := fun g hg => (hL g hg).bel hb5); (try replace hM := fun g hg => (hM g hg).bel hb5); replace hbx := hbx.trans (hb5.mono hbx.size); clear hb5 hS4 hO)
          go_wp2_with fail
          refine hK.out _ _ ?_ (fun hHeld => ?_)
          · exact HSL.out _ hbx
          clear hK K
          try simp only [Act.put, List.setIfInBounds_toArray, List.set_cons_zero, List.set_cons_succ]
          refine wpAnyH_take (i := 4) (v := ?v22) (gA rfl) (by kernel_rfl) (by kernel_rfl) (by kernel_rfl) (fun _ _ _ h => h) (Or.inl ⟨rfl, ?y22⟩) (by assumption) ?_
          case y22 => (intro w hSw; (try dsimp only at hSw); go_simp <;> with_reducible rfl)
          simp only [Act.put, List.setIfInBounds_toArray, List.set_cons_zero, List.set_cons_succ]
          refine wpAnyH_take (i := 5) (v := ?v23) (gA rfl) (by kernel_rfl) (by kernel_rfl) (by kernel_rfl) (fun _ _ _ h => h) (Or.inl ⟨rfl, ?y23⟩) (by assumption) ?_
          case y23 => (intro w hSw; (try dsimp only at hSw); go_simp <;> with_reducible rfl)
          simp only [Act.put, List.setIfInBounds_toArray, List.set_cons_zero, List.set_cons_succ]
          refine wpAnyH_take (i := 6) (v := ?v24) (gA rfl) (by kernel_rfl) (by kernel_rfl) (by kernel_rfl) (fun _ _ _ h => h) (Or.inl ⟨rfl, ?y24⟩) (by assumption) ?_
          case y24 => (intro w hSw; (try dsimp only at hSw); go_simp <;> with_reducible rfl)
          simp only [Act.put, List.setIfInBounds_toArray, List.set_cons_zero, List.set_cons_succ]
          refine wpAnyH_take (i := 7) (v := ?v25) (gA rfl) (by kernel_rfl) (by kernel_rfl) (by kernel_rfl) (fun _ _ _ h => h) (Or.inl ⟨rfl, ?y25⟩) (by assumption) ?_
          case y25 => (intro w hSw; (try dsimp only at hSw); go_simp <;> with_reducible rfl)
          simp only [Act.put, List.setIfInBounds_toArray, List.set_cons_zero, List.set_cons_succ]
          refine wpAnyH_ready (rs := [10]) (by kernel_rfl) (by simp) (AllReadyH.cons (gA rfl) (fun K hK => ?_) AllReadyH.nil)
          (refine wp_store_row 83 (.tmp 9) (.tmp 45) rfl _ #[.slice A5 n5 c5, .int .i64 1] rfl rfl 83 _ (hL _ (by simp)) (by kernel_rfl) rfl (by simp [Value.oneCell']) ?_)
          refine hK.out _ _ ?_ (fun hHeld => ?_)
          · exact HSL.out _ (below_setRow hbx (hgL _ (by simp)) _)
          clear hK K
          try simp only [Act.put, List.setIfInBounds_toArray, List.set_cons_zero, List.set_cons_succ]
          refine wpAnyH_ready (rs := [11]) (by kernel_rfl) (by simp) (AllReadyH.cons (gA rfl) (fun K hK => ?_) AllReadyH.nil)
          (refine wp_store_row 95 (.tmp 10) (.tmp 46) rfl _ (ansA ans1) rfl rfl 95 _ ((hM _ (by simp)).rowOther (Blk.neTy (hM _ (by simp)) (hL _ (by simp)) (by decide)) _) (by kernel_rfl) rfl (by simp [ansA, Value.oneCell']) ?_)
          refine hK.out _ _ ?_ (fun hHeld => ?_)
          · exact HSL.out _ (below_setRow (below_setRow hbx (hgL _ (by simp)) _) (hgM _ (by simp)) _)
          clear hK K
          try simp only [Act.put, List.setIfInBounds_toArray, List.set_cons_zero, List.set_cons_succ]
          refine wpAnyH_take (i := 12) (v := ?v28) (gA rfl) (by kernel_rfl) (by kernel_rfl) (by kernel_rfl) (fun _ _ _ h => h) (Or.inl ⟨rfl, ?y28⟩) (by assumption) ?_
          case y28 => (intro w hSw; (try dsimp only at hSw); go_simp <;> with_reducible rfl)
          simp only [Act.put, List.setIfInBounds_toArray, List.set_cons_zero, List.set_cons_succ]
          refine wpAnyH_done (by kernel_rfl) ?_ _
          go_wp2_with fail
          go_meet
          exact ⟨_, rfl, rfl, ((hM _ (by simp)).rowOther (Blk.neTy (hM _ (by simp)) (hL _ (by simp)) (by decide)) _).row _, below_setRow (below_setRow hbx (hgL _ (by simp)) _) (hgM _ (by simp)) _⟩
        go_simp
        (go_at_call 131; refine (firstS_any _).mono ?_; rintro e w4 ⟨p4, rfl, hS4, hb4⟩; (try replace hL := fun g hg => (hL g hg).bel hb4); (try replace hM := fun g hg => (hM g hg).bel hb4); replace hbx := hbx.trans (hb4.mono hbx.size); clear hb4)
        go_wp2_with fail
        refine hK.out _ _ ?_ (fun hHeld => ?_)
        · exact HSL.out _ hbx
        clear hK K
        try simp only [Act.put, List.setIfInBounds_toArray, List.set_cons_zero, List.set_cons_succ]
        refine wpAnyH_ready (rs := [3, 8]) (by kernel_rfl) (by simp) ?_
        refine AllReadyH.cons (gA rfl) (fun K hK => ?_) ?m_12
        case m_12 =>
          refine AllReadyH.cons (gA rfl) (fun K hK => ?_) AllReadyH.nil
          go_simp
          refine hK.out _ _ ?_ (fun hHeld => ?_)
          · exact HSL.out _ (hbx.alloc hbx.size (.cells #[.slice none 0 0, .int .i64 0] 83))
          clear hK K
          try simp only [Act.put, List.setIfInBounds_toArray, List.set_cons_zero, List.set_cons_succ]
          (have hL := freshG hbx #[.slice none 0 0, .int .i64 0] 83; have hgL := geOf hbx; (try replace hM := fun g hg => (hM g hg).bel (bel1 _ (.cells #[.slice none 0 0, .int .i64 0] 83))); (try replace hS4 := hS4.bel (bel1 _ (.cells #[.slice none 0 0, .int .i64 0] 83))); replace hbx := hbx.alloc hbx.size (.cells #[.slice none 0 0, .int .i64 0] 83))
          refine wpAnyH_ready (rs := [3]) (by kernel_rfl) (by simp) ?_
          refine AllReadyH.cons (gA rfl) (fun K hK => ?_) AllReadyH.nil
          go_simp
          (go_at_call 77; refine (HS1.out p4 A3 c3 _ hS4 (HD3.out _ hbx)).mono ?_; rintro e w5 ⟨⟨v, xs, an, he, han, hO⟩, hb5⟩; obtain rfl : an = ans1 := han; rw [okI_zero] at he; rw [okL_zero] at hO; obtain ⟨A5, n5, c5, rfl, -⟩ := hO.sl donC_good; subst he; (try replace hL := fun g hg => (hL g hg).bel hb5); (try replace hM := fun g hg => (hM g hg).bel hb5); replace hbx := hbx.trans (hb5.mono hbx.size); clear hb5 hS4 hO)
          go_wp2_with fail
          refine hK.out _ _ ?_ (fun hHeld => ?_)
          · exact HSL.out _ hbx
          clear hK K
          try simp only [Act.put, List.setIfInBounds_toArray, List.set_cons_zero, List.set_cons_succ]
          refine wpAnyH_take (i := 4) (v := ?v29) (gA rfl) (by kernel_rfl) (by kernel_rfl) (by kernel_rfl) (fun _ _ _ h => h) (Or.inl ⟨rfl, ?y29⟩) (by assumption) ?_
          case y29 => (intro w hSw; (try dsimp only at hSw); go_simp <;> with_reducible rfl)
          simp only [Act.put, List.setIfInBounds_toArray, List.set_cons_zero, List.set_cons_succ]
          refine wpAnyH_take (i := 5) (v := ?v30) (gA rfl) (by kernel_rfl) (by kernel_rfl) (by kernel_rfl) (fun _ _ _ h => h) (Or.inl ⟨rfl, ?y30⟩) (by assumption) ?_
          case y30 => (intro w hSw; (try dsimp only at hSw); go_simp <;> with_reducible rfl)
          simp only [Act.put, List.setIfInBounds_toArray, List.set_cons_zero, List.set_cons_succ]
          refine wpAnyH_take (i := 6) (v := ?v31) (gA rfl) (by kernel_rfl) (by kernel_rfl) (by kernel_rfl) (fun _ _ _ h => h) (Or.inl ⟨rfl, ?y31⟩) (by assumption) ?_
          case y31 => (intro w hSw; (try dsimp only at hSw); go_simp <;> with_reducible rfl)
          simp only [Act.put, List.setIfInBounds_toArray, List.set_cons_zero, List.set_cons_succ]
          refine wpAnyH_take (i := 7) (v := ?v32) (gA rfl) (by kernel_rfl) (by kernel_rfl) (by kernel_rfl) (fun _ _ _ h => h) (Or.inl ⟨rfl, ?y32⟩) (by assumption) ?_
          case y32 => (intro w hSw; (try dsimp only at hSw); go_simp <;> with_reducible rfl)
          simp only [Act.put, List.setIfInBounds_toArray, List.set_cons_zero, List.set_cons_succ]
          refine wpAnyH_ready (rs := [10]) (by kernel_rfl) (by simp) (AllReadyH.cons (gA rfl) (fun K hK => ?_) AllReadyH.nil)
          (refine wp_store_row 83 (.tmp 9) (.tmp 45) rfl _ #[.slice A5 n5 c5, .int .i64 1] rfl rfl 83 _ (hL _ (by simp)) (by kernel_rfl) rfl (by simp [Value.oneCell']) ?_)
          refine hK.out _ _ ?_ (fun hHeld => ?_)
          · exact HSL.out _ (below_setRow hbx (hgL _ (by simp)) _)
          clear hK K
          try simp only [Act.put, List.setIfInBounds_toArray, List.set_cons_zero, List.set_cons_succ]
          refine wpAnyH_ready (rs := [11]) (by kernel_rfl) (by simp) (AllReadyH.cons (gA rfl) (fun K hK => ?_) AllReadyH.nil)
          (refine wp_store_row 95 (.tmp 10) (.tmp 46) rfl _ (ansA ans1) rfl rfl 95 _ ((hM _ (by simp)).rowOther (Blk.neTy (hM _ (by simp)) (hL _ (by simp)) (by decide)) _) (by kernel_rfl) rfl (by simp [ansA, Value.oneCell']) ?_)
          refine hK.out _ _ ?_ (fun hHeld => ?_)
          · exact HSL.out _ (below_setRow (below_setRow hbx (hgL _ (by simp)) _) (hgM _ (by simp)) _)
          clear hK K
          try simp only [Act.put, List.setIfInBounds_toArray, List.set_cons_zero, List.set_cons_succ]
          refine wpAnyH_take (i := 12) (v := ?v35) (gA rfl) (by kernel_rfl) (by kernel_rfl) (by kernel_rfl) (fun _ _ _ h => h) (Or.inl ⟨rfl, ?y35⟩) (by assumption) ?_
          case y35 => (intro w hSw; (try dsimp only at hSw); go_simp <;> with_reducible rfl)
          simp only [Act.put, List.setIfInBounds_toArray, List.set_cons_zero, List.set_cons_succ]
          refine wpAnyH_done (by kernel_rfl) ?_ _
          go_wp2_with fail
          go_meet
          exact ⟨_, rfl, rfl, ((hM _ (by simp)).rowOther (Blk.neTy (hM _ (by simp)) (hL _ (by simp)) (by decide)) _).row _, below_setRow (below_setRow hbx (hgL _ (by simp)) _) (hgM _ (by simp)) _⟩
        go_simp
        (go_at_call 77; refine (HS1.out p4 A3 c3 _ hS4 (HD3.out _ hbx)).mono ?_; rintro e w5 ⟨⟨v, xs, an, he, han, hO⟩, hb5⟩; obtain rfl : an = ans1 := han; rw [okI_zero] at he; rw [okL_zero] at hO; obtain ⟨A5, n5, c5, rfl, -⟩ := hO.sl donC_good; subst he; (try replace hL := fun g hg => (hL g hg).bel hb5); (try replace hM := fun g hg => (hM g hg).bel hb5); replace hbx := hbx.trans (hb5.mono hbx.size); clear hb5 hS4 hO)
        go_wp2_with fail
        refine hK.out _ _ ?_ (fun hHeld => ?_)
        · exact HSL.out _ hbx
        clear hK K
        try simp only [Act.put, List.setIfInBounds_toArray, List.set_cons_zero, List.set_cons_succ]
        refine wpAnyH_take (i := 4) (v := ?v36) (gA rfl) (by kernel_rfl) (by kernel_rfl) (by kernel_rfl) (fun _ _ _ h => h) (Or.inl ⟨rfl, ?y36⟩) (by assumption) ?_
        case y36 => (intro w hSw; (try dsimp only at hSw); go_simp <;> with_reducible rfl)
        simp only [Act.put, List.setIfInBounds_toArray, List.set_cons_zero, List.set_cons_succ]
        refine wpAnyH_take (i := 5) (v := ?v37) (gA rfl) (by kernel_rfl) (by kernel_rfl) (by kernel_rfl) (fun _ _ _ h => h) (Or.inl ⟨rfl, ?y37⟩) (by assumption) ?_
        case y37 => (intro w hSw; (try dsimp only at hSw); go_simp <;> with_reducible rfl)
        simp only [Act.put, List.setIfInBounds_toArray, List.set_cons_zero, List.set_cons_succ]
        refine wpAnyH_take (i := 6) (v := ?v38) (gA rfl) (by kernel_rfl) (by kernel_rfl) (by kernel_rfl) (fun _ _ _ h => h) (Or.inl ⟨rfl, ?y38⟩) (by assumption) ?_
        case y38 => (intro w hSw; (try dsimp only at hSw); go_simp <;> with_reducible rfl)
        simp only [Act.put, List.setIfInBounds_toArray, List.set_cons_zero, List.set_cons_succ]
        refine wpAnyH_take (i := 7) (v := ?v39) (gA rfl) (by kernel_rfl) (by kernel_rfl) (by kernel_rfl) (fun _ _ _ h => h) (Or.inl ⟨rfl, ?y39⟩) (by assumption) ?_
        case y39 => (intro w hSw; (try dsimp only at hSw); go_simp <;> with_reducible rfl)
        simp only [Act.put, List.setIfInBounds_toArray, List.set_cons_zero, List.set_cons_succ]
        refine wpAnyH_ready (rs := [8]) (by kernel_rfl) (by simp) ?_
        refine AllReadyH.cons (gA rfl) (fun K hK => ?_) AllReadyH.nil
        go_simp
        refine hK.out _ _ ?_ (fun hHeld => ?_)
        · exact HSL.out _ (hbx.alloc hbx.size (.cells #[.slice none 0 0, .int .i64 0] 83))
        clear hK K
        try simp only [Act.put, List.setIfInBounds_toArray, List.set_cons_zero, List.set_cons_succ]
        (have hL := freshG hbx #[.slice none 0 0, .int .i64 0] 83; have hgL := geOf hbx; (try replace hM := fun g hg => (hM g hg).bel (bel1 _ (.cells #[.slice none 0 0, .int .i64 0] 83))); (try replace hS4 := hS4.bel (bel1 _ (.cells #[.slice none 0 0, .int .i64 0] 83))); replace hbx := hbx.alloc hbx.size (.cells #[.slice none 0 0, .int .i64 0] 83))
        refine wpAnyH_ready (rs := [10]) (by kernel_rfl) (by simp) (AllReadyH.cons (gA rfl) (fun K hK => ?_) AllReadyH.nil)
        (refine wp_store_row 83 (.tmp 9) (.tmp 45) rfl _ #[.slice A5 n5 c5, .int .i64 1] rfl rfl 83 _ (hL _ (by simp)) (by kernel_rfl) rfl (by simp [Value.oneCell']) ?_)
        refine hK.out _ _ ?_ (fun hHeld => ?_)
        · exact HSL.out _ (below_setRow hbx (hgL _ (by simp)) _)
        clear hK K
        try simp only [Act.put, List.setIfInBounds_toArray, List.set_cons_zero, List.set_cons_succ]
        refine wpAnyH_ready (rs := [11]) (by kernel_rfl) (by simp) (AllReadyH.cons (gA rfl) (fun K hK => ?_) AllReadyH.nil)
        (refine wp_store_row 95 (.tmp 10) (.tmp 46) rfl _ (ansA ans1) rfl rfl 95 _ ((hM _ (by simp)).rowOther (Blk.neTy (hM _ (by simp)) (hL _ (by simp)) (by decide)) _) (by kernel_rfl) rfl (by simp [ansA, Value.oneCell']) ?_)
        refine hK.out _ _ ?_ (fun hHeld => ?_)
        · exact HSL.out _ (below_setRow (below_setRow hbx (hgL _ (by simp)) _) (hgM _ (by simp)) _)
        clear hK K
        try simp only [Act.put, List.setIfInBounds_toArray, List.set_cons_zero, List.set_cons_succ]
        refine wpAnyH_take (i := 12) (v := ?v42) (gA rfl) (by kernel_rfl) (by kernel_rfl) (by kernel_rfl) (fun _ _ _ h => h) (Or.inl ⟨rfl, ?y42⟩) (by assumption) ?_
        case y42 => (intro w hSw; (try dsimp only at hSw); go_simp <;> with_reducible rfl)
        simp only [Act.put, List.setIfInBounds_toArray, List.set_cons_zero, List.set_cons_succ]
        refine wpAnyH_done (by kernel_rfl) ?_ _
        go_wp2_with fail
        go_meet
        exact ⟨_, rfl, rfl, ((hM _ (by simp)).rowOther (Blk.neTy (hM _ (by simp)) (hL _ (by simp)) (by decide)) _).row _, below_setRow (below_setRow hbx (hgL _ (by simp)) _) (hgM _ (by simp)) _⟩
      go_simp
      refine hK.out _ _ ?_ (fun hHeld => ?_)
      · exact HSL.out _ (hbx.alloc hbx.size (.cells #[.slice none 0 0, .int .i64 0] 83))
      clear hK K
      try simp only [Act.put, List.setIfInBounds_toArray, List.set_cons_zero, List.set_cons_succ]
      (have hL := freshG hbx #[.slice none 0 0, .int .i64 0] 83; have hgL := geOf hbx; (try replace hM := fun g hg => (hM g hg).bel (bel1 _ (.cells #[.slice none 0 0, .int .i64 0] 83))); (try replace hS4 := hS4.bel (bel1 _ (.cells #[.slice none 0 0, .int .i64 0] 83))); replace hbx := hbx.alloc hbx.size (.cells #[.slice none 0 0, .int .i64 0] 83))
      refine wpAnyH_ready (rs := [0, 9]) (by kernel_rfl) (by simp) ?_
      refine AllReadyH.cons (gA rfl) (fun K hK => ?_) ?m_13
      case m_13 =>
        refine AllReadyH.cons (gA rfl) (fun K hK => ?_) AllReadyH.nil
        go_simp
        refine hK.out _ _ ?_ (fun hHeld => ?_)
        · exact HSL.out _ (hbx.alloc hbx.size (.cells #[.int .i64 0, .int .i64 0] 95))
        clear hK K
        try simp only [Act.put, List.setIfInBounds_toArray, List.set_cons_zero, List.set_cons_succ]
        (have hM := freshG hbx #[.int .i64 0, .int .i64 0] 95; have hgM := geOf hbx; (try replace hL := fun g hg => (hL g hg).bel (bel1 _ (.cells #[.int .i64 0, .int .i64 0] 95))); (try replace hS4 := hS4.bel (bel1 _ (.cells #[.int .i64 0, .int .i64 0] 95))); replace hbx := hbx.alloc hbx.size (.cells #[.int .i64 0, .int .i64 0] 95))
        refine wpAnyH_ready (rs := [0]) (by kernel_rfl) (by simp) ?_
        refine AllReadyH.cons (gA rfl) (fun K hK => ?_) AllReadyH.nil
        go_simp
        (go_at_call 131; refine (firstS_any _).mono ?_; rintro e w4 ⟨p4, rfl, hS4, hb4⟩; (try replace hL := fun g hg => (hL g hg).bel hb4); (try replace hM := fun g hg => (hM g hg).bel hb4); replace hbx := hbx.trans (hb4.mono hbx.size); clear hb4)
        go_wp2_with fail
        refine hK.out _ _ ?_ (fun hHeld => ?_)
        · exact HSL.out _ hbx
        clear hK K
        try simp only [Act.put, List.setIfInBounds_toArray, List.set_cons_zero, List.set_cons_succ]
        refine wpAnyH_ready (rs := [3]) (by kernel_rfl) (by simp) ?_
        refine AllReadyH.cons (gA rfl) (fun K hK => ?_) AllReadyH.nil
        go_simp
        (go_at_call 77; refine (HS1.out p4 A3 c3 _ hS4 (HD3.out _ hbx)).mono ?_; rintro e w5 ⟨⟨v, xs, an, he, han, hO⟩, hb5⟩; obtain rfl : an = ans1 := han; rw [okI_zero] at he; rw [okL_zero] at hO; obtain ⟨A5, n5, c5, rfl, -⟩ := hO.sl donC_good; subst he; (try replace hL := fun g hg => (hL g hg).bel hb5); (try replace hM := fun g hg => (hM g hg).bel hb5); replace hbx := hbx.trans (hb5.mono hbx.size); clear hb5 hS4 hO)
        go_wp2_with fail
        refine hK.out _ _ ?_ (fun hHeld => ?_)
        · exact HSL.out _ hbx
        clear hK K
        try simp only [Act.put, List.setIfInBounds_toArray, List.set_cons_zero, List.set_cons_succ]
        refine wpAnyH_take (i := 4) (v := ?v43) (gA rfl) (by kernel_rfl) (by kernel_rfl) (by kernel_rfl) (fun _ _ _ h => h) (Or.inl ⟨rfl, ?y43⟩) (by assumption) ?_
        case y43 => (intro w hSw; (try dsimp only at hSw); go_simp <;> with_reducible rfl)
        simp only [Act.put, List.setIfInBounds_toArray, List.set_cons_zero, List.set_cons_succ]
        refine wpAnyH_take (i := 5) (v := ?v44) (gA rfl) (by kernel_rfl) (by kernel_rfl) (by kernel_rfl) (fun _ _ _ h => h) (Or.inl ⟨rfl, ?y44⟩) (by assumption) ?_
        case y44 => (intro w hSw; (try dsimp only at hSw); go_simp <;> with_reducible rfl)
        simp only [Act.put, List.setIfInBounds_toArray, List.set_cons_zero, List.set_cons_succ]
        refine wpAnyH_take (i := 6) (v := ?v45) (gA rfl) (by kernel_rfl) (by kernel_rfl) (by kernel_rfl) (fun _ _ _ h => h) (Or.inl ⟨rfl, ?y45⟩) (by assumption) ?_
        case y45 => (intro w hSw; (try dsimp only at hSw); go_simp <;> with_reducible rfl)
        simp only [Act.put, List.setIfInBounds_toArray, List.set_cons_zero, List.set_cons_succ]
        refine wpAnyH_take (i := 7) (v := ?v46) (gA rfl) (by kernel_rfl) (by kernel_rfl) (by kernel_rfl) (fun _ _ _ h => h) (Or.inl ⟨rfl, ?y46⟩) (by assumption) ?_
        case y46 => (intro w hSw; (try dsimp only at hSw); go_simp <;> with_reducible rfl)
        simp only [Act.put, List.setIfInBounds_toArray, List.set_cons_zero, List.set_cons_succ]
        refine wpAnyH_ready (rs := [10]) (by kernel_rfl) (by simp) (AllReadyH.cons (gA rfl) (fun K hK => ?_) AllReadyH.nil)
        (refine wp_store_row 83 (.tmp 9) (.tmp 45) rfl _ #[.slice A5 n5 c5, .int .i64 1] rfl rfl 83 _ (hL _ (by simp)) (by kernel_rfl) rfl (by simp [Value.oneCell']) ?_)
        refine hK.out _ _ ?_ (fun hHeld => ?_)
        · exact HSL.out _ (below_setRow hbx (hgL _ (by simp)) _)
        clear hK K
        try simp only [Act.put, List.setIfInBounds_toArray, List.set_cons_zero, List.set_cons_succ]
        refine wpAnyH_ready (rs := [11]) (by kernel_rfl) (by simp) (AllReadyH.cons (gA rfl) (fun K hK => ?_) AllReadyH.nil)
        (refine wp_store_row 95 (.tmp 10) (.tmp 46) rfl _ (ansA ans1) rfl rfl 95 _ ((hM _ (by simp)).rowOther (Blk.neTy (hM _ (by simp)) (hL _ (by simp)) (by decide)) _) (by kernel_rfl) rfl (by simp [ansA, Value.oneCell']) ?_)
        refine hK.out _ _ ?_ (fun hHeld => ?_)
        · exact HSL.out _ (below_setRow (below_setRow hbx (hgL _ (by simp)) _) (hgM _ (by simp)) _)
        clear hK K
        try simp only [Act.put, List.setIfInBounds_toArray, List.set_cons_zero, List.set_cons_succ]
        refine wpAnyH_take (i := 12) (v := ?v49) (gA rfl) (by kernel_rfl) (by kernel_rfl) (by kernel_rfl) (fun _ _ _ h => h) (Or.inl ⟨rfl, ?y49⟩) (by assumption) ?_
        case y49 => (intro w hSw; (try dsimp only at hSw); go_simp <;> with_reducible rfl)
        simp only [Act.put, List.setIfInBounds_toArray, List.set_cons_zero, List.set_cons_succ]
        refine wpAnyH_done (by kernel_rfl) ?_ _
        go_wp2_with fail
        go_meet
        exact ⟨_, rfl, rfl, ((hM _ (by simp)).rowOther (Blk.neTy (hM _ (by simp)) (hL _ (by simp)) (by decide)) _).row _, below_setRow (below_setRow hbx (hgL _ (by simp)) _) (hgM _ (by simp)) _⟩
      go_simp
      (go_at_call 131; refine (firstS_any _).mono ?_; rintro e w4 ⟨p4, rfl, hS4, hb4⟩; (try replace hL := fun g hg => (hL g hg).bel hb4); (try replace hM := fun g hg => (hM g hg).bel hb4); replace hbx := hbx.trans (hb4.mono hbx.size); clear hb4)
      go_wp2_with fail
      refine hK.out _ _ ?_ (fun hHeld => ?_)
      · exact HSL.out _ hbx
      clear hK K
      try simp only [Act.put, List.setIfInBounds_toArray, List.set_cons_zero, List.set_cons_succ]
      refine wpAnyH_ready (rs := [3, 9]) (by kernel_rfl) (by simp) ?_
      refine AllReadyH.cons (gA rfl) (fun K hK => ?_) ?m_14
      case m_14 =>
        refine AllReadyH.cons (gA rfl) (fun K hK => ?_) AllReadyH.nil
        go_simp
        refine hK.out _ _ ?_ (fun hHeld => ?_)
        · exact HSL.out _ (hbx.alloc hbx.size (.cells #[.int .i64 0, .int .i64 0] 95))
        clear hK K
        try simp only [Act.put, List.setIfInBounds_toArray, List.set_cons_zero, List.set_cons_succ]
        (have hM := freshG hbx #[.int .i64 0, .int .i64 0] 95; have hgM := geOf hbx; (try replace hL := fun g hg => (hL g hg).bel (bel1 _ (.cells #[.int .i64 0, .int .i64 0] 95))); (try replace hS4 := hS4.bel (bel1 _ (.cells #[.int .i64 0, .int .i64 0] 95))); replace hbx := hbx.alloc hbx.size (.cells #[.int .i64 0, .int .i64 0] 95))
        refine wpAnyH_ready (rs := [3]) (by kernel_rfl) (by simp) ?_
        refine AllReadyH.cons (gA rfl) (fun K hK => ?_) AllReadyH.nil
        go_simp
        (go_at_call 77; refine (HS1.out p4 A3 c3 _ hS4 (HD3.out _ hbx)).mono ?_; rintro e w5 ⟨⟨v, xs, an, he, han, hO⟩, hb5⟩; obtain rfl : an = ans1 := han; rw [okI_zero] at he; rw [okL_zero] at hO; obtain ⟨A5, n5, c5, rfl, -⟩ := hO.sl donC_good; subst he; (try replace hL := fun g hg => (hL g hg).bel hb5); (try replace hM := fun g hg => (hM g hg).bel hb5); replace hbx := hbx.trans (hb5.mono hbx.size); clear hb5 hS4 hO)
        go_wp2_with fail
        refine hK.out _ _ ?_ (fun hHeld => ?_)
        · exact HSL.out _ hbx
        clear hK K
        try simp only [Act.put, List.setIfInBounds_toArray, List.set_cons_zero, List.set_cons_succ]
        refine wpAnyH_take (i := 4) (v := ?v50) (gA rfl) (by kernel_rfl) (by kernel_rfl) (by kernel_rfl) (fun _ _ _ h => h) (Or.inl ⟨rfl, ?y50⟩) (by assumption) ?_
        case y50 => (intro w hSw; (try dsimp only at hSw); go_simp <;> with_reducible rfl)
        simp only [Act.put, List.setIfInBounds_toArray, List.set_cons_zero, List.set_cons_succ]
        refine wpAnyH_take (i := 5) (v := ?v51) (gA rfl) (by kernel_rfl) (by kernel_rfl) (by kernel_rfl) (fun _ _ _ h => h) (Or.inl ⟨rfl, ?y51⟩) (by assumption) ?_
        case y51 => (intro w hSw; (try dsimp only at hSw); go_simp <;> with_reducible rfl)
        simp only [Act.put, List.setIfInBounds_toArray, List.set_cons_zero, List.set_cons_succ]
        refine wpAnyH_take (i := 6) (v := ?v52) (gA rfl) (by kernel_rfl) (by kernel_rfl) (by kernel_rfl) (fun _ _ _ h => h) (Or.inl ⟨rfl, ?y52⟩) (by assumption) ?_
        case y52 => (intro w hSw; (try dsimp only at hSw); go_simp <;> with_reducible rfl)
        simp only [Act.put, List.setIfInBounds_toArray, List.set_cons_zero, List.set_cons_succ]
        refine wpAnyH_take (i := 7) (v := ?v53) (gA rfl) (by kernel_rfl) (by kernel_rfl) (by kernel_rfl) (fun _ _ _ h => h) (Or.inl ⟨rfl, ?y53⟩) (by assumption) ?_
        case y53 => (intro w hSw; (try dsimp only at hSw); go_simp <;> with_reducible rfl)
        simp only [Act.put, List.setIfInBounds_toArray, List.set_cons_zero, List.set_cons_succ]
        refine wpAnyH_ready (rs := [10]) (by kernel_rfl) (by simp) (AllReadyH.cons (gA rfl) (fun K hK => ?_) AllReadyH.nil)
        (refine wp_store_row 83 (.tmp 9) (.tmp 45) rfl _ #[.slice A5 n5 c5, .int .i64 1] rfl rfl 83 _ (hL _ (by simp)) (by kernel_rfl) rfl (by simp [Value.oneCell']) ?_)
        refine hK.out _ _ ?_ (fun hHeld => ?_)
        · exact HSL.out _ (below_setRow hbx (hgL _ (by simp)) _)
        clear hK K
        try simp only [Act.put, List.setIfInBounds_toArray, List.set_cons_zero, List.set_cons_succ]
        refine wpAnyH_ready (rs := [11]) (by kernel_rfl) (by simp) (AllReadyH.cons (gA rfl) (fun K hK => ?_) AllReadyH.nil)
        (refine wp_store_row 95 (.tmp 10) (.tmp 46) rfl _ (ansA ans1) rfl rfl 95 _ ((hM _ (by simp)).rowOther (Blk.neTy (hM _ (by simp)) (hL _ (by simp)) (by decide)) _) (by kernel_rfl) rfl (by simp [ansA, Value.oneCell']) ?_)
        refine hK.out _ _ ?_ (fun hHeld => ?_)
        · exact HSL.out _ (below_setRow (below_setRow hbx (hgL _ (by simp)) _) (hgM _ (by simp)) _)
        clear hK K
        try simp only [Act.put, List.setIfInBounds_toArray, List.set_cons_zero, List.set_cons_succ]
        refine wpAnyH_take (i := 12) (v := ?v56) (gA rfl) (by kernel_rfl) (by kernel_rfl) (by kernel_rfl) (fun _ _ _ h => h) (Or.inl ⟨rfl, ?y56⟩) (by assumption) ?_
        case y56 => (intro w hSw; (try dsimp only at hSw); go_simp <;> with_reducible rfl)
        simp only [Act.put, List.setIfInBounds_toArray, List.set_cons_zero, List.set_cons_succ]
        refine wpAnyH_done (by kernel_rfl) ?_ _
        go_wp2_with fail
        go_meet
        exact ⟨_, rfl, rfl, ((hM _ (by simp)).rowOther (Blk.neTy (hM _ (by simp)) (hL _ (by simp)) (by decide)) _).row _, below_setRow (below_setRow hbx (hgL _ (by simp)) _) (hgM _ (by simp)) _⟩
      go_simp
      (go_at_call 77; refine (HS1.out p4 A3 c3 _ hS4 (HD3.out _ hbx)).mono ?_; rintro e w5 ⟨⟨v, xs, an, he, han, hO⟩, hb5⟩; obtain rfl : an = ans1 := han; rw [okI_zero] at he; rw [okL_zero] at hO; obtain ⟨A5, n5, c5, rfl, -⟩ := hO.sl donC_good; subst he; (try replace hL := fun g hg => (hL g hg).bel hb5); (try replace hM := fun g hg => (hM g hg).bel hb5); replace hbx := hbx.trans (hb5.mono hbx.size); clear hb5 hS4 hO)
      go_wp2_with fail
      refine hK.out _ _ ?_ (fun hHeld => ?_)
      · exact HSL.out _ hbx
      clear hK K
      try simp only [Act.put, List.setIfInBounds_toArray, List.set_cons_zero, List.set_cons_succ]
      refine wpAnyH_take (i := 4) (v := ?v57) (gA rfl) (by kernel_rfl) (by kernel_rfl) (by kernel_rfl) (fun _ _ _ h => h) (Or.inl ⟨rfl, ?y57⟩) (by assumption) ?_
      case y57 => (intro w hSw; (try dsimp only at hSw); go_simp <;> with_reducible rfl)
      simp only [Act.put, List.setIfInBounds_toArray, List.set_cons_zero, List.set_cons_succ]
      refine wpAnyH_take (i := 5) (v := ?v58) (gA rfl) (by kernel_rfl) (by kernel_rfl) (by kernel_rfl) (fun _ _ _ h => h) (Or.inl ⟨rfl, ?y58⟩) (by assumption) ?_
      case y58 => (intro w hSw; (try dsimp only at hSw); go_simp <;> with_reducible rfl)
      simp only [Act.put, List.setIfInBounds_toArray, List.set_cons_zero, List.set_cons_succ]
      refine wpAnyH_take (i := 6) (v := ?v59) (gA rfl) (by kernel_rfl) (by kernel_rfl) (by kernel_rfl) (fun _ _ _ h => h) (Or.inl ⟨rfl, ?y59⟩) (by assumption) ?_
      case y59 => (intro w hSw; (try dsimp only at hSw); go_simp <;> with_reducible rfl)
      simp only [Act.put, List.setIfInBounds_toArray, List.set_cons_zero, List.set_cons_succ]
      refine wpAnyH_take (i := 7) (v := ?v60) (gA rfl) (by kernel_rfl) (by kernel_rfl) (by kernel_rfl) (fun _ _ _ h => h) (Or.inl ⟨rfl, ?y60⟩) (by assumption) ?_
      case y60 => (intro w hSw; (try dsimp only at hSw); go_simp <;> with_reducible rfl)
      simp only [Act.put, List.setIfInBounds_toArray, List.set_cons_zero, List.set_cons_succ]
      refine wpAnyH_ready (rs := [9]) (by kernel_rfl) (by simp) ?_
      refine AllReadyH.cons (gA rfl) (fun K hK => ?_) AllReadyH.nil
      go_simp
      refine hK.out _ _ ?_ (fun hHeld => ?_)
      · exact HSL.out _ (hbx.alloc hbx.size (.cells #[.int .i64 0, .int .i64 0] 95))
      clear hK K
      try simp only [Act.put, List.setIfInBounds_toArray, List.set_cons_zero, List.set_cons_succ]
      (have hM := freshG hbx #[.int .i64 0, .int .i64 0] 95; have hgM := geOf hbx; (try replace hL := fun g hg => (hL g hg).bel (bel1 _ (.cells #[.int .i64 0, .int .i64 0] 95))); (try replace hS4 := hS4.bel (bel1 _ (.cells #[.int .i64 0, .int .i64 0] 95))); replace hbx := hbx.alloc hbx.size (.cells #[.int .i64 0, .int .i64 0] 95))
      refine wpAnyH_ready (rs := [10]) (by kernel_rfl) (by simp) (AllReadyH.cons (gA rfl) (fun K hK => ?_) AllReadyH.nil)
      (refine wp_store_row 83 (.tmp 9) (.tmp 45) rfl _ #[.slice A5 n5 c5, .int .i64 1] rfl rfl 83 _ (hL _ (by simp)) (by kernel_rfl) rfl (by simp [Value.oneCell']) ?_)
      refine hK.out _ _ ?_ (fun hHeld => ?_)
      · exact HSL.out _ (below_setRow hbx (hgL _ (by simp)) _)
      clear hK K
      try simp only [Act.put, List.setIfInBounds_toArray, List.set_cons_zero, List.set_cons_succ]
      refine wpAnyH_ready (rs := [11]) (by kernel_rfl) (by simp) (AllReadyH.cons (gA rfl) (fun K hK => ?_) AllReadyH.nil)
      (refine wp_store_row 95 (.tmp 10) (.tmp 46) rfl _ (ansA ans1) rfl rfl 95 _ ((hM _ (by simp)).rowOther (Blk.neTy (hM _ (by simp)) (hL _ (by simp)) (by decide)) _) (by kernel_rfl) rfl (by simp [ansA, Value.oneCell']) ?_)
      refine hK.out _ _ ?_ (fun hHeld => ?_)
      · exact HSL.out _ (below_setRow (below_setRow hbx (hgL _ (by simp)) _) (hgM _ (by simp)) _)
      clear hK K
      try simp only [Act.put, List.setIfInBounds_toArray, List.set_cons_zero, List.set_cons_succ]
      refine wpAnyH_take (i := 12) (v := ?v63) (gA rfl) (by kernel_rfl) (by kernel_rfl) (by kernel_rfl) (fun _ _ _ h => h) (Or.inl ⟨rfl, ?y63⟩) (by assumption) ?_
      case y63 => (intro w hSw; (try dsimp only at hSw); go_simp <;> with_reducible rfl)
      simp only [Act.put, List.setIfInBounds_toArray, List.set_cons_zero, List.set_cons_succ]
      refine wpAnyH_done (by kernel_rfl) ?_ _
      go_wp2_with fail
      go_meet
      exact ⟨_, rfl, rfl, ((hM _ (by simp)).rowOther (Blk.neTy (hM _ (by simp)) (hL _ (by simp)) (by decide)) _).row _, below_setRow (below_setRow hbx (hgL _ (by simp)) _) (hgM _ (by simp)) _⟩
    go_simp
    (go_at_call 131; refine (firstS_any _).mono ?_; rintro e w4 ⟨p4, rfl, hS4, hb4⟩; (try replace hL := fun g hg => (hL g hg).bel hb4); (try replace hM := fun g hg => (hM g hg).bel hb4); replace hbx := hbx.trans (hb4.mono hbx.size); clear hb4)
    go_wp2_with fail
    refine hK.out _ _ ?_ (fun hHeld => ?_)
    · exact HSL.out _ hbx
    clear hK K
    try simp only [Act.put, List.setIfInBounds_toArray, List.set_cons_zero, List.set_cons_succ]
    refine wpAnyH_ready (rs := [3, 8, 9]) (by kernel_rfl) (by simp) ?_
    refine AllReadyH.cons (gA rfl) (fun K hK => ?_) ?m_15
    case m_15 =>
      refine AllReadyH.cons (gA rfl) (fun K hK => ?_) ?m_16
      case m_16 =>
        refine AllReadyH.cons (gA rfl) (fun K hK => ?_) AllReadyH.nil
        go_simp
        refine hK.out _ _ ?_ (fun hHeld => ?_)
        · exact HSL.out _ (hbx.alloc hbx.size (.cells #[.int .i64 0, .int .i64 0] 95))
        clear hK K
        try simp only [Act.put, List.setIfInBounds_toArray, List.set_cons_zero, List.set_cons_succ]
        (have hM := freshG hbx #[.int .i64 0, .int .i64 0] 95; have hgM := geOf hbx; (try replace hL := fun g hg => (hL g hg).bel (bel1 _ (.cells #[.int .i64 0, .int .i64 0] 95))); (try replace hS4 := hS4.bel (bel1 _ (.cells #[.int .i64 0, .int .i64 0] 95))); replace hbx := hbx.alloc hbx.size (.cells #[.int .i64 0, .int .i64 0] 95))
        refine wpAnyH_ready (rs := [3, 8]) (by kernel_rfl) (by simp) ?_
        refine AllReadyH.cons (gA rfl) (fun K hK => ?_) ?m_17
        case m_17 =>
          refine AllReadyH.cons (gA rfl) (fun K hK => ?_) AllReadyH.nil
          go_simp
          refine hK.out _ _ ?_ (fun hHeld => ?_)
          · exact HSL.out _ (hbx.alloc hbx.size (.cells #[.slice none 0 0, .int .i64 0] 83))
          clear hK K
          try simp only [Act.put, List.setIfInBounds_toArray, List.set_cons_zero, List.set_cons_succ]
          (have hL := freshG hbx #[.slice none 0 0, .int .i64 0] 83; have hgL := geOf hbx; (try replace hM := fun g hg => (hM g hg).bel (bel1 _ (.cells #[.slice none 0 0, .int .i64 0] 83))); (try replace hS4 := hS4.bel (bel1 _ (.cells #[.slice none 0 0, .int .i64 0] 83))); replace hbx := hbx.alloc hbx.size (.cells #[.slice none 0 0, .int .i64 0] 83))
          refine wpAnyH_ready (rs := [3]) (by kernel_rfl) (by simp) ?_
          refine AllReadyH.cons (gA rfl) (fun K hK => ?_) AllReadyH.nil
          go_simp
          (go_at_call 77; refine (HS1.out p4 A3 c3 _ hS4 (HD3.out _ hbx)).mono ?_; rintro e w5 ⟨⟨v, xs, an, he, han, hO⟩, hb5⟩; obtain rfl : an = ans1 := han; rw [okI_zero] at he; rw [okL_zero] at hO; obtain ⟨A5, n5, c5, rfl, -⟩ := hO.sl donC_good; subst he; (try replace hL := fun g hg => (hL g hg).bel hb5); (try replace hM := fun g hg => (hM g hg).bel hb5); replace hbx := hbx.trans (hb5.mono hbx.size); clear hb5 hS4 hO)
          go_wp2_with fail
          refine hK.out _ _ ?_ (fun hHeld => ?_)
          · exact HSL.out _ hbx
          clear hK K
          try simp only [Act.put, List.setIfInBounds_toArray, List.set_cons_zero, List.set_cons_succ]
          refine wpAnyH_take (i := 4) (v := ?v64) (gA rfl) (by kernel_rfl) (by kernel_rfl) (by kernel_rfl) (fun _ _ _ h => h) (Or.inl ⟨rfl, ?y64⟩) (by assumption) ?_
          case y64 => (intro w hSw; (try dsimp only at hSw); go_simp <;> with_reducible rfl)
          simp only [Act.put, List.setIfInBounds_toArray, List.set_cons_zero, List.set_cons_succ]
          refine wpAnyH_take (i := 5) (v := ?v65) (gA rfl) (by kernel_rfl) (by kernel_rfl) (by kernel_rfl) (fun _ _ _ h => h) (Or.inl ⟨rfl, ?y65⟩) (by assumption) ?_
          case y65 => (intro w hSw; (try dsimp only at hSw); go_simp <;> with_reducible rfl)
          simp only [Act.put, List.setIfInBounds_toArray, List.set_cons_zero, List.set_cons_succ]
          refine wpAnyH_take (i := 6) (v := ?v66) (gA rfl) (by kernel_rfl) (by kernel_rfl) (by kernel_rfl) (fun _ _ _ h => h) (Or.inl ⟨rfl, ?y66⟩) (by assumption) ?_
          case y66 => (intro w hSw; (try dsimp only at hSw); go_simp <;> with_reducible rfl)
          simp only [Act.put, List.setIfInBounds_toArray, List.set_cons_zero, List.set_cons_succ]
          refine wpAnyH_take (i := 7) (v := ?v67) (gA rfl) (by kernel_rfl) (by kernel_rfl) (by kernel_rfl) (fun _ _ _ h => h) (Or.inl ⟨rfl, ?y67⟩) (by assumption) ?_
          case y67 => (intro w hSw; (try dsimp only at hSw); go_simp <;> with_reducible rfl)
          simp only [Act.put, List.setIfInBounds_toArray, List.set_cons_zero, List.set_cons_succ]
          refine wpAnyH_ready (rs := [10]) (by kernel_rfl) (by simp) (AllReadyH.cons (gA rfl) (fun K hK => ?_) AllReadyH.nil)
          (refine wp_store_row 83 (.tmp 9) (.tmp 45) rfl _ #[.slice A5 n5 c5, .int .i64 1] rfl rfl 83 _ (hL _ (by simp)) (by kernel_rfl) rfl (by simp [Value.oneCell']) ?_)
          refine hK.out _ _ ?_ (fun hHeld => ?_)
          · exact HSL.out _ (below_setRow hbx (hgL _ (by simp)) _)
          clear hK K
          try simp only [Act.put, List.setIfInBounds_toArray, List.set_cons_zero, List.set_cons_succ]
          refine wpAnyH_ready (rs := [11]) (by kernel_rfl) (by simp) (AllReadyH.cons (gA rfl) (fun K hK => ?_) AllReadyH.nil)
          (refine wp_store_row 95 (.tmp 10) (.tmp 46) rfl _ (ansA ans1) rfl rfl 95 _ ((hM _ (by simp)).rowOther (Blk.neTy (hM _ (by simp)) (hL _ (by simp)) (by decide)) _) (by kernel_rfl) rfl (by simp [ansA, Value.oneCell']) ?_)
          refine hK.out _ _ ?_ (fun hHeld => ?_)
          · exact HSL.out _ (below_setRow (below_setRow hbx (hgL _ (by simp)) _) (hgM _ (by simp)) _)
          clear hK K
          try simp only [Act.put, List.setIfInBounds_toArray, List.set_cons_zero, List.set_cons_succ]
          refine wpAnyH_take (i := 12) (v := ?v70) (gA rfl) (by kernel_rfl) (by kernel_rfl) (by kernel_rfl) (fun _ _ _ h => h) (Or.inl ⟨rfl, ?y70⟩) (by assumption) ?_
          case y70 => (intro w hSw; (try dsimp only at hSw); go_simp <;> with_reducible rfl)
          simp only [Act.put, List.setIfInBounds_toArray, List.set_cons_zero, List.set_cons_succ]
          refine wpAnyH_done (by kernel_rfl) ?_ _
          go_wp2_with fail
          go_meet
          exact ⟨_, rfl, rfl, ((hM _ (by simp)).rowOther (Blk.neTy (hM _ (by simp)) (hL _ (by simp)) (by decide)) _).row _, below_setRow (below_setRow hbx (hgL _ (by simp)) _) (hgM _ (by simp)) _⟩
        go_simp
        (go_at_call 77; refine (HS1.out p4 A3 c3 _ hS4 (HD3.out _ hbx)).mono ?_; rintro e w5 ⟨⟨v, xs, an, he, han, hO⟩, hb5⟩; obtain rfl : an = ans1 := han; rw [okI_zero] at he; rw [okL_zero] at hO; obtain ⟨A5, n5, c5, rfl, -⟩ := hO.sl donC_good; subst he; (try replace hL := fun g hg => (hL g hg).bel hb5); (try replace hM := fun g hg => (hM g hg).bel hb5); replace hbx := hbx.trans (hb5.mono hbx.size); clear hb5 hS4 hO)
        go_wp2_with fail
        refine hK.out _ _ ?_ (fun hHeld => ?_)
        · exact HSL.out _ hbx
        clear hK K
        try simp only [Act.put, List.setIfInBounds_toArray, List.set_cons_zero, List.set_cons_succ]
        refine wpAnyH_take (i := 4) (v := ?v71) (gA rfl) (by kernel_rfl) (by kernel_rfl) (by kernel_rfl) (fun _ _ _ h => h) (Or.inl ⟨rfl, ?y71⟩) (by assumption) ?_
        case y71 => (intro w hSw; (try dsimp only at hSw); go_simp <;> with_reducible rfl)
        simp only [Act.put, List.setIfInBounds_toArray, List.set_cons_zero, List.set_cons_succ]
        refine wpAnyH_take (i := 5) (v := ?v72) (gA rfl) (by kernel_rfl) (by kernel_rfl) (by kernel_rfl) (fun _ _ _ h => h) (Or.inl ⟨rfl, ?y72⟩) (by assumption) ?_
        case y72 => (intro w hSw; (try dsimp only at hSw); go_simp <;> with_reducible rfl)
        simp only [Act.put, List.setIfInBounds_toArray, List.set_cons_zero, List.set_cons_succ]
        refine wpAnyH_take (i := 6) (v := ?v73) (gA rfl) (by kernel_rfl) (by kernel_rfl) (by kernel_rfl) (fun _ _ _ h => h) (Or.inl ⟨rfl, ?y73⟩) (by assumption) ?_
        case y73 => (intro w hSw; (try dsimp only at hSw); go_simp <;> with_reducible rfl)
        simp only [Act.put, List.setIfInBounds_toArray, List.set_cons_zero, List.set_cons_succ]
        refine wpAnyH_take (i := 7) (v := ?v74) (gA rfl) (by kernel_rfl) (by kernel_rfl) (by kernel_rfl) (fun _ _ _ h => h) (Or.inl ⟨rfl, ?y74⟩) (by assumption) ?_
        case y74 => (intro w hSw; (try dsimp only at hSw); go_simp <;> with_reducible rfl)
        simp only [Act.put, List.setIfInBounds_toArray, List.set_cons_zero, List.set_cons_succ]
        refine wpAnyH_ready (rs := [8]) (by kernel_rfl) (by simp) ?_
        refine AllReadyH.cons (gA rfl) (fun K hK => ?_) AllReadyH.nil
        go_simp
        refine hK.out _ _ ?_ (fun hHeld => ?_)
        · exact HSL.out _ (hbx.alloc hbx.size (.cells #[.slice none 0 0, .int .i64 0] 83))
        clear hK K
        try simp only [Act.put, List.setIfInBounds_toArray, List.set_cons_zero, List.set_cons_succ]
        (have hL := freshG hbx #[.slice none 0 0, .int .i64 0] 83; have hgL := geOf hbx; (try replace hM := fun g hg => (hM g hg).bel (bel1 _ (.cells #[.slice none 0 0, .int .i64 0] 83))); (try replace hS4 := hS4.bel (bel1 _ (.cells #[.slice none 0 0, .int .i64 0] 83))); replace hbx := hbx.alloc hbx.size (.cells #[.slice none 0 0, .int .i64 0] 83))
        refine wpAnyH_ready (rs := [10]) (by kernel_rfl) (by simp) (AllReadyH.cons (gA rfl) (fun K hK => ?_) AllReadyH.nil)
        (refine wp_store_row 83 (.tmp 9) (.tmp 45) rfl _ #[.slice A5 n5 c5, .int .i64 1] rfl rfl 83 _ (hL _ (by simp)) (by kernel_rfl) rfl (by simp [Value.oneCell']) ?_)
        refine hK.out _ _ ?_ (fun hHeld => ?_)
        · exact HSL.out _ (below_setRow hbx (hgL _ (by simp)) _)
        clear hK K
        try simp only [Act.put, List.setIfInBounds_toArray, List.set_cons_zero, List.set_cons_succ]
        refine wpAnyH_ready (rs := [11]) (by kernel_rfl) (by simp) (AllReadyH.cons (gA rfl) (fun K hK => ?_) AllReadyH.nil)
        (refine wp_store_row 95 (.tmp 10) (.tmp 46) rfl _ (ansA ans1) rfl rfl 95 _ ((hM _ (by simp)).rowOther (Blk.neTy (hM _ (by simp)) (hL _ (by simp)) (by decide)) _) (by kernel_rfl) rfl (by simp [ansA, Value.oneCell']) ?_)
        refine hK.out _ _ ?_ (fun hHeld => ?_)
        · exact HSL.out _ (below_setRow (below_setRow hbx (hgL _ (by simp)) _) (hgM _ (by simp)) _)
        clear hK K
        try simp only [Act.put, List.setIfInBounds_toArray, List.set_cons_zero, List.set_cons_succ]
        refine wpAnyH_take (i := 12) (v := ?v77) (gA rfl) (by kernel_rfl) (by kernel_rfl) (by kernel_rfl) (fun _ _ _ h => h) (Or.inl ⟨rfl, ?y77⟩) (by assumption) ?_
        case y77 => (intro w hSw; (try dsimp only at hSw); go_simp <;> with_reducible rfl)
        simp only [Act.put, List.setIfInBounds_toArray, List.set_cons_zero, List.set_cons_succ]
        refine wpAnyH_done (by kernel_rfl) ?_ _
        go_wp2_with fail
        go_meet
        exact ⟨_, rfl, rfl, ((hM _ (by simp)).rowOther (Blk.neTy (hM _ (by simp)) (hL _ (by simp)) (by decide)) _).row _, below_setRow (below_setRow hbx (hgL _ (by simp)) _) (hgM _ (by simp)) _⟩
      go_simp
      refine hK.out _ _ ?_ (fun hHeld => ?_)
      · exact HSL.out _ (hbx.alloc hbx.size (.cells #[.slice none 0 0, .int .i64 0] 83))
      clear hK K
      try simp only [Act.put, List.setIfInBounds_toArray, List.set_cons_zero, List.set_cons_succ]
      (have hL := freshG hbx #[.slice none 0 0, .int .i64 0] 83; have hgL := geOf hbx; (try replace hM := fun g hg => (hM g hg).bel (bel1 _ (.cells #[.slice none 0 0, .int .i64 0] 83))); (try replace hS4 := hS4.bel (bel1 _ (.cells #[.slice none 0 0, .int .i64 0] 83))); replace hbx := hbx.alloc hbx.size (.cells #[.slice none 0 0, .int .i64 0] 83))
      refine wpAnyH_ready (rs := [3, 9]) (by kernel_rfl) (by simp) ?_
      refine AllReadyH.cons (gA rfl) (fun K hK => ?_) ?m_18
      case m_18 =>
        refine AllReadyH.cons (gA rfl) (fun K hK => ?_) AllReadyH.nil
        go_simp
        refine hK.out _ _ ?_ (fun hHeld => ?_)
        · exact HSL.out _ (hbx.alloc hbx.size (.cells #[.int .i64 0, .int .i64 0] 95))
        clear hK K
        try simp only [Act.put, List.setIfInBounds_toArray, List.set_cons_zero, List.set_cons_succ]
        (have hM := freshG hbx #[.int .i64 0, .int .i64 0] 95; have hgM := geOf hbx; (try replace hL := fun g hg => (hL g hg).bel (bel1 _ (.cells #[.int .i64 0, .int .i64 0] 95))); (try replace hS4 := hS4.bel (bel1 _ (.cells #[.int .i64 0, .int .i64 0] 95))); replace hbx := hbx.alloc hbx.size (.cells #[.int .i64 0, .int .i64 0] 95))
        refine wpAnyH_ready (rs := [3]) (by kernel_rfl) (by simp) ?_
        refine AllReadyH.cons (gA rfl) (fun K hK => ?_) AllReadyH.nil
        go_simp
        (go_at_call 77; refine (HS1.out p4 A3 c3 _ hS4 (HD3.out _ hbx)).mono ?_; rintro e w5 ⟨⟨v, xs, an, he, han, hO⟩, hb5⟩; obtain rfl : an = ans1 := han; rw [okI_zero] at he; rw [okL_zero] at hO; obtain ⟨A5, n5, c5, rfl, -⟩ := hO.sl donC_good; subst he; (try replace hL := fun g hg => (hL g hg).bel hb5); (try replace hM := fun g hg => (hM g hg).bel hb5); replace hbx := hbx.trans (hb5.mono hbx.size); clear hb5 hS4 hO)
        go_wp2_with fail
        refine hK.out _ _ ?_ (fun hHeld => ?_)
        · exact HSL.out _ hbx
        clear hK K
        try simp only [Act.put, List.setIfInBounds_toArray, List.set_cons_zero, List.set_cons_succ]
        refine wpAnyH_take (i := 4) (v := ?v78) (gA rfl) (by kernel_rfl) (by kernel_rfl) (by kernel_rfl) (fun _ _ _ h => h) (Or.inl ⟨rfl, ?y78⟩) (by assumption) ?_
        case y78 => (intro w hSw; (try dsimp only at hSw); go_simp <;> with_reducible rfl)
        simp only [Act.put, List.setIfInBounds_toArray, List.set_cons_zero, List.set_cons_succ]
        refine wpAnyH_take (i := 5) (v := ?v79) (gA rfl) (by kernel_rfl) (by kernel_rfl) (by kernel_rfl) (fun _ _ _ h => h) (Or.inl ⟨rfl, ?y79⟩) (by assumption) ?_
        case y79 => (intro w hSw; (try dsimp only at hSw); go_simp <;> with_reducible rfl)
        simp only [Act.put, List.setIfInBounds_toArray, List.set_cons_zero, List.set_cons_succ]
        refine wpAnyH_take (i := 6) (v := ?v80) (gA rfl) (by kernel_rfl) (by kernel_rfl) (by kernel_rfl) (fun _ _ _ h => h) (Or.inl ⟨rfl, ?y80⟩) (by assumption) ?_
        case y80 => (intro w hSw; (try dsimp only at hSw); go_simp <;> with_reducible rfl)
        simp only [Act.put, List.setIfInBounds_toArray, List.set_cons_zero, List.set_cons_succ]
        refine wpAnyH_take (i := 7) (v := ?v81) (gA rfl) (by kernel_rfl) (by kernel_rfl) (by kernel_rfl) (fun _ _ _ h => h) (Or.inl ⟨rfl, ?y81⟩) (by assumption) ?_
        case y81 => (intro w hSw; (try dsimp only at hSw); go_simp <;> with_reducible rfl)
        simp only [Act.put, List.setIfInBounds_toArray, List.set_cons_zero, List.set_cons_succ]
        refine wpAnyH_ready (rs := [10]) (by kernel_rfl) (by simp) (AllReadyH.cons (gA rfl) (fun K hK => ?_) AllReadyH.nil)
        (refine wp_store_row 83 (.tmp 9) (.tmp 45) rfl _ #[.slice A5 n5 c5, .int .i64 1] rfl rfl 83 _ (hL _ (by simp)) (by kernel_rfl) rfl (by simp [Value.oneCell']) ?_)
        refine hK.out _ _ ?_ (fun hHeld => ?_)
        · exact HSL.out _ (below_setRow hbx (hgL _ (by simp)) _)
        clear hK K
        try simp only [Act.put, List.setIfInBounds_toArray, List.set_cons_zero, List.set_cons_succ]
        refine wpAnyH_ready (rs := [11]) (by kernel_rfl) (by simp) (AllReadyH.cons (gA rfl) (fun K hK => ?_) AllReadyH.nil)
        (refine wp_store_row 95 (.tmp 10) (.tmp 46) rfl _ (ansA ans1) rfl rfl 95 _ ((hM _ (by simp)).rowOther (Blk.neTy (hM _ (by simp)) (hL _ (by simp)) (by decide)) _) (by kernel_rfl) rfl (by simp [ansA, Value.oneCell']) ?_)
        refine hK.out _ _ ?_ (fun hHeld => ?_)
        · exact HSL.out _ (below_setRow (below_setRow hbx (hgL _ (by simp)) _) (hgM _ (by simp)) _)
        clear hK K
        try simp only [Act.put, List.setIfInBounds_toArray, List.set_cons_zero, List.set_cons_succ]
        refine wpAnyH_take (i := 12) (v := ?v84) (gA rfl) (by kernel_rfl) (by kernel_rfl) (by kernel_rfl) (fun _ _ _ h => h) (Or.inl ⟨rfl, ?y84⟩) (by assumption) ?_
        case y84 => (intro w hSw; (try dsimp only at hSw); go_simp <;> with_reducible rfl)
        simp only [Act.put, List.setIfInBounds_toArray, List.set_cons_zero, List.set_cons_succ]
        refine wpAnyH_done (by kernel_rfl) ?_ _
        go_wp2_with fail
        go_meet
        exact ⟨_, rfl, rfl, ((hM _ (by simp)).rowOther (Blk.neTy (hM _ (by simp)) (hL _ (by simp)) (by decide)) _).row _, below_setRow (below_setRow hbx (hgL _ (by simp)) _) (hgM _ (by simp)) _⟩
      go_simp
      (go_at_call 77; refine (HS1.out p4 A3 c3 _ hS4 (HD3.out _ hbx)).mono ?_; rintro e w5 ⟨⟨v, xs, an, he, han, hO⟩, hb5⟩; obtain rfl : an = ans1 := han; rw [okI_zero] at he; rw [okL_zero] at hO; obtain ⟨A5, n5, c5, rfl, -⟩ := hO.sl donC_good; subst he; (try replace hL := fun g hg => (hL g hg).bel hb5); (try replace hM := fun g hg => (hM g hg).bel hb5); replace hbx := hbx.trans (hb5.mono hbx.size); clear hb5 hS4 hO)
      go_wp2_with fail
      refine hK.out _ _ ?_ (fun hHeld => ?_)
      · exact HSL.out _ hbx
      clear hK K
      try simp only [Act.put, List.setIfInBounds_toArray, List.set_cons_zero, List.set_cons_succ]
      refine wpAnyH_take (i := 4) (v := ?v85) (gA rfl) (by kernel_rfl) (by kernel_rfl) (by kernel_rfl) (fun _ _ _ h => h) (Or.inl ⟨rfl, ?y85⟩) (by assumption) ?_
      case y85 => (intro w hSw; (try dsimp only at hSw); go_simp <;> with_reducible rfl)
      simp only [Act.put, List.setIfInBounds_toArray, List.set_cons_zero, List.set_cons_succ]
      refine wpAnyH_take (i := 5) (v := ?v86) (gA rfl) (by kernel_rfl) (by kernel_rfl) (by kernel_rfl) (fun _ _ _ h => h) (Or.inl ⟨rfl, ?y86⟩) (by assumption) ?_
      case y86 => (intro w hSw; (try dsimp only at hSw); go_simp <;> with_reducible rfl)
      simp only [Act.put, List.setIfInBounds_toArray, List.set_cons_zero, List.set_cons_succ]
      refine wpAnyH_take (i := 6) (v := ?v87) (gA rfl) (by kernel_rfl) (by kernel_rfl) (by kernel_rfl) (fun _ _ _ h => h) (Or.inl ⟨rfl, ?y87⟩) (by assumption) ?_
      case y87 => (intro w hSw; (try dsimp only at hSw); go_simp <;> with_reducible rfl)
      simp only [Act.put, List.setIfInBounds_toArray, List.set_cons_zero, List.set_cons_succ]
      refine wpAnyH_take (i := 7) (v := ?v88) (gA rfl) (by kernel_rfl) (by kernel_rfl) (by kernel_rfl) (fun _ _ _ h => h) (Or.inl ⟨rfl, ?y88⟩) (by assumption) ?_
      case y88 => (intro w hSw; (try dsimp only at hSw); go_simp <;> with_reducible rfl)
      simp only [Act.put, List.setIfInBounds_toArray, List.set_cons_zero, List.set_cons_succ]
      refine wpAnyH_ready (rs := [9]) (by kernel_rfl) (by simp) ?_
      refine AllReadyH.cons (gA rfl) (fun K hK => ?_) AllReadyH.nil
      go_simp
      refine hK.out _ _ ?_ (fun hHeld => ?_)
      · exact HSL.out _ (hbx.alloc hbx.size (.cells #[.int .i64 0, .int .i64 0] 95))
      clear hK K
      try simp only [Act.put, List.setIfInBounds_toArray, List.set_cons_zero, List.set_cons_succ]
      (have hM := freshG hbx #[.int .i64 0, .int .i64 0] 95; have hgM := geOf hbx; (try replace hL := fun g hg => (hL g hg).bel (bel1 _ (.cells #[.int .i64 0, .int .i64 0] 95))); (try replace hS4 := hS4.bel (bel1 _ (.cells #[.int .i64 0, .int .i64 0] 95))); replace hbx := hbx.alloc hbx.size (.cells #[.int .i64 0, .int .i64 0] 95))
      refine wpAnyH_ready (rs := [10]) (by kernel_rfl) (by simp) (AllReadyH.cons (gA rfl) (fun K hK => ?_) AllReadyH.nil)
      (refine wp_store_row 83 (.tmp 9) (.tmp 45) rfl _ #[.slice A5 n5 c5, .int .i64 1] rfl rfl 83 _ (hL _ (by simp)) (by kernel_rfl) rfl (by simp [Value.oneCell']) ?_)
      refine hK.out _ _ ?_ (fun hHeld => ?_)
      · exact HSL.out _ (below_setRow hbx (hgL _ (by simp)) _)
      clear hK K
      try simp only [Act.put, List.setIfInBounds_toArray, List.set_cons_zero, List.set_cons_succ]
      refine wpAnyH_ready (rs := [11]) (by kernel_rfl) (by simp) (AllReadyH.cons (gA rfl) (fun K hK => ?_) AllReadyH.nil)
      (refine wp_store_row 95 (.tmp 10) (.tmp 46) rfl _ (ansA ans1) rfl rfl 95 _ ((hM _ (by simp)).rowOther (Blk.neTy (hM _ (by simp)) (hL _ (by simp)) (by decide)) _) (by kernel_rfl) rfl (by simp [ansA, Value.oneCell']) ?_)
      refine hK.out _ _ ?_ (fun hHeld => ?_)
      · exact HSL.out _ (below_setRow (below_setRow hbx (hgL _ (by simp)) _) (hgM _ (by simp)) _)
      clear hK K
      try simp only [Act.put, List.setIfInBounds_toArray, List.set_cons_zero, List.set_cons_succ]
      refine wpAnyH_take (i := 12) (v := ?v91) (gA rfl) (by kernel_rfl) (by kernel_rfl) (by kernel_rfl) (fun _ _ _ h => h) (Or.inl ⟨rfl, ?y91⟩) (by assumption) ?_
      case y91 => (intro w hSw; (try dsimp only at hSw); go_simp <;> with_reducible rfl)
      simp only [Act.put, List.setIfInBounds_toArray, List.set_cons_zero, List.set_cons_succ]
      refine wpAnyH_done (by kernel_rfl) ?_ _
      go_wp2_with fail
      go_meet
      exact ⟨_, rfl, rfl, ((hM _ (by simp)).rowOther (Blk.neTy (hM _ (by simp)) (hL _ (by simp)) (by decide)) _).row _, below_setRow (below_setRow hbx (hgL _ (by simp)) _) (hgM _ (by simp)) _⟩
    go_simp
    (go_at_call 77; refine (HS1.out p4 A3 c3 _ hS4 (HD3.out _ hbx)).mono ?_; rintro e w5 ⟨⟨v, xs, an, he, han, hO⟩, hb5⟩; obtain rfl : an = ans1 := han; rw [okI_zero] at he; rw [okL_zero] at hO; obtain ⟨A5, n5, c5, rfl, -⟩ := hO.sl donC_good; subst he; (try replace hL := fun g hg => (hL g hg).bel hb5); (try replace hM := fun g hg => (hM g hg).bel hb5); replace hbx := hbx.trans (hb5.mono hbx.size); clear hb5 hS4 hO)
    go_wp2_with fail
    refine hK.out _ _ ?_ (fun hHeld => ?_)
    · exact HSL.out _ hbx
    clear hK K
    try simp only [Act.put, List.setIfInBounds_toArray, List.set_cons_zero, List.set_cons_succ]
    refine wpAnyH_take (i := 4) (v := ?v92) (gA rfl) (by kernel_rfl) (by kernel_rfl) (by kernel_rfl) (fun _ _ _ h => h) (Or.inl ⟨rfl, ?y92⟩) (by assumption) ?_
    case y92 => (intro w hSw; (try dsimp only at hSw); go_simp <;> with_reducible rfl)
    simp only [Act.put, List.setIfInBounds_toArray, List.set_cons_zero, List.set_cons_succ]
    refine wpAnyH_take (i := 5) (v := ?v93) (gA rfl) (by kernel_rfl) (by kernel_rfl) (by kernel_rfl) (fun _ _ _ h => h) (Or.inl ⟨rfl, ?y93⟩) (by assumption) ?_
    case y93 => (intro w hSw; (try dsimp only at hSw); go_simp <;> with_reducible rfl)
    simp only [Act.put, List.setIfInBounds_toArray, List.set_cons_zero, List.set_cons_succ]
    refine wpAnyH_take (i := 6) (v := ?v94) (gA rfl) (by kernel_rfl) (by kernel_rfl) (by kernel_rfl) (fun _ _ _ h => h) (Or.inl ⟨rfl, ?y94⟩) (by assumption) ?_
    case y94 => (intro w hSw; (try dsimp only at hSw); go_simp <;> with_reducible rfl)
    simp only [Act.put, List.setIfInBounds_toArray, List.set_cons_zero, List.set_cons_succ]
    refine wpAnyH_take (i := 7) (v := ?v95) (gA rfl) (by kernel_rfl) (by kernel_rfl) (by kernel_rfl) (fun _ _ _ h => h) (Or.inl ⟨rfl, ?y95⟩) (by assumption) ?_
    case y95 => (intro w hSw; (try dsimp only at hSw); go_simp <;> with_reducible rfl)
    simp only [Act.put, List.setIfInBounds_toArray, List.set_cons_zero, List.set_cons_succ]
    refine wpAnyH_ready (rs := [8, 9]) (by kernel_rfl) (by simp) ?_
    refine AllReadyH.cons (gA rfl) (fun K hK => ?_) ?m_19
    case m_19 =>
      refine AllReadyH.cons (gA rfl) (fun K hK => ?_) AllReadyH.nil
      go_simp
      refine hK.out _ _ ?_ (fun hHeld => ?_)
      · exact HSL.out _ (hbx.alloc hbx.size (.cells #[.int .i64 0, .int .i64 0] 95))
      clear hK K
      try simp only [Act.put, List.setIfInBounds_toArray, List.set_cons_zero, List.set_cons_succ]
      (have hM := freshG hbx #[.int .i64 0, .int .i64 0] 95; have hgM := geOf hbx; (try replace hL := fun g hg => (hL g hg).bel (bel1 _ (.cells #[.int .i64 0, .int .i64 0] 95))); (try replace hS4 := hS4.bel (bel1 _ (.cells #[.int .i64 0, .int .i64 0] 95))); replace hbx := hbx.alloc hbx.size (.cells #[.int .i64 0, .int .i64 0] 95))
      refine wpAnyH_ready (rs := [8]) (by kernel_rfl) (by simp) ?_
      refine AllReadyH.cons (gA rfl) (fun K hK => ?_) AllReadyH.nil
      go_simp
      refine hK.out _ _ ?_ (fun hHeld => ?_)
      · exact HSL.out _ (hbx.alloc hbx.size (.cells #[.slice none 0 0, .int .i64 0] 83))
      clear hK K
      try simp only [Act.put, List.setIfInBounds_toArray, List.set_cons_zero, List.set_cons_succ]
      (have hL := freshG hbx #[.slice none 0 0, .int .i64 0] 83; have hgL := geOf hbx; (try replace hM := fun g hg => (hM g hg).bel (bel1 _ (.cells #[.slice none 0 0, .int .i64 0] 83))); (try replace hS4 := hS4.bel (bel1 _ (.cells #[.slice none 0 0, .int .i64 0] 83))); replace hbx := hbx.alloc hbx.size (.cells #[.slice none 0 0, .int .i64 0] 83))
      refine wpAnyH_ready (rs := [10]) (by kernel_rfl) (by simp) (AllReadyH.cons (gA rfl) (fun K hK => ?_) AllReadyH.nil)
      (refine wp_store_row 83 (.tmp 9) (.tmp 45) rfl _ #[.slice A5 n5 c5, .int .i64 1] rfl rfl 83 _ (hL _ (by simp)) (by kernel_rfl) rfl (by simp [Value.oneCell']) ?_)
      refine hK.out _ _ ?_ (fun hHeld => ?_)
      · exact HSL.out _ (below_setRow hbx (hgL _ (by simp)) _)
      clear hK K
      try simp only [Act.put, List.setIfInBounds_toArray, List.set_cons_zero, List.set_cons_succ]
      refine wpAnyH_ready (rs := [11]) (by kernel_rfl) (by simp) (AllReadyH.cons (gA rfl) (fun K hK => ?_) AllReadyH.nil)
      (refine wp_store_row 95 (.tmp 10) (.tmp 46) rfl _ (ansA ans1) rfl rfl 95 _ ((hM _ (by simp)).rowOther (Blk.neTy (hM _ (by simp)) (hL _ (by simp)) (by decide)) _) (by kernel_rfl) rfl (by simp [ansA, Value.oneCell']) ?_)
      refine hK.out _ _ ?_ (fun hHeld => ?_)
      · exact HSL.out _ (below_setRow (below_setRow hbx (hgL _ (by simp)) _) (hgM _ (by simp)) _)
      clear hK K
      try simp only [Act.put, List.setIfInBounds_toArray, List.set_cons_zero, List.set_cons_succ]
      refine wpAnyH_take (i := 12) (v := ?v98) (gA rfl) (by kernel_rfl) (by kernel_rfl) (by kernel_rfl) (fun _ _ _ h => h) (Or.inl ⟨rfl, ?y98⟩) (by assumption) ?_
      case y98 => (intro w hSw; (try dsimp only at hSw); go_simp <;> with_reducible rfl)
      simp only [Act.put, List.setIfInBounds_toArray, List.set_cons_zero, List.set_cons_succ]
      refine wpAnyH_done (by kernel_rfl) ?_ _
      go_wp2_with fail
      go_meet
      exact ⟨_, rfl, rfl, ((hM _ (by simp)).rowOther (Blk.neTy (hM _ (by simp)) (hL _ (by simp)) (by decide)) _).row _, below_setRow (below_setRow hbx (hgL _ (by simp)) _) (hgM _ (by simp)) _⟩
    go_simp
    refine hK.out _ _ ?_ (fun hHeld => ?_)
    · exact HSL.out _ (hbx.alloc hbx.size (.cells #[.slice none 0 0, .int .i64 0] 83))
    clear hK K
    try simp only [Act.put, List.setIfInBounds_toArray, List.set_cons_zero, List.set_cons_succ]
    (have hL := freshG hbx #[.slice none 0 0, .int .i64 0] 83; have hgL := geOf hbx; (try replace hM := fun g hg => (hM g hg).bel (bel1 _ (.cells #[.slice none 0 0, .int .i64 0] 83))); (try replace hS4 := hS4.bel (bel1 _ (.cells #[.slice none 0 0, .int .i64 0] 83))); replace hbx := hbx.alloc hbx.size (.cells #[.slice none 0 0, .int .i64 0] 83))
    refine wpAnyH_ready (rs := [9]) (by kernel_rfl) (by simp) ?_
    refine AllReadyH.cons (gA rfl) (fun K hK => ?_) AllReadyH.nil
    go_simp
    refine hK.out _ _ ?_ (fun hHeld => ?_)
    · exact HSL.out _ (hbx.alloc hbx.size (.cells #[.int .i64 0, .int .i64 0] 95))
    clear hK K
    try simp only [Act.put, List.setIfInBounds_toArray, List.set_cons_zero, List.set_cons_succ]
    (have hM := freshG hbx #[.int .i64 0, .int .i64 0] 95; have hgM := geOf hbx; (try replace hL := fun g hg => (hL g hg).bel (bel1 _ (.cells #[.int .i64 0, .int .i64 0] 95))); (try replace hS4 := hS4.bel (bel1 _ (.cells #[.int .i64 0, .int .i64 0] 95))); replace hbx := hbx.alloc hbx.size (.cells #[.int .i64 0, .int .i64 0] 95))
    refine wpAnyH_ready (rs := [10]) (by kernel_rfl) (by simp) (AllReadyH.cons (gA rfl) (fun K hK => ?_) AllReadyH.nil)
    (refine wp_store_row 83 (.tmp 9) (.tmp 45) rfl _ #[.slice A5 n5 c5, .int .i64 1] rfl rfl 83 _ (hL _ (by simp)) (by kernel_rfl) rfl (by simp [Value.oneCell']) ?_)
    refine hK.out _ _ ?_ (fun hHeld => ?_)
    · exact HSL.out _ (below_setRow hbx (hgL _ (by simp)) _)
    clear hK K
    try simp only [Act.put, List.setIfInBounds_toArray, List.set_cons_zero, List.set_cons_succ]
    refine wpAnyH_ready (rs := [11]) (by kernel_rfl) (by simp) (AllReadyH.cons (gA rfl) (fun K hK => ?_) AllReadyH.nil)
    (refine wp_store_row 95 (.tmp 10) (.tmp 46) rfl _ (ansA ans1) rfl rfl 95 _ ((hM _ (by simp)).rowOther (Blk.neTy (hM _ (by simp)) (hL _ (by simp)) (by decide)) _) (by kernel_rfl) rfl (by simp [ansA, Value.oneCell']) ?_)
    refine hK.out _ _ ?_ (fun hHeld => ?_)
    · exact HSL.out _ (below_setRow (below_setRow hbx (hgL _ (by simp)) _) (hgM _ (by simp)) _)
    clear hK K
    try simp only [Act.put, List.setIfInBounds_toArray, List.set_cons_zero, List.set_cons_succ]
    refine wpAnyH_take (i := 12) (v := ?v101) (gA rfl) (by kernel_rfl) (by kernel_rfl) (by kernel_rfl) (fun _ _ _ h => h) (Or.inl ⟨rfl, ?y101⟩) (by assumption) ?_
    case y101 => (intro w hSw; (try dsimp only at hSw); go_simp <;> with_reducible rfl)
    simp only [Act.put, List.setIfInBounds_toArray, List.set_cons_zero, List.set_cons_succ]
    refine wpAnyH_done (by kernel_rfl) ?_ _
    go_wp2_with fail
    go_meet
    exact ⟨_, rfl, rfl, ((hM _ (by simp)).rowOther (Blk.neTy (hM _ (by simp)) (hL _ (by simp)) (by decide)) _).row _, below_setRow (below_setRow hbx (hgL _ (by simp)) _) (hgM _ (by simp)) _⟩
  obtain ⟨a4, rfl, rfl, hA4, hb4⟩ := hcut
  obtain ⟨V4, hV4⟩ : ∃ V, V = wc := ⟨_, rfl⟩
  subst hV4
  have HA4 := Lib.hid (fun X (hX : Below V4.heap.size V4 X) => hA4.bel hX)
  have H34 := Lib.hid (fun X (hX : Below V4.heap.size V4 X) => hb4.trans (hX.mono hb4.size))
  clear hA4 hb4 HS1
  go_upto_region 5 with (fail)
  go_cut [12, 13] (fun q e wx => e = .int .i64 0 ∧ (∃ s y p', q = .pointer (some ⟨s, 0, none⟩) ∧ Blk wx s (saiA y p') 32 ∧ y = y1 ∧ SaiR wx y p') ∧ Below V4.heap.size V4 wx)
  case first =>
    clear HCRA HZ1 HS1X HA1 HB1 HB3 HA3 HA4
    have hbx : Below V4.heap.size V4 V4.drew := (Below.refl _ V4).drew
    refine wp_region_held_drew (S := (fun w' => w'.cell? ⟨s3, 0, none⟩ = some (.slice A3 1 c3) ∧ w'.cell? ⟨s3, 1, none⟩ = some (.int .i64 1))) (by kernel_rfl) (HSL.out _ (H34.out _ hbx)) (fun hHeld => ?_)
    refine wpAnyH_take (i := 1) (v := ?v102) (gA rfl) (by kernel_rfl) (by kernel_rfl) (by kernel_rfl) (fun _ _ _ h => h) (Or.inl ⟨rfl, ?y102⟩) (by assumption) ?_
    case y102 => (intro w hSw; (try dsimp only at hSw); go_simp <;> with_reducible rfl)
    simp only [Act.put, List.setIfInBounds_toArray, List.set_cons_zero, List.set_cons_succ]
    refine wpAnyH_ready (rs := [0, 6]) (by kernel_rfl) (by simp) ?_
    refine AllReadyH.cons (gA rfl) (fun K hK => ?_) ?m_1
    case m_1 =>
      refine AllReadyH.cons (gA rfl) (fun K hK => ?_) AllReadyH.nil
      go_simp
      refine hK.out _ _ ?_ (fun hHeld => ?_)
      · exact HSL.out _ (H34.out _ (hbx.alloc hbx.size (.cells #[.int .i64 0, .int .i64 0, .slice none 0 0, .slice none 0 0, .slice none 0 0, .int .i64 0, .int .i64 0, .slice none 0 0, .int .i64 0, .int .i64 0, .int .i64 0, .slice none 0 0, .bool false] 32)))
      clear hK K
      try simp only [Act.put, List.setIfInBounds_toArray, List.set_cons_zero, List.set_cons_succ]
      (have hL := freshG hbx #[.int .i64 0, .int .i64 0, .slice none 0 0, .slice none 0 0, .slice none 0 0, .int .i64 0, .int .i64 0, .slice none 0 0, .int .i64 0, .int .i64 0, .int .i64 0, .slice none 0 0, .bool false] 32; have hgL := geOf hbx; (try replace hS4 := hS4.bel (bel1 _ (.cells #[.int .i64 0, .int .i64 0, .slice none 0 0, .slice none 0 0, .slice none 0 0, .int .i64 0, .int .i64 0, .slice none 0 0, .int .i64 0, .int .i64 0, .int .i64 0, .slice none 0 0, .bool false] 32))); (try have hal := bel1 w5 (.cells #[.int .i64 0, .int .i64 0, .slice none 0 0, .slice none 0 0, .slice none 0 0, .int .i64 0, .int .i64 0, .slice none 0 0, .int .i64 0, .int .i64 0, .int .i64 0, .slice none 0 0, .bool false] 32)); replace hbx := hbx.alloc hbx.size (.cells #[.int .i64 0, .int .i64 0, .slice none 0 0, .slice none 0 0, .slice none 0 0, .int .i64 0, .int .i64 0, .slice none 0 0, .int .i64 0, .int .i64 0, .int .i64 0, .slice none 0 0, .bool false] 32))
      refine wpAnyH_ready (rs := [0]) (by kernel_rfl) (by simp) ?_
      refine AllReadyH.cons (gA rfl) (fun K hK => ?_) AllReadyH.nil
      go_simp
      (go_at_call 131; refine (firstS_any _).mono ?_; rintro e w4 ⟨p4, rfl, hS4, hb4⟩; (try replace hL := fun g hg => (hL g hg).bel hb4); replace hbx := hbx.trans (hb4.mono hbx.size); clear hb4)
      go_wp2_with fail
      refine hK.out _ _ ?_ (fun hHeld => ?_)
      · exact HSL.out _ (H34.out _ hbx)
      clear hK K
      try simp only [Act.put, List.setIfInBounds_toArray, List.set_cons_zero, List.set_cons_succ]
      refine wpAnyH_ready (rs := [2]) (by kernel_rfl) (by simp) ?_
      refine AllReadyH.cons (gA rfl) (fun K hK => ?_) AllReadyH.nil
      go_simp
      (go_at_call 57; (try have hltL := fun g hg => Blk.lt (hL g hg)); refine (HOPN.out p4 A3 c3 _ hS4 (HD3.out _ (H34.out _ hbx))).mono ?_; rintro e w5 ⟨⟨y, p', rfl, hy, hO⟩, hb5⟩; have hy2 : y1 = y := hy.symm; subst hy2; clear hy; (try replace hL := fun g hg => (hL g hg).bel hb5); replace hbx := hbx.trans (hb5.mono hbx.size); clear hb5 hS4)
      go_wp2_with fail
      refine hK.out _ _ ?_ (fun hHeld => ?_)
      · exact HSL.out _ (H34.out _ hbx)
      clear hK K
      try simp only [Act.put, List.setIfInBounds_toArray, List.set_cons_zero, List.set_cons_succ]
      refine wpAnyH_take (i := 3) (v := ?v103) (gA rfl) (by kernel_rfl) (by kernel_rfl) (by kernel_rfl) (fun _ _ _ h => h) (Or.inl ⟨rfl, ?y103⟩) (by assumption) ?_
      case y103 => (intro w hSw; (try dsimp only at hSw); go_simp <;> with_reducible rfl)
      simp only [Act.put, List.setIfInBounds_toArray, List.set_cons_zero, List.set_cons_succ]
      refine wpAnyH_take (i := 4) (v := ?v104) (gA rfl) (by kernel_rfl) (by kernel_rfl) (by kernel_rfl) (fun _ _ _ h => h) (Or.inl ⟨rfl, ?y104⟩) (by assumption) ?_
      case y104 => (intro w hSw; (try dsimp only at hSw); go_simp <;> with_reducible rfl)
      simp only [Act.put, List.setIfInBounds_toArray, List.set_cons_zero, List.set_cons_succ]
      refine wpAnyH_take (i := 5) (v := ?v105) (gA rfl) (by kernel_rfl) (by kernel_rfl) (by kernel_rfl) (fun _ _ _ h => h) (Or.inl ⟨rfl, ?y105⟩) (by assumption) ?_
      case y105 => (intro w hSw; (try dsimp only at hSw); go_simp <;> with_reducible rfl)
      simp only [Act.put, List.setIfInBounds_toArray, List.set_cons_zero, List.set_cons_succ]
      refine wpAnyH_ready (rs := [7]) (by kernel_rfl) (by simp) (AllReadyH.cons (gA rfl) (fun K hK => ?_) AllReadyH.nil)
      (refine wp_store_row 32 (.tmp 12) (.tmp 52) rfl _ (saiA y1 p') rfl rfl 32 _ (hL _ (by simp)) (by kernel_rfl) rfl (by simp [Value.oneCell']) ?_)
      refine hK.out _ _ ?_ (fun hHeld => ?_)
      · exact HSL.out _ (H34.out _ (below_setRow hbx (hgL _ (by simp)) _))
      clear hK K
      try simp only [Act.put, List.setIfInBounds_toArray, List.set_cons_zero, List.set_cons_succ]
      refine wpAnyH_take (i := 8) (v := ?v107) (gA rfl) (by kernel_rfl) (by kernel_rfl) (by kernel_rfl) (fun _ _ _ h => h) (Or.inl ⟨rfl, ?y107⟩) (by assumption) ?_
      case y107 => (intro w hSw; (try dsimp only at hSw); go_simp <;> with_reducible rfl)
      simp only [Act.put, List.setIfInBounds_toArray, List.set_cons_zero, List.set_cons_succ]
      refine wpAnyH_done (by kernel_rfl) ?_ _
      go_wp2_with fail
      go_meet
      refine ⟨rfl, ⟨_, y1, p', rfl, (hL _ (by simp)).row _, rfl, ?_⟩, below_setRow hbx (hgL _ (by simp)) _⟩
      first | exact hO.sai.bel (below_setRow hal (Nat.le_refl _) _) | exact (hO.kept ((Kept.refl (fun k => k = _) w5).setRow (.inl rfl) _) (fun k hk e => by have := hltL _ rfl; have h2 : V4.drew.heap.size = V4.heap.size := rfl; omega)).sai
    go_simp
    (go_at_call 131; refine (firstS_any _).mono ?_; rintro e w4 ⟨p4, rfl, hS4, hb4⟩; (try replace hL := fun g hg => (hL g hg).bel hb4); replace hbx := hbx.trans (hb4.mono hbx.size); clear hb4)
    go_wp2_with fail
    refine hK.out _ _ ?_ (fun hHeld => ?_)
    · exact HSL.out _ (H34.out _ hbx)
    clear hK K
    try simp only [Act.put, List.setIfInBounds_toArray, List.set_cons_zero, List.set_cons_succ]
    refine wpAnyH_ready (rs := [2, 6]) (by kernel_rfl) (by simp) ?_
    refine AllReadyH.cons (gA rfl) (fun K hK => ?_) ?m_5
    case m_5 =>
      refine AllReadyH.cons (gA rfl) (fun K hK => ?_) AllReadyH.nil
      go_simp
      refine hK.out _ _ ?_ (fun hHeld => ?_)
      · exact HSL.out _ (H34.out _ (hbx.alloc hbx.size (.cells #[.int .i64 0, .int .i64 0, .slice none 0 0, .slice none 0 0, .slice none 0 0, .int .i64 0, .int .i64 0, .slice none 0 0, .int .i64 0, .int .i64 0, .int .i64 0, .slice none 0 0, .bool false] 32)))
      clear hK K
      try simp only [Act.put, List.setIfInBounds_toArray, List.set_cons_zero, List.set_cons_succ]
      (have hL := freshG hbx #[.int .i64 0, .int .i64 0, .slice none 0 0, .slice none 0 0, .slice none 0 0, .int .i64 0, .int .i64 0, .slice none 0 0, .int .i64 0, .int .i64 0, .int .i64 0, .slice none 0 0, .bool false] 32; have hgL := geOf hbx; (try replace hS4 := hS4.bel (bel1 _ (.cells #[.int .i64 0, .int .i64 0, .slice none 0 0, .slice none 0 0, .slice none 0 0, .int .i64 0, .int .i64 0, .slice none 0 0, .int .i64 0, .int .i64 0, .int .i64 0, .slice none 0 0, .bool false] 32))); (try have hal := bel1 w5 (.cells #[.int .i64 0, .int .i64 0, .slice none 0 0, .slice none 0 0, .slice none 0 0, .int .i64 0, .int .i64 0, .slice none 0 0, .int .i64 0, .int .i64 0, .int .i64 0, .slice none 0 0, .bool false] 32)); replace hbx := hbx.alloc hbx.size (.cells #[.int .i64 0, .int .i64 0, .slice none 0 0, .slice none 0 0, .slice none 0 0, .int .i64 0, .int .i64 0, .slice none 0 0, .int .i64 0, .int .i64 0, .int .i64 0, .slice none 0 0, .bool false] 32))
      refine wpAnyH_ready (rs := [2]) (by kernel_rfl) (by simp) ?_
      refine AllReadyH.cons (gA rfl) (fun K hK => ?_) AllReadyH.nil
      go_simp
      (go_at_call 57; (try have hltL := fun g hg => Blk.lt (hL g hg)); refine (HOPN.out p4 A3 c3 _ hS4 (HD3.out _ (H34.out _ hbx))).mono ?_; rintro e w5 ⟨⟨y, p', rfl, hy, hO⟩, hb5⟩; have hy2 : y1 = y := hy.symm; subst hy2; clear hy; (try replace hL := fun g hg => (hL g hg).bel hb5); replace hbx := hbx.trans (hb5.mono hbx.size); clear hb5 hS4)
      go_wp2_with fail
      refine hK.out _ _ ?_ (fun hHeld => ?_)
      · exact HSL.out _ (H34.out _ hbx)
      clear hK K
      try simp only [Act.put, List.setIfInBounds_toArray, List.set_cons_zero, List.set_cons_succ]
      refine wpAnyH_take (i := 3) (v := ?v108) (gA rfl) (by kernel_rfl) (by kernel_rfl) (by kernel_rfl) (fun _ _ _ h => h) (Or.inl ⟨rfl, ?y108⟩) (by assumption) ?_
      case y108 => (intro w hSw; (try dsimp only at hSw); go_simp <;> with_reducible rfl)
      simp only [Act.put, List.setIfInBounds_toArray, List.set_cons_zero, List.set_cons_succ]
      refine wpAnyH_take (i := 4) (v := ?v109) (gA rfl) (by kernel_rfl) (by kernel_rfl) (by kernel_rfl) (fun _ _ _ h => h) (Or.inl ⟨rfl, ?y109⟩) (by assumption) ?_
      case y109 => (intro w hSw; (try dsimp only at hSw); go_simp <;> with_reducible rfl)
      simp only [Act.put, List.setIfInBounds_toArray, List.set_cons_zero, List.set_cons_succ]
      refine wpAnyH_take (i := 5) (v := ?v110) (gA rfl) (by kernel_rfl) (by kernel_rfl) (by kernel_rfl) (fun _ _ _ h => h) (Or.inl ⟨rfl, ?y110⟩) (by assumption) ?_
      case y110 => (intro w hSw; (try dsimp only at hSw); go_simp <;> with_reducible rfl)
      simp only [Act.put, List.setIfInBounds_toArray, List.set_cons_zero, List.set_cons_succ]
      refine wpAnyH_ready (rs := [7]) (by kernel_rfl) (by simp) (AllReadyH.cons (gA rfl) (fun K hK => ?_) AllReadyH.nil)
      (refine wp_store_row 32 (.tmp 12) (.tmp 52) rfl _ (saiA y1 p') rfl rfl 32 _ (hL _ (by simp)) (by kernel_rfl) rfl (by simp [Value.oneCell']) ?_)
      refine hK.out _ _ ?_ (fun hHeld => ?_)
      · exact HSL.out _ (H34.out _ (below_setRow hbx (hgL _ (by simp)) _))
      clear hK K
      try simp only [Act.put, List.setIfInBounds_toArray, List.set_cons_zero, List.set_cons_succ]
      refine wpAnyH_take (i := 8) (v := ?v112) (gA rfl) (by kernel_rfl) (by kernel_rfl) (by kernel_rfl) (fun _ _ _ h => h) (Or.inl ⟨rfl, ?y112⟩) (by assumption) ?_
      case y112 => (intro w hSw; (try dsimp only at hSw); go_simp <;> with_reducible rfl)
      simp only [Act.put, List.setIfInBounds_toArray, List.set_cons_zero, List.set_cons_succ]
      refine wpAnyH_done (by kernel_rfl) ?_ _
      go_wp2_with fail
      go_meet
      refine ⟨rfl, ⟨_, y1, p', rfl, (hL _ (by simp)).row _, rfl, ?_⟩, below_setRow hbx (hgL _ (by simp)) _⟩
      first | exact hO.sai.bel (below_setRow hal (Nat.le_refl _) _) | exact (hO.kept ((Kept.refl (fun k => k = _) w5).setRow (.inl rfl) _) (fun k hk e => by have := hltL _ rfl; have h2 : V4.drew.heap.size = V4.heap.size := rfl; omega)).sai
    go_simp
    (go_at_call 57; (try have hltL := fun g hg => Blk.lt (hL g hg)); refine (HOPN.out p4 A3 c3 _ hS4 (HD3.out _ (H34.out _ hbx))).mono ?_; rintro e w5 ⟨⟨y, p', rfl, hy, hO⟩, hb5⟩; have hy2 : y1 = y := hy.symm; subst hy2; clear hy; (try replace hL := fun g hg => (hL g hg).bel hb5); replace hbx := hbx.trans (hb5.mono hbx.size); clear hb5 hS4)
    go_wp2_with fail
    refine hK.out _ _ ?_ (fun hHeld => ?_)
    · exact HSL.out _ (H34.out _ hbx)
    clear hK K
    try simp only [Act.put, List.setIfInBounds_toArray, List.set_cons_zero, List.set_cons_succ]
    refine wpAnyH_take (i := 3) (v := ?v113) (gA rfl) (by kernel_rfl) (by kernel_rfl) (by kernel_rfl) (fun _ _ _ h => h) (Or.inl ⟨rfl, ?y113⟩) (by assumption) ?_
    case y113 => (intro w hSw; (try dsimp only at hSw); go_simp <;> with_reducible rfl)
    simp only [Act.put, List.setIfInBounds_toArray, List.set_cons_zero, List.set_cons_succ]
    refine wpAnyH_take (i := 4) (v := ?v114) (gA rfl) (by kernel_rfl) (by kernel_rfl) (by kernel_rfl) (fun _ _ _ h => h) (Or.inl ⟨rfl, ?y114⟩) (by assumption) ?_
    case y114 => (intro w hSw; (try dsimp only at hSw); go_simp <;> with_reducible rfl)
    simp only [Act.put, List.setIfInBounds_toArray, List.set_cons_zero, List.set_cons_succ]
    refine wpAnyH_take (i := 5) (v := ?v115) (gA rfl) (by kernel_rfl) (by kernel_rfl) (by kernel_rfl) (fun _ _ _ h => h) (Or.inl ⟨rfl, ?y115⟩) (by assumption) ?_
    case y115 => (intro w hSw; (try dsimp only at hSw); go_simp <;> with_reducible rfl)
    simp only [Act.put, List.setIfInBounds_toArray, List.set_cons_zero, List.set_cons_succ]
    refine wpAnyH_ready (rs := [6]) (by kernel_rfl) (by simp) ?_
    refine AllReadyH.cons (gA rfl) (fun K hK => ?_) AllReadyH.nil
    go_simp
    refine hK.out _ _ ?_ (fun hHeld => ?_)
    · exact HSL.out _ (H34.out _ (hbx.alloc hbx.size (.cells #[.int .i64 0, .int .i64 0, .slice none 0 0, .slice none 0 0, .slice none 0 0, .int .i64 0, .int .i64 0, .slice none 0 0, .int .i64 0, .int .i64 0, .int .i64 0, .slice none 0 0, .bool false] 32)))
    clear hK K
    try simp only [Act.put, List.setIfInBounds_toArray, List.set_cons_zero, List.set_cons_succ]
    (have hL := freshG hbx #[.int .i64 0, .int .i64 0, .slice none 0 0, .slice none 0 0, .slice none 0 0, .int .i64 0, .int .i64 0, .slice none 0 0, .int .i64 0, .int .i64 0, .int .i64 0, .slice none 0 0, .bool false] 32; have hgL := geOf hbx; (try replace hS4 := hS4.bel (bel1 _ (.cells #[.int .i64 0, .int .i64 0, .slice none 0 0, .slice none 0 0, .slice none 0 0, .int .i64 0, .int .i64 0, .slice none 0 0, .int .i64 0, .int .i64 0, .int .i64 0, .slice none 0 0, .bool false] 32))); (try have hal := bel1 w5 (.cells #[.int .i64 0, .int .i64 0, .slice none 0 0, .slice none 0 0, .slice none 0 0, .int .i64 0, .int .i64 0, .slice none 0 0, .int .i64 0, .int .i64 0, .int .i64 0, .slice none 0 0, .bool false] 32)); replace hbx := hbx.alloc hbx.size (.cells #[.int .i64 0, .int .i64 0, .slice none 0 0, .slice none 0 0, .slice none 0 0, .int .i64 0, .int .i64 0, .slice none 0 0, .int .i64 0, .int .i64 0, .int .i64 0, .slice none 0 0, .bool false] 32))
    refine wpAnyH_ready (rs := [7]) (by kernel_rfl) (by simp) (AllReadyH.cons (gA rfl) (fun K hK => ?_) AllReadyH.nil)
    (refine wp_store_row 32 (.tmp 12) (.tmp 52) rfl _ (saiA y1 p') rfl rfl 32 _ (hL _ (by simp)) (by kernel_rfl) rfl (by simp [Value.oneCell']) ?_)
    refine hK.out _ _ ?_ (fun hHeld => ?_)
    · exact HSL.out _ (H34.out _ (below_setRow hbx (hgL _ (by simp)) _))
    clear hK K
    try simp only [Act.put, List.setIfInBounds_toArray, List.set_cons_zero, List.set_cons_succ]
    refine wpAnyH_take (i := 8) (v := ?v117) (gA rfl) (by kernel_rfl) (by kernel_rfl) (by kernel_rfl) (fun _ _ _ h => h) (Or.inl ⟨rfl, ?y117⟩) (by assumption) ?_
    case y117 => (intro w hSw; (try dsimp only at hSw); go_simp <;> with_reducible rfl)
    simp only [Act.put, List.setIfInBounds_toArray, List.set_cons_zero, List.set_cons_succ]
    refine wpAnyH_done (by kernel_rfl) ?_ _
    go_wp2_with fail
    go_meet
    refine ⟨rfl, ⟨_, y1, p', rfl, (hL _ (by simp)).row _, rfl, ?_⟩, below_setRow hbx (hgL _ (by simp)) _⟩
    first | exact hO.sai.bel (below_setRow hal (Nat.le_refl _) _) | exact (hO.kept ((Kept.refl (fun k => k = _) w5).setRow (.inl rfl) _) (fun k hk e => by have := hltL _ rfl; have h2 : V4.drew.heap.size = V4.heap.size := rfl; omega)).sai
  obtain ⟨rfl, ⟨s5, y5, p5, rfl, hZ5, hy5, hS5⟩, hb5⟩ := hcut
  obtain ⟨V5, hV5⟩ : ∃ V, V = wc := ⟨_, rfl⟩
  subst hV5
  have hy6 : y1 = y5 := hy5.symm
  subst hy6
  have HZ5 := Lib.hid (fun X (hX : Below V5.heap.size V5 X) => hZ5.bel hX)
  have HS5 := Lib.hid (fun X (hX : Below V5.heap.size V5 X) => hS5.bel hX)
  have H45 := Lib.hid (fun X (hX : Below V5.heap.size V5 X) => hb5.trans (hX.mono hb5.size))
  clear hZ5 hS5 hb5 hy5 HOPN HSL
  go_upto_region 6 with (fail)
  go_cut [14, 15] (fun q e wx => e = .int .i64 0 ∧ (∃ s A c, q = .pointer (some ⟨s, 0, none⟩) ∧ Blk wx s #[.slice A 1 c, .int .i64 1] 83 ∧ Sl donC 13 wx All A 1 c [don1]) ∧ Below V5.heap.size V5 wx)
  case first =>
    have hx3 := H34.out _ (H45.out _ (Below.refl _ _))
    have HC := Lib.hid (HCRA.out A3 c3 V5 (HD3.out _ hx3))
    have hz := HZ3.out _ hx3
    clear HZ1 HS1X HA1 HB1 HB3 HA3 HA4 HD3 HCRA HZ3 HZ5 HS5 H45 H34 hx3
    go_wp2_with (refine wpList_load_row rfl 83 (.tmp 6) rfl s3 rfl 83 _ (0, 0) _ hz Tryz.underlying83 rfl (by kernel_rfl) ?_)
    refine HC.out.mono ?_
    rintro e w8 ⟨⟨v, xs, he, hO⟩, hb8⟩
    rw [okI_zero] at he
    rw [okL_zero] at hO
    obtain ⟨A, n, c, rfl, hs⟩ := hO.sl donC_good
    obtain rfl : 1 = n := hs.len
    have HD8 := Lib.hid (hs.all donC_good (by omega))
    have HB8 := Lib.hid hb8
    subst he
    clear hO hs hb8 HC hz
    go_wp2_with (refine wpList_store_row rfl 83 (.tmp 14) (.tmp 57) rfl w8.heap.size #[.slice A 1 c, .int .i64 1] rfl rfl 83 _ (Blk.new w8 #[.slice none 0 0, .int .i64 0] 83) (by kernel_rfl) rfl (by simp [Value.oneCell']) ?_)
    go_meet
    have hbe : Below w8.heap.size w8 ((w8.alloc (.cells #[.slice none 0 0, .int .i64 0] 83)).setRow w8.heap.size #[.slice A 1 c, .int .i64 1]) := below_setRow (bel1 w8 _) (Nat.le_refl _) _
    exact ⟨rfl, ⟨_, A, c, rfl, (Blk.new w8 _ _).row _, HD8.out.bel hbe⟩, HB8.out.trans (hbe.mono HB8.out.size)⟩
  obtain ⟨rfl, ⟨s6, A6, c6, rfl, hZ6, hD6⟩, hb6⟩ := hcut
  obtain ⟨V6, hV6⟩ : ∃ V, V = wc := ⟨_, rfl⟩
  subst hV6
  have hx4 := H45.out _ hb6
  have hx3 := H34.out _ hx4
  have hx0 := HB3.out _ hx3
  have hA1 := HA1.out _ hx0
  have hA3 := HA3.out _ hx3
  have hA4 := HA4.out _ hx4
  have hZ3 := HZ3.out _ hx3
  have r10 : V6.cell? ⟨a1, 0, none⟩ = some (.int .i64 0) := hA1.cell rfl
  have r11 : V6.cell? ⟨a1, 1, none⟩ = some (.int .i64 800) := hA1.cell rfl
  have r30 : V6.cell? ⟨a3, 0, none⟩ = some (.int .i64 0) := hA3.cell rfl
  have r31 : V6.cell? ⟨a3, 1, none⟩ = some (.int .i64 800) := hA3.cell rfl
  have r40 : V6.cell? ⟨a4, 0, none⟩ = some (.int .i64 0) := hA4.cell rfl
  have r41 : V6.cell? ⟨a4, 1, none⟩ = some (.int .i64 800) := hA4.cell rfl
  have l30 : V6.cell? ⟨s3, 0, none⟩ = some (.slice A3 1 c3) := hZ3.cell rfl
  have l31 : V6.cell? ⟨s3, 1, none⟩ = some (.int .i64 1) := hZ3.cell rfl
  have l60 : V6.cell? ⟨s6, 0, none⟩ = some (.slice A6 1 c6) := hZ6.cell rfl
  have l61 : V6.cell? ⟨s6, 1, none⟩ = some (.int .i64 1) := hZ6.cell rfl
  obtain ⟨f0, f1, f2, f3, f4, f5, f6, f7, f8, f9, f10, f11, f12⟩ := saiCells (HZ5.out _ hb6)
  obtain ⟨g0, g1, g2, g3, g4, g5, g6, g7, g8, g9, g10, g11, g12⟩ := saiCells (HZ1.out _ hx0)
  have haq : ∀ W : World, (binOp .eql 95 (.agg #[.int .i64 0, .int .i64 800]) (.agg #[.int .i64 0, .int .i64 800])).run Tryz.prog W = .ok (.bool true) W := fun W => (ans_eq ans1 ans1 W).trans (by rw [decide_eq_true rfl])
  have HC1 := Lib.hid (SameSailing_any y1 p5 p1 V6 (HS5.out _ hb6) (HS1X.out _ hx0))
  have HC2 := Lib.hid (fun V (hV : Below V6.heap.size V6 V) => SameLog_any A6 A3 1 c6 1 c3 [don1] [don1] 1 1 V (hD6.bel hV) ((HD3.out _ hx3).bel hV))
  have HZ3' := Lib.hid hZ3
  have HZ6' := Lib.hid hZ6
  have HBE := Lib.hid (HB1.out.trans (hx0.mono HB1.out.size))
  clear hx4 hx3 hx0 hA1 hA3 hA4 hZ3 hZ6 hD6 hb6 HA1 HA3 HA4 HZ3 HZ1 HZ5 HS5 HS1X HD3 H34 H45 HB3 HCRA HB1
  go_wp2_with fail
  refine HC1.out.mono ?_
  rintro e w7 ⟨rfl, hb7⟩
  have HC3 := Lib.hid (HC2.out _ hb7)
  have k30 : w7.cell? ⟨s3, 0, none⟩ = some (.slice A3 1 c3) := (HZ3'.out.bel hb7).cell rfl
  have k31 : w7.cell? ⟨s3, 1, none⟩ = some (.int .i64 1) := (HZ3'.out.bel hb7).cell rfl
  have k60 : w7.cell? ⟨s6, 0, none⟩ = some (.slice A6 1 c6) := (HZ6'.out.bel hb7).cell rfl
  have k61 : w7.cell? ⟨s6, 1, none⟩ = some (.int .i64 1) := (HZ6'.out.bel hb7).cell rfl
  have HB7 := Lib.hid (HBE.out.trans (hb7.mono HBE.out.size))
  clear hb7 HC1 HC2 f0 f1 f2 f3 f4 f5 f6 f7 f8 f9 f10 f11 f12 g0 g1 g2 g3 g4 g5 g6 g7 g8 g9 g10 g11 g12 r10 r11 r30 r31 r40 r41 l30 l31 l60 l61 haq
  go_wp2_with fail
  refine HC3.out.mono ?_
  rintro e w8 ⟨rfl, hb8⟩
  have HB8 := Lib.hid (HB7.out.trans (hb8.mono HB7.out.size))
  have hd : decide ((1 : Int) = 1 ∧ [don1] = [don1]) = true := decide_eq_true ⟨rfl, rfl⟩
  clear hb8 HC3
  go_wp2_with fail
  go_ret
  exact ⟨by first | rfl | simp [hd], HB8.out⟩
end Go.Proofs.YtoilcdgpeilgaaaGreat
