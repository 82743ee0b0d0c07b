/-
  Words, laws and contracts: DeskK, DeskL.
-/
import Derived.Test.YtoilcdgpeilgaaaGreatBun29
import Derived.BigQuiet
import Derived.KernelRfl
set_option linter.unusedSimpArgs false
set_option linter.unusedVariables false
namespace Go.Proofs.YtoilcdgpeilgaaaGreat
open Go.RowKit Go.Shelf
def StR (w' : World) (base : Nat) (E : Int) (L : List Don) (wr : Int) (N : Ans) (e : Ending) : Prop := ∃ v xs an, e = .returned (.tuple #[.agg #[v, .int .i64 (okI E wr)], .agg (ansA an), .int .i64 E]) ∧ an = okA E N ∧ Own donC 13 128 w' base v (okL E L) xs
noncomputable def stepS (mk : Mk) (X : Sai) (l : List Don) (wr : Int) (q : Ask × Int) : List Don × Int × Ans × Int :=
  if q.2 ≠ 0 then (l, wr, ⟨q.2, 0⟩, 0) else if l.any (sameNo q.1) = true then
    (if (l.getD (idxF (sameNo q.1) l).toNat default).ask = q.1 then (l, wr, (l.getD (idxF (sameNo q.1) l).toNat default).ans, 0) else (l, wr, ⟨6, 0⟩, 0))
  else if l.length = 30 then ([], 0, ⟨0, 0⟩, 2) else (l ++ [⟨q.1, doA mk X q.1⟩], (l.length : Int) + 1, doA mk X q.1, 0)
noncomputable def stepV (mk : Mk) (x : Sai) (l : List Don) (wr : Int) (s : List UInt8) : List Don × Int × Ans × Int :=
  if openE mk x l wr ≠ 0 then ([], 0, ⟨0, 0⟩, openE mk x l wr) else stepS mk (openX mk x l) l wr (decV s)
theorem sl_don (w : World) (S : Nat → Prop) (d : Don) (t : TypeId) (h : DonIn d) (hS : S w.heap.size) : Sl donC 13 (w.alloc (.cells (donA d) t)) S (some ⟨w.heap.size, 0, none⟩) 1 1 [d] :=
  Sl.lit1 w S t d (donA d).toList ⟨rfl, h⟩ hS
set_option maxRecDepth 100000 in
set_option maxHeartbeats 4000000 in
theorem Step_any {P : Sai → Ask → Prop} {mk : Mk} (HM : MadeC P mk) (HR : RightC P mk) (x : Sai) (p : SaiV) (A : Option Addr) (n cap : Nat) (l : List Don) (wr : Int) (s : List UInt8) (w : World) (hS : SaiR w x p) (hl : Sl donC 13 w All A n cap l)
    (hP : ∀ y, saiE y = 0 → ∀ d ∈ l, codeE d.ask = 0 → P y d.ask) (hP2 : ∀ y, saiE y = 0 → (decV s).2 = 0 → P y (decV s).1) (hai : (decV s).2 = 0 → AskIn (decV s).1) (ha : ∀ y, saiE y = 0 → (decV s).2 = 0 → InI (doA mk y (decV s).1).errno ∧ InI (doA mk y (decV s).1).owed) :
    Calls Tryz.prog 77 #[.agg (saiA x p), .agg #[.slice A n cap, .int .i64 wr], .string ⟨s.toArray⟩] w fun e w' => StR w' w.heap.size (stepV mk x l wr s).2.2.2 (stepV mk x l wr s).1 (stepV mk x l wr s).2.1 (stepV mk x l wr s).2.2.1 e ∧ Below w.heap.size w w' := by
  have HOP := Lib.hid (fun X h1 h2 => deskOpen_any HM HR x p A n cap l wr X h1 h2 hP)
  have HDE := Lib.hid (fun X => Decode_any s X)
  obtain ⟨R, hR⟩ : ∃ r, r = openE mk x l wr := ⟨_, rfl⟩
  obtain ⟨X, hX⟩ : ∃ r, r = openX mk x l := ⟨_, rfl⟩
  obtain ⟨V, hV⟩ : ∃ r, r = stepV mk x l wr s := ⟨_, rfl⟩
  obtain ⟨Q, hQ⟩ : ∃ r, r = decV s := ⟨_, rfl⟩
  have HV := Lib.hid (show V = if R ≠ 0 then ([], 0, ⟨0, 0⟩, R) else stepS mk X l wr Q by rw [hV, hR, hX, hQ]; rfl)
  have HN30 := Lib.hid (show R = 0 → n ≤ 30 from fun h => by
    rw [hR] at h
    unfold openE at h
    rw [← hl.len]
    by_cases h1 : saiE x ≠ 0
    · rw [if_pos h1] at h; exact absurd h h1
    rw [if_neg h1] at h
    by_cases h2 : 30 < l.length
    · rw [if_pos h2] at h; omega
    · omega)
  rw [← hR, ← hX] at HOP
  rw [← hQ] at HDE hP2 hai ha
  rw [← hV]
  have HS := Lib.hid hS
  have HL := Lib.hid hl
  clear hR hX hV hQ hS hl
  obtain ⟨AA, nn, capp, B, m, cap2, D, nd, cd, E, ne, ce, C, nb, cb⟩ := p
  go_enter Tryz.func77, Tryz.ntmps77
  go_upto_region 0 with (fail)
  go_cut [3, 4, 6, 7, 8] (fun p p2 p3 p4 p5 wx => ∃ g h z q, p = .pointer (some ⟨g, 0, none⟩) ∧ p2 = .pointer (some ⟨h, 0, none⟩) ∧ p3 = .pointer (some ⟨z, 0, none⟩) ∧ p4 = .pointer (some ⟨q, 0, none⟩) ∧ p5 = .int .i64 0 ∧ w.heap.size ≤ z ∧ w.heap.size ≤ q ∧ z ≠ q ∧
    Blk wx g (saiA x ⟨AA, nn, capp, B, m, cap2, D, nd, cd, E, ne, ce, C, nb, cb⟩) 32 ∧ Blk wx h #[.slice A n cap, .int .i64 wr] 83 ∧ Blk wx z #[.slice none 0 0, .int .i64 0] 83 ∧ Blk wx q #[.int .i64 0, .int .i64 0] 95 ∧ Below w.heap.size w wx)
  case first =>
    clear HOP HDE HV HS HL HN30
    go_wp2_with fail
    go_meet
    exact ⟨_, _, _, _, rfl, rfl, rfl, rfl, rfl, by omega, by omega, by omega, ((Blk.new w _ _).old _).old _ |>.old _, ((Blk.new1 w _ _ _).old _).old _, (Blk.new2 w _ _ _ _).old _, Blk.new3 w _ _ _ _ _, (bel3 _ _ _ _).alloc (by simp; omega) _⟩
  obtain ⟨g, h, z, q, rfl, rfl, rfl, rfl, rfl, hz, hq, hzq, hG, hH, hZ, hQ, hb0⟩ := hcut
  obtain ⟨W1, hW1⟩ : ∃ V, V = wc := ⟨_, rfl⟩
  subst hW1
  have HT := Lib.hid (fun X (hX : Below W1.heap.size W1 X) => hb0.trans (hX.mono hb0.size))
  have HG := Lib.hid (fun X (hX : Below W1.heap.size W1 X) => hG.bel hX)
  have HH := Lib.hid (fun X (hX : Below W1.heap.size W1 X) => hH.bel hX)
  have HZ := Lib.hid (fun X (hX : Below W1.heap.size W1 X) => hZ.bel hX)
  have HQ := Lib.hid (fun X (hX : Below W1.heap.size W1 X) => hQ.bel hX)
  have HLX := Lib.hid (fun X (hX : Below W1.heap.size W1 X) => HL.out.bel (HT.out X hX))
  have hzl := hZ.lt
  have hql := hQ.lt
  have hs0 := hb0.size
  have HBZ := Lib.hid (show ∀ V u u2, Below W1.heap.size W1 V → Below w.heap.size w ((V.setRow z u).setRow q u2) from fun V u u2 hX =>
    ((HT.out V hX).trans ((((Kept.refl (fun k => k = z ∨ k = q) V).setRow (.inl (.inl rfl)) u).setRow (.inl (.inr rfl)) u2).below (B := w.heap.size) (HT.out V hX).size (fun k hk e => by omega))))
  have HEND := Lib.hid (show ∀ (E' : Int) V L wr' N, ¬ E' = 0 → Below W1.heap.size W1 V → StR ((V.setRow z #[.slice none 0 0, .int .i64 0]).setRow q #[.int .i64 0, .int .i64 0]) w.heap.size E' L wr' N (.returned (.tuple #[.agg #[.slice none 0 0, .int .i64 0], .agg #[.int .i64 0, .int .i64 0], .int .i64 E'])) ∧ Below w.heap.size w ((V.setRow z #[.slice none 0 0, .int .i64 0]).setRow q #[.int .i64 0, .int .i64 0]) from fun E' V L wr' N h0 hX =>
    ⟨⟨.slice none 0 0, [], ⟨0, 0⟩, by rw [okI_ne h0], (okA_ne h0 _).symm, by rw [okL_ne h0]; exact Own.nil _ _ _ _ _⟩, HBZ.out V _ _ hX⟩)
  have HC := Lib.hid (HOP.out _ (HS.out.bel hb0) (HL.out.bel hb0))
  have hb : Below W1.heap.size W1 W1 := Below.refl _ _
  clear hG hH hZ hQ hb0 HOP HS
  go_wp2_with (first | (refine wpList_load_row rfl 32 (.tmp 3) rfl g rfl 32 _ (0, 0) _ (HG.out _ hb) Tryz.underlying32 rfl (by kernel_rfl) ?_) | (refine wpList_load_row rfl 83 (.tmp 4) rfl h rfl 83 _ (0, 0) _ (HH.out _ hb) Tryz.underlying83 rfl (by kernel_rfl) ?_))
  refine HC.out.mono ?_
  rintro e w2 ⟨hop, hb2⟩
  replace hb := hb.trans (hb2.mono hb.size)
  have hs2 := hb2.size
  clear HC hb2
  rcases hop with ⟨ck, p5, rfl, rfl, hck, hG5, hO5, hok⟩ | ⟨h0, rfl⟩
  rotate_left
  · have h0' : (R != 0) = true := by simpa using h0
    have hV1 := HV.out.trans (if_pos h0)
    have HV1 := Lib.hid hV1
    have H0 := Lib.hid h0
    clear h0 hV1
    have hz6 := HZ.out _ hb
    have hq6 := HQ.out _ hb
    have hq7 := rowB2 hq6 (Ne.symm hzq) #[.slice none 0 0, .int .i64 0]
    have hz8 := rowB2 (hz6.row #[.slice none 0 0, .int .i64 0]) hzq #[.int .i64 0, .int .i64 0]
    go_wp2_with (first | (refine wpList_store_row rfl 83 (.tmp 6) (.tmp 23) rfl z #[.slice none 0 0, .int .i64 0] rfl rfl 83 _ hz6 (by kernel_rfl) rfl (by simp [Value.oneCell']) ?_) | (refine wpList_store_row rfl 95 (.tmp 7) (.tmp 24) rfl q #[.int .i64 0, .int .i64 0] rfl rfl 95 _ hq7 (by kernel_rfl) rfl (by simp [Value.oneCell']) ?_))
    refine bodyPost_ret (v := .tuple #[.agg #[.slice none 0 0, .int .i64 0], .agg #[.int .i64 0, .int .i64 0], .int .i64 R]) (Blk.ret22 (k := 6) (l := 7) (u := 8) (by kernel_rfl) hz8 (hq7.row #[.int .i64 0, .int .i64 0]) rfl rfl rfl Tryz.underlying83 (by kernel_rfl) (by kernel_rfl) Tryz.underlying95 (by kernel_rfl) (by kernel_rfl)) rfl ?_
    rw [HV1.out]
    exact HEND.out _ _ _ _ _ H0.out hb
  have HV1 := Lib.hid (HV.out.trans (if_neg (by simp)))
  have HN := Lib.hid (HN30.out rfl)
  clear HV HN30
  have hckl := hG5.lt
  have HG5 := Lib.hid hG5
  clear hG5
  have HO5 := Lib.hid hO5
  clear hO5
  have HOK := Lib.hid hok
  clear hok
  have HB2 := Lib.hid hb
  clear hb
  go_upto_region 4 with (fail)
  go_cut [11] (fun p wx => ∃ o v xs, p = .pointer (some ⟨o, 0, none⟩) ∧ w2.heap.size ≤ o ∧ Blk wx o #[v, .int .i64 wr] 83 ∧ Own donC 13 128 wx w2.heap.size v l xs ∧ some o ≠ v.ownBlock ∧ Below w2.heap.size w2 wx)
  case first =>
    have hbx : Below w2.heap.size w2 w2.drew := (Below.refl _ w2).drew
    have HSS := Lib.hid (show ∀ X, Below w2.heap.size w2 X → (fun w' => w'.cell? ⟨h, 0, none⟩ = some (.slice A n cap) ∧ w'.cell? ⟨h, 1, none⟩ = some (.int .i64 wr)) X from fun X hX => by
      have hh := (HH.out _ (HB2.out.trans (hX.mono HB2.out.size)))
      exact ⟨hh.cell rfl, hh.cell rfl⟩)
    have HCL := Lib.hid (fun X (hX : Below w2.heap.size w2 X) => Clone_don A n cap l X (HLX.out _ (HB2.out.trans (hX.mono HB2.out.size))) (by have := HN.out; omega))
    clear HT HG HH HZ HQ HLX HBZ HEND HV1 HN HG5 HO5 HOK HB2
    refine wp_region_held_drew (S := (fun w' => w'.cell? ⟨h, 0, none⟩ = some (.slice A n cap) ∧ w'.cell? ⟨h, 1, none⟩ = some (.int .i64 wr))) (by kernel_rfl) (HSS.out _ hbx) (fun hHeld => ?_)
    refine wpAnyH_take (i := 0) (v := ?v5) (gA rfl) (by kernel_rfl) (by kernel_rfl) (by kernel_rfl) (fun _ _ _ h => h) (Or.inl ⟨rfl, ?y5⟩) (by assumption) ?_
    case y5 => (intro w hSw; (try dsimp only at hSw); go_simp <;> with_reducible rfl)
    simp only [Act.put, List.setIfInBounds_toArray, List.set_cons_zero, List.set_cons_succ]
    refine wpAnyH_take (i := 1) (v := ?v6) (gA rfl) (by kernel_rfl) (by kernel_rfl) (by kernel_rfl) (fun _ _ _ h => h) (Or.inl ⟨rfl, ?y6⟩) (by assumption) ?_
    case y6 => (intro w hSw; (try dsimp only at hSw); go_simp <;> with_reducible rfl)
    simp only [Act.put, List.setIfInBounds_toArray, List.set_cons_zero, List.set_cons_succ]
    refine wpAnyH_take (i := 3) (v := ?v7) (gA rfl) (by kernel_rfl) (by kernel_rfl) (by kernel_rfl) (fun _ _ _ h => h) (Or.inl ⟨rfl, ?y7⟩) (by assumption) ?_
    case y7 => (intro w hSw; (try dsimp only at hSw); go_simp <;> with_reducible rfl)
    simp only [Act.put, List.setIfInBounds_toArray, List.set_cons_zero, List.set_cons_succ]
    refine wpAnyH_take (i := 4) (v := ?v8) (gA rfl) (by kernel_rfl) (by kernel_rfl) (by kernel_rfl) (fun _ _ _ h => h) (Or.inl ⟨rfl, ?y8⟩) (by assumption) ?_
    case y8 => (intro w hSw; (try dsimp only at hSw); go_simp <;> with_reducible rfl)
    simp only [Act.put, List.setIfInBounds_toArray, List.set_cons_zero, List.set_cons_succ]
    refine wpAnyH_ready (rs := [2, 6]) (by kernel_rfl) (by simp) ?_
    refine AllReadyH.cons (gA rfl) (fun K hK => ?_) ?m_1
    case m_1 =>
      refine AllReadyH.cons (gA rfl) (fun K hK => ?_) AllReadyH.nil
      go_simp
      refine hK.out _ _ ?_ (fun hHeld => ?_)
      · exact HSS.out _ (hbx.alloc hbx.size (.cells #[.slice none 0 0, .int .i64 0] 83))
      clear hK K
      try simp only [Act.put, List.setIfInBounds_toArray, List.set_cons_zero, List.set_cons_succ]
      (have hL := freshG hbx #[.slice none 0 0, .int .i64 0] 83; have hge := geOf hbx; replace hbx := hbx.alloc hbx.size (.cells #[.slice none 0 0, .int .i64 0] 83))
      refine wpAnyH_ready (rs := [2]) (by kernel_rfl) (by simp) ?_
      refine AllReadyH.cons (gA rfl) (fun K hK => ?_) AllReadyH.nil
      go_simp
      (go_at_call 136; refine (HCL.out _ hbx).mono ?_; rintro e w6 ⟨v, xs, rfl, hO, hb6⟩; obtain ⟨A5, n5, c5, rfl, -⟩ := hO.sl donC_good; (try replace hL := fun g hg => (hL g hg).bel hb6); have hs6 := hbx.size; replace hbx := hbx.trans (hb6.mono hbx.size); clear hb6)
      go_wp2_with fail
      refine hK.out _ _ ?_ (fun hHeld => ?_)
      · exact HSS.out _ hbx
      clear hK K
      try simp only [Act.put, List.setIfInBounds_toArray, List.set_cons_zero, List.set_cons_succ]
      refine wpAnyH_take (i := 5) (v := ?v9) (gA rfl) (by kernel_rfl) (by kernel_rfl) (by kernel_rfl) (fun _ _ _ h => h) (Or.inl ⟨rfl, ?y9⟩) (by assumption) ?_
      case y9 => (intro w hSw; (try dsimp only at hSw); go_simp <;> with_reducible rfl)
      simp only [Act.put, List.setIfInBounds_toArray, List.set_cons_zero, List.set_cons_succ]
      refine wpAnyH_ready (rs := [7]) (by kernel_rfl) (by simp) (AllReadyH.cons (gA rfl) (fun K hK => ?_) AllReadyH.nil)
      (refine wp_store_row 83 (.tmp 11) (.tmp 31) rfl _ #[.slice A5 n5 c5, .int .i64 wr] rfl rfl 83 _ (hL _ (by simp)) (by kernel_rfl) rfl (by simp [Value.oneCell']) ?_)
      refine hK.out _ _ ?_ (fun hHeld => ?_)
      · exact HSS.out _ (below_setRow hbx (hge _ (by simp)) _)
      clear hK K
      try simp only [Act.put, List.setIfInBounds_toArray, List.set_cons_zero, List.set_cons_succ]
      refine wpAnyH_done (by kernel_rfl) ?_ _
      go_wp2_with fail
      go_meet
      refine ⟨_, _, xs, rfl, hge _ (by simp), (hL _ (by simp)).row _, ?_, ?_, below_setRow hbx (hge _ (by simp)) _⟩
      · first
          | exact (hO.keepB donC_flat (fun j hj => ((Kept.refl (fun k => k = w2.heap.size) w6).setRow (.inl rfl) _).block j (hO.lt j hj).2 (by have := (hO.lt j hj).1; simp at this; omega))).mono donC_good (by simp)
          | exact (hO.keepB donC_flat (fun j hj => (((Kept.refl (fun k => k = w6.heap.size) w6).alloc _).setRow (.inl rfl) _).block j (hO.lt j hj).2 (by have := (hO.lt j hj).2; omega))).mono donC_good (by simp)
      · intro hj
        have := hO.lt _ hj.symm
        simp at this
        try omega
    go_simp
    (go_at_call 136; refine (HCL.out _ hbx).mono ?_; rintro e w6 ⟨v, xs, rfl, hO, hb6⟩; obtain ⟨A5, n5, c5, rfl, -⟩ := hO.sl donC_good; (try replace hL := fun g hg => (hL g hg).bel hb6); have hs6 := hbx.size; replace hbx := hbx.trans (hb6.mono hbx.size); clear hb6)
    go_wp2_with fail
    refine hK.out _ _ ?_ (fun hHeld => ?_)
    · exact HSS.out _ hbx
    clear hK K
    try simp only [Act.put, List.setIfInBounds_toArray, List.set_cons_zero, List.set_cons_succ]
    refine wpAnyH_take (i := 5) (v := ?v11) (gA rfl) (by kernel_rfl) (by kernel_rfl) (by kernel_rfl) (fun _ _ _ h => h) (Or.inl ⟨rfl, ?y11⟩) (by assumption) ?_
    case y11 => (intro w hSw; (try dsimp only at hSw); go_simp <;> with_reducible rfl)
    simp only [Act.put, List.setIfInBounds_toArray, List.set_cons_zero, List.set_cons_succ]
    refine wpAnyH_ready (rs := [6]) (by kernel_rfl) (by simp) ?_
    refine AllReadyH.cons (gA rfl) (fun K hK => ?_) AllReadyH.nil
    go_simp
    refine hK.out _ _ ?_ (fun hHeld => ?_)
    · exact HSS.out _ (hbx.alloc hbx.size (.cells #[.slice none 0 0, .int .i64 0] 83))
    clear hK K
    try simp only [Act.put, List.setIfInBounds_toArray, List.set_cons_zero, List.set_cons_succ]
    (have hL := freshG hbx #[.slice none 0 0, .int .i64 0] 83; have hge := geOf hbx; replace hbx := hbx.alloc hbx.size (.cells #[.slice none 0 0, .int .i64 0] 83))
    refine wpAnyH_ready (rs := [7]) (by kernel_rfl) (by simp) (AllReadyH.cons (gA rfl) (fun K hK => ?_) AllReadyH.nil)
    (refine wp_store_row 83 (.tmp 11) (.tmp 31) rfl _ #[.slice A5 n5 c5, .int .i64 wr] rfl rfl 83 _ (hL _ (by simp)) (by kernel_rfl) rfl (by simp [Value.oneCell']) ?_)
    refine hK.out _ _ ?_ (fun hHeld => ?_)
    · exact HSS.out _ (below_setRow hbx (hge _ (by simp)) _)
    clear hK K
    try simp only [Act.put, List.setIfInBounds_toArray, List.set_cons_zero, List.set_cons_succ]
    refine wpAnyH_done (by kernel_rfl) ?_ _
    go_wp2_with fail
    go_meet
    refine ⟨_, _, xs, rfl, hge _ (by simp), (hL _ (by simp)).row _, ?_, ?_, below_setRow hbx (hge _ (by simp)) _⟩
    · first
        | exact (hO.keepB donC_flat (fun j hj => ((Kept.refl (fun k => k = w2.heap.size) w6).setRow (.inl rfl) _).block j (hO.lt j hj).2 (by have := (hO.lt j hj).1; simp at this; omega))).mono donC_good (by simp)
        | exact (hO.keepB donC_flat (fun j hj => (((Kept.refl (fun k => k = w6.heap.size) w6).alloc _).setRow (.inl rfl) _).block j (hO.lt j hj).2 (by have := (hO.lt j hj).2; omega))).mono donC_good (by simp)
    · intro hj
      have := hO.lt _ hj.symm
      simp at this
      try omega
  obtain ⟨o, v, xs, rfl, ho, hLo, hOw, hov, hb3⟩ := hcut
  obtain ⟨A5, n5, c5, rfl, -⟩ := hOw.sl donC_good
  obtain ⟨W3, hW3⟩ : ∃ V, V = wc := ⟨_, rfl⟩
  subst hW3
  have hs3 := hb3.size
  have HB3 := Lib.hid (HB2.out.trans (hb3.mono HB2.out.size))
  have HLo := Lib.hid (fun X (hX : Below W3.heap.size W3 X) => hLo.bel hX)
  have HOw := Lib.hid (fun X (hX : Below W3.heap.size W3 X) => hOw.bel hX)
  have HG5 := Lib.hid (HG5.out.bel hb3)
  have HO5 := Lib.hid (HO5.out.bel hb3)
  have hol := hLo.lt
  clear HB2 hb3 hLo hOw
  go_upto_region 5 with (fail)
  go_cut [12, 10] (fun p r wx => r = .int .i64 Q.2 ∧ ∃ c, p = .pointer (some ⟨c, 0, none⟩) ∧ W3.heap.size ≤ c ∧ Blk wx c (askA Q.1) 93 ∧ Below W3.heap.size W3 wx)
  case first =>
    clear HT HG HH HZ HQ HLX HBZ HEND HV1 HN HG5 HO5 HOK HB3 HLo HOw
    go_wp2_with fail
    refine (HDE.out _).mono ?_
    rintro e w4 ⟨rfl, hb4⟩
    have HB4 := Lib.hid hb4
    have hs4 := hb4.size
    clear hb4
    go_wp2_with (refine wpList_store_row rfl 93 (.tmp 12) (.tmp 35) rfl w4.heap.size (askA Q.1) rfl rfl 93 _ (Blk.new w4 #[.int .i64 0, .int .i64 0, .int .i64 0, .int .i64 0, .bool false, .int .i64 0, .int .i64 0, .int .i64 0, .int .i64 0, .int .i64 0, .int .i64 0] 93) (by kernel_rfl) rfl (by simp [askA, Value.oneCell']) ?_)
    go_meet
    exact ⟨rfl, _, rfl, hs4, (Blk.new w4 _ _).row _, HB4.out.trans ((below_setRow (bel1 w4 _) (Nat.le_refl _) _).mono HB4.out.size)⟩
  obtain ⟨rfl, c, rfl, hc, hC, hb4⟩ := hcut
  obtain ⟨W4, hW4⟩ : ∃ V, V = wc := ⟨_, rfl⟩
  subst hW4
  have hs4 := hb4.size
  have HLo4 := Lib.hid (fun X (hX : Below W4.heap.size W4 X) => HLo.out X (hb4.trans (hX.mono hb4.size)))
  have HOw4 := Lib.hid (fun X (hX : Below W4.heap.size W4 X) => HOw.out X (hb4.trans (hX.mono hb4.size)))
  have HC4 := Lib.hid (fun X (hX : Below W4.heap.size W4 X) => hC.bel hX)
  have HB4 := Lib.hid (fun X (hX : Below W4.heap.size W4 X) => HB3.out.trans ((hb4.trans (hX.mono hb4.size)).mono HB3.out.size))
  have HG5 := Lib.hid (HG5.out.bel hb4)
  have HO5 := Lib.hid (HO5.out.bel hb4)
  have hcl := hC.lt
  clear HLo HOw hC HB3 hb4
  have hs1 : W1.heap.size ≤ W4.heap.size := (HB4.out _ (Below.refl _ _)).size
  have HRET := Lib.hid (show ∀ U (N : Ans), Below W4.heap.size W4 U → StR ((U.setRow z #[.slice A5 n5 c5, .int .i64 wr]).setRow q (ansA N)) w.heap.size 0 l wr N (.returned (.tuple #[.agg #[.slice A5 n5 c5, .int .i64 wr], .agg (ansA N), .int .i64 0])) ∧ Below w.heap.size w ((U.setRow z #[.slice A5 n5 c5, .int .i64 wr]).setRow q (ansA N)) from fun U N hU => by
    have hb := HB4.out U hU
    have hO := HOw4.out U hU
    have hK := (((Kept.refl (fun k => k = z ∨ k = q) U).setRow (.inl (.inl rfl)) #[.slice A5 n5 c5, .int .i64 wr]).setRow (.inl (.inr rfl)) (ansA N))
    have hUs := hU.size
    have hw2 := HB4.out _ (Below.refl _ _)
    exact ⟨⟨.slice A5 n5 c5, xs, N, by rw [okI_zero], (okA_zero _).symm, by rw [okL_zero]; exact (hO.keepB donC_flat (fun j hj => hK.block j (hO.lt j hj).2 (by have := (hO.lt j hj).1; omega))).mono donC_good (by omega)⟩, HBZ.out U _ _ hb⟩)
  by_cases e0 : Q.2 = 0
  rotate_left
  · have e1 : (Q.2 != 0) = true := by simpa using e0
    have hV2 : V = (l, wr, ⟨Q.2, 0⟩, 0) := by rw [HV1.out]; unfold stepS; rw [if_pos e0]
    have HV2 := Lib.hid hV2
    clear hV2 e0
    have hb := HB4.out _ (Below.refl _ _)
    have ho4 := HLo4.out _ (Below.refl _ _)
    have hz6 := HZ.out _ hb
    have hq6 := HQ.out _ hb
    have hq7 := rowB2 hq6 (Ne.symm hzq) #[.slice A5 n5 c5, .int .i64 wr]
    have hz8 := rowB2 (hz6.row #[.slice A5 n5 c5, .int .i64 wr]) hzq #[.int .i64 Q.2, .int .i64 0]
    go_wp2_with (first | (refine wpList_load_row rfl 83 (.tmp 11) rfl o rfl 83 _ (0, 0) _ ho4 Tryz.underlying83 rfl (by kernel_rfl) ?_) | (refine wpList_store_row rfl 83 (.tmp 6) (.tmp 39) rfl z #[.slice A5 n5 c5, .int .i64 wr] rfl rfl 83 _ hz6 (by kernel_rfl) rfl (by simp [Value.oneCell']) ?_) | (refine wpList_store_row rfl 95 (.tmp 7) (.tmp 41) rfl q #[.int .i64 Q.2, .int .i64 0] rfl rfl 95 _ hq7 (by kernel_rfl) rfl (by simp [Value.oneCell']) ?_))
    refine bodyPost_ret (v := .tuple #[.agg #[.slice A5 n5 c5, .int .i64 wr], .agg #[.int .i64 Q.2, .int .i64 0], .int .i64 0]) (Blk.ret22 (k := 6) (l := 7) (u := 8) (by kernel_rfl) hz8 (hq7.row #[.int .i64 Q.2, .int .i64 0]) rfl rfl rfl Tryz.underlying83 (by kernel_rfl) (by kernel_rfl) Tryz.underlying95 (by kernel_rfl) (by kernel_rfl)) rfl ?_
    rw [HV2.out]
    exact HRET.out _ ⟨Q.2, 0⟩ (Below.refl _ _)
  have HV2 := Lib.hid (show V = if l.any (sameNo Q.1) = true then (if (l.getD (idxF (sameNo Q.1) l).toNat default).ask = Q.1 then (l, wr, (l.getD (idxF (sameNo Q.1) l).toNat default).ans, 0) else (l, wr, ⟨6, 0⟩, 0)) else if l.length = 30 then ([], 0, ⟨0, 0⟩, 2) else (l ++ [⟨Q.1, doA mk X Q.1⟩], (l.length : Int) + 1, doA mk X Q.1, 0) by rw [HV1.out]; unfold stepS; rw [if_neg (fun c => c e0)])
  have HPX := Lib.hid (hP2 X HOK.out e0)
  have HAI := Lib.hid (hai e0)
  have HAX := Lib.hid (ha X HOK.out e0)
  have HE0 := Lib.hid e0
  have h0 : W4.cell? ⟨h, 0, none⟩ = some (.slice A n cap) := (HH.out _ (HB4.out _ (Below.refl _ _))).cell rfl
  have hIX := (IndexFunc_don A n cap l 160 #[.pointer (some ⟨c, 0, none⟩)] (sameNo Q.1) W4 (HLX.out _ (HB4.out _ (Below.refl _ _))) (enters_of Tryz.func160 (by kernel_rfl) rfl) (fun x2 w8 _ hb8 => step1_any x2 Q.1.number c w8 ((HC4.out _ hb8).cell rfl)))
  have q1 : (Q.2 != 0) = false := by simpa using e0
  have hia := idxF_any (p := sameNo Q.1) (l := l)
  obtain ⟨ix, hix⟩ : ∃ i, i = idxF (sameNo Q.1) l := ⟨_, rfl⟩
  rw [← hix] at hia HV2 hIX
  have HIX := Lib.hid hIX
  have HIA := Lib.hid hia
  have HIE := Lib.hid hix
  clear HV1 hP2 hai ha e0 hIX hia hix
  go_wp2_with fail
  refine HIX.out.mono ?_
  rintro e w6 ⟨rfl, hb6⟩
  clear HIX h0 q1
  have hs6 := hb6.size
  have h0 : w6.cell? ⟨h, 0, none⟩ = some (.slice A n cap) := (HH.out _ (HB4.out _ hb6)).cell rfl
  by_cases hf : l.any (sameNo Q.1) = true
  · have hi0 : 0 ≤ ix := by have := HIA.out; rw [hf] at this; exact of_decide_eq_true this
    have hbdx := idxF_bd (p := sameNo Q.1) (l := l) (by have := HN.out; have := HL.out.len; omega)
    rw [← HIE.out] at hbdx
    obtain ⟨k, rfl⟩ := Int.eq_ofNat_of_zero_le hi0
    have hkn : k < n := by
      have h1 := HL.out.len
      have h2 := HIE.out
      unfold idxF at h2
      rw [hf] at h2
      have h3 : l.findIdx (sameNo Q.1) < l.length := List.findIdx_lt_length.2 (List.any_eq_true.1 hf)
      simp at h2
      omega
    obtain ⟨ba, off, d, rfl, hx, hi, hcl⟩ := (HLX.out _ (HB4.out _ hb6)).don hkn
    obtain ⟨d0, d1, d2, d3, d4, d5, d6, d7, d8, d9, d10, d11, d12⟩ := dn13 hcl
    obtain ⟨c0, c1, c2, c3, c4, c5, c6, c7, c8, c9, c10⟩ := AskAt.all (show AskAt w6 c Q.1 from HC4.out _ hb6)
    have hgd : l.getD (k : Int).toNat default = d := by rw [Int.toNat_natCast, List.getD_eq_getElem?_getD, hx]; rfl
    have HV3 := Lib.hid (HV2.out.trans (if_pos hf))
    rw [hgd] at HV3
    have hqn := fun W => ask_eq d.ask Q.1 W
    simp only [askA] at hqn
    obtain ⟨tv, htv⟩ : ∃ t, t = askQ d.ask Q.1 := ⟨_, rfl⟩
    rw [← htv] at hqn
    have HTV := Lib.hid htv
    clear htv
    have hk1 : decide (0 ≤ (k : Int)) = true := decide_eq_true (by omega)
    have hk2 : decide ((k : Int) < 0) = false := decide_eq_false (by omega)
    have hk3 : decide ((k : Int) < (n : Int)) = true := decide_eq_true (by omega)
    clear hi0 hbdx hx hi hcl hgd HIA HIE HV2 hf
    go_upto_region 9 with (fail)
    go_cut [46] (fun p wx => p = .bool tv ∧ Below w6.heap.size w6 wx)
    case first =>
      clear HT HG HH HZ HQ HLX HBZ HEND HN HG5 HO5 HOK HRET HLo4 HOw4 HC4 HB4 HV3 HPX HAI HAX HE0 HDE
      go_quiet (fail)
      go_wp2_with fail
      go_meet
      exact ⟨rfl, below_drewN (Below.refl _ w6) _⟩
    obtain ⟨rfl, hb7⟩ := hcut
    obtain ⟨W7, hW7⟩ : ∃ V, V = wc := ⟨_, rfl⟩
    subst hW7
    have hb8 := hb6.trans (hb7.mono hb6.size)
    replace d11 := cellB hb7 d11
    replace d12 := cellB hb7 d12
    have hb := HB4.out _ hb8
    have ho4 := HLo4.out _ hb8
    clear hb6 hb7 h0 d0 d1 d2 d3 d4 d5 d6 d7 d8 d9 d10 c0 c1 c2 c3 c4 c5 c6 c7 c8 c9 c10 hqn
    cases tv
    · have hV4 : V = (l, wr, ⟨6, 0⟩, 0) := HV3.out.trans (if_neg (of_decide_eq_false HTV.out.symm))
      have HV4 := Lib.hid hV4
      clear hV4 d11 d12
      have hz6 := HZ.out _ hb
      have hq6 := HQ.out _ hb
      have hq7 := rowB2 hq6 (Ne.symm hzq) #[.slice A5 n5 c5, .int .i64 wr]
      have hz8 := rowB2 (hz6.row #[.slice A5 n5 c5, .int .i64 wr]) hzq #[.int .i64 6, .int .i64 0]
      go_wp2_with (first | (refine wpList_load_row rfl 83 (.tmp 11) rfl o rfl 83 _ (0, 0) _ ho4 Tryz.underlying83 rfl (by kernel_rfl) ?_) | (refine wpList_store_row rfl 83 (.tmp 6) (.tmp 69) rfl z #[.slice A5 n5 c5, .int .i64 wr] rfl rfl 83 _ hz6 (by kernel_rfl) rfl (by simp [Value.oneCell']) ?_) | (refine wpList_store_row rfl 95 (.tmp 7) (.tmp 70) rfl q #[.int .i64 6, .int .i64 0] rfl rfl 95 _ hq7 (by kernel_rfl) rfl (by simp [Value.oneCell']) ?_))
      refine bodyPost_ret (v := .tuple #[.agg #[.slice A5 n5 c5, .int .i64 wr], .agg #[.int .i64 6, .int .i64 0], .int .i64 0]) (Blk.ret22 (k := 6) (l := 7) (u := 8) (by kernel_rfl) hz8 (hq7.row #[.int .i64 6, .int .i64 0]) rfl rfl rfl Tryz.underlying83 (by kernel_rfl) (by kernel_rfl) Tryz.underlying95 (by kernel_rfl) (by kernel_rfl)) rfl ?_
      rw [HV4.out]
      exact HRET.out _ ⟨6, 0⟩ hb8
    have hV4 : V = (l, wr, d.ans, 0) := HV3.out.trans (if_pos (of_decide_eq_true HTV.out.symm))
    have HV4 := Lib.hid hV4
    have hh7 := HH.out _ hb
    have hho : h ≠ z ∧ h ≠ q := ⟨fun e => by subst e; have h1 := HZ.out _ hb; rw [show Blk W7 h _ _ = (W7.heap[h]? = _) from rfl] at h1 hh7; rw [h1] at hh7; simp at hh7, fun e => by subst e; have h1 := HQ.out _ hb; rw [show Blk W7 h _ _ = (W7.heap[h]? = _) from rfl] at h1 hh7; rw [h1] at hh7; simp at hh7⟩
    have hbl : ba < w.heap.size := by
      obtain ⟨b2, o2, x2, hA2, -, -, hc2⟩ := HL.out.don hkn
      have h1 := cell_lt (dn13 hc2).1
      injection hA2 with hA3
      injection hA3 with hA4
      omega
    have HK := Lib.hid (show ∀ X, Kept (fun j => j = z ∨ j = q) W7 X → (fun w' => w'.cell? ⟨o, 0, none⟩ = some (.slice A5 n5 c5) ∧ w'.cell? ⟨o, 1, none⟩ = some (.int .i64 wr) ∧ w'.cell? ⟨h, 0, none⟩ = some (.slice (some ⟨ba, off, none⟩) n cap) ∧ w'.cell? ⟨ba, off + k * 13 + 11, none⟩ = some (.int .i64 d.ans.errno) ∧ w'.cell? ⟨ba, off + k * 13 + 12, none⟩ = some (.int .i64 d.ans.owed)) X from fun X hX => by
      have hg := ho4.kept hX (by omega)
      have hn := hh7.kept hX (by rintro (e | e); exact hho.1 e; exact hho.2 e)
      exact ⟨hg.cell rfl, hg.cell rfl, hn.cell rfl, cellK hX (show ¬ (ba = z ∨ ba = q) by omega) d11, cellK hX (show ¬ (ba = z ∨ ba = q) by omega) d12⟩)
    have hbd := hb.drew
    have hz6 := HZ.out _ hbd
    have hq6 := HQ.out _ hbd
    have hq7 := rowB2 hq6 (Ne.symm hzq) #[.slice A5 n5 c5, .int .i64 wr]
    have hz8 := rowB2 (hz6.row #[.slice A5 n5 c5, .int .i64 wr]) hzq (ansA d.ans)
    have HRT := Lib.hid (HRET.out W7.drew d.ans hb8.drew)
    have hk6 := Kept.refl (fun j => j = z ∨ j = q) W7
    go_upto_region 10 with (fail)
    clear HT HG HH HZ HQ HLX HBZ HEND HN HG5 HO5 HOK HRET HLo4 HOw4 HC4 HB4 HV3 HPX HAI HAX HE0 HDE hV4 d11 d12 hh7 hho ho4 hb hbd hk1 hbl HTV
    refine wp_region_held_drew (S := (fun w' => w'.cell? ⟨o, 0, none⟩ = some (.slice A5 n5 c5) ∧ w'.cell? ⟨o, 1, none⟩ = some (.int .i64 wr) ∧ w'.cell? ⟨h, 0, none⟩ = some (.slice (some ⟨ba, off, none⟩) n cap) ∧ w'.cell? ⟨ba, off + k * 13 + 11, none⟩ = some (.int .i64 d.ans.errno) ∧ w'.cell? ⟨ba, off + k * 13 + 12, none⟩ = some (.int .i64 d.ans.owed))) (by kernel_rfl) (HK.out _ hk6.drew) (fun hHeld => ?_)
    refine wpAnyH_take (i := 0) (v := ?v13) (gA rfl) (by kernel_rfl) (by kernel_rfl) (by kernel_rfl) (fun _ _ _ h => h) (Or.inl ⟨rfl, ?y13⟩) (by assumption) ?_
    case y13 => (intro w hSw; (try dsimp only at hSw); go_simp <;> with_reducible rfl)
    simp only [Act.put, List.setIfInBounds_toArray, List.set_cons_zero, List.set_cons_succ]
    refine wpAnyH_take (i := 1) (v := ?v14) (gA rfl) (by kernel_rfl) (by kernel_rfl) (by kernel_rfl) (fun _ _ _ h => h) (Or.inl ⟨rfl, ?y14⟩) (by assumption) ?_
    case y14 => (intro w hSw; (try dsimp only at hSw); go_simp <;> with_reducible rfl)
    simp only [Act.put, List.setIfInBounds_toArray, List.set_cons_zero, List.set_cons_succ]
    refine wpAnyH_take (i := 2) (v := ?v15) (gA rfl) (by kernel_rfl) (by kernel_rfl) (by kernel_rfl) (fun _ _ _ h => h) (Or.inl ⟨rfl, ?y15⟩) (by assumption) ?_
    case y15 => (intro w hSw; (try dsimp only at hSw); go_simp <;> with_reducible rfl)
    simp only [Act.put, List.setIfInBounds_toArray, List.set_cons_zero, List.set_cons_succ]
    refine wpAnyH_take (i := 3) (v := ?v16) (gA rfl) (by kernel_rfl) (by kernel_rfl) (by kernel_rfl) (fun _ _ _ h => h) (Or.inl ⟨rfl, ?y16⟩) (by assumption) ?_
    case y16 => (intro w hSw; (try dsimp only at hSw); go_simp <;> with_reducible rfl)
    simp only [Act.put, List.setIfInBounds_toArray, List.set_cons_zero, List.set_cons_succ]
    refine wpAnyH_take (i := 4) (v := ?v17) (gA rfl) (by kernel_rfl) (by kernel_rfl) (by kernel_rfl) (fun _ _ _ h => h) (Or.inl ⟨rfl, ?y17⟩) (by assumption) ?_
    case y17 => (intro w hSw; (try dsimp only at hSw); go_simp <;> with_reducible rfl)
    simp only [Act.put, List.setIfInBounds_toArray, List.set_cons_zero, List.set_cons_succ]
    refine wpAnyH_take (i := 5) (v := ?v18) (gA rfl) (by kernel_rfl) (by kernel_rfl) (by kernel_rfl) (fun _ _ _ h => h) (Or.inl ⟨rfl, ?y18⟩) (by assumption) ?_
    case y18 => (intro w hSw; (try dsimp only at hSw); go_simp <;> with_reducible rfl)
    simp only [Act.put, List.setIfInBounds_toArray, List.set_cons_zero, List.set_cons_succ]
    refine wpAnyH_take (i := 6) (v := ?v19) (gA rfl) (by kernel_rfl) (by kernel_rfl) (by kernel_rfl) (fun _ _ _ h => h) (Or.inl ⟨rfl, ?y19⟩) (by assumption) ?_
    case y19 => (intro w hSw; (try dsimp only at hSw); go_simp <;> with_reducible rfl)
    simp only [Act.put, List.setIfInBounds_toArray, List.set_cons_zero, List.set_cons_succ]
    refine wpAnyH_ready (rs := [7]) (by kernel_rfl) (by simp) (AllReadyH.cons (gA rfl) (fun K hK => ?_) AllReadyH.nil)
    (refine wp_store_row 83 (.tmp 6) (.tmp 59) rfl _ #[.slice A5 n5 c5, .int .i64 wr] rfl rfl 83 _ hz6 (by kernel_rfl) rfl (by simp [Value.oneCell']) ?_)
    refine hK.out _ _ ?_ (fun hHeld => ?_)
    · exact HK.out _ (hk6.drew.setRow (.inl (.inl rfl)) _)
    clear hK K
    try simp only [Act.put, List.setIfInBounds_toArray, List.set_cons_zero, List.set_cons_succ]
    refine wpAnyH_ready (rs := [8]) (by kernel_rfl) (by simp) (AllReadyH.cons (gA rfl) (fun K hK => ?_) AllReadyH.nil)
    (refine wp_store_row 95 (.tmp 7) (.tmp 65) rfl _ (ansA d.ans) rfl rfl 95 _ hq7 (by kernel_rfl) rfl (by simp [Value.oneCell']) ?_)
    refine hK.out _ _ ?_ (fun hHeld => ?_)
    · exact HK.out _ ((hk6.drew.setRow (.inl (.inl rfl)) _).setRow (.inl (.inr rfl)) _)
    clear hK K
    try simp only [Act.put, List.setIfInBounds_toArray, List.set_cons_zero, List.set_cons_succ]
    refine wpAnyH_take (i := 9) (v := ?v22) (gA rfl) (by kernel_rfl) (by kernel_rfl) (by kernel_rfl) (fun _ _ _ h => h) (Or.inl ⟨rfl, ?y22⟩) (by assumption) ?_
    case y22 => (intro w hSw; (try dsimp only at hSw); go_simp <;> with_reducible rfl)
    simp only [Act.put, List.setIfInBounds_toArray, List.set_cons_zero, List.set_cons_succ]
    refine wpAnyH_done (by kernel_rfl) ?_ _
    clear HK hk6
    go_wp2_with fail
    refine bodyPost_ret (v := .tuple #[.agg #[.slice A5 n5 c5, .int .i64 wr], .agg (ansA d.ans), .int .i64 0]) (Blk.ret22 (k := 6) (l := 7) (u := 8) (by kernel_rfl) hz8 (hq7.row (ansA d.ans)) rfl rfl rfl Tryz.underlying83 (by kernel_rfl) (by kernel_rfl) Tryz.underlying95 (by kernel_rfl) (by kernel_rfl)) rfl ?_
    rw [HV4.out]
    exact HRT.out
  have hf' : l.any (sameNo Q.1) = false := by cases hq : l.any (sameNo Q.1); rfl; exact absurd hq hf
  obtain rfl : ix = -1 := by rw [HIE.out]; exact idxF_none hf'
  have HV3 := Lib.hid (HV2.out.trans (if_neg hf))
  clear HIE HIA HV2 hf hf'
  go_upto_region 9 with (fail)
  go_cut [46] (fun p wx => p = .bool false ∧ Below w6.heap.size w6 wx)
  case first =>
    clear HT HG HH HZ HQ HLX HBZ HEND HN HG5 HO5 HOK HRET HLo4 HOw4 HC4 HB4 HV3 HPX HAI HAX HE0 HDE
    go_quiet (fail)
    go_wp2_with fail
    go_meet
    exact ⟨rfl, below_drewN (Below.refl _ w6) _⟩
  obtain ⟨rfl, hb7⟩ := hcut
  obtain ⟨W7, hW7⟩ : ∃ V, V = wc := ⟨_, rfl⟩
  subst hW7
  have hb8 := hb6.trans (hb7.mono hb6.size)
  clear hb6 hb7 h0
  have hs7 := hb8.size
  have h0 : W7.cell? ⟨h, 0, none⟩ = some (.slice A n cap) := (HH.out _ (HB4.out _ hb8)).cell rfl
  by_cases q30 : n = 30
  · have q31 : ((n : Int) == 30) = true := by rw [q30]; rfl
    have HV4 := Lib.hid (HV3.out.trans (if_pos (by rw [HL.out.len]; exact q30)))
    have hb := HB4.out _ hb8
    have hz6 := HZ.out _ hb
    have hq6 := HQ.out _ hb
    have hq7 := rowB2 hq6 (Ne.symm hzq) #[.slice none 0 0, .int .i64 0]
    have hz8 := rowB2 (hz6.row #[.slice none 0 0, .int .i64 0]) hzq #[.int .i64 0, .int .i64 0]
    clear q30
    go_wp2_with (first | (refine wpList_store_row rfl 83 (.tmp 6) (.tmp 76) rfl z #[.slice none 0 0, .int .i64 0] rfl rfl 83 _ hz6 (by kernel_rfl) rfl (by simp [Value.oneCell']) ?_) | (refine wpList_store_row rfl 95 (.tmp 7) (.tmp 77) rfl q #[.int .i64 0, .int .i64 0] rfl rfl 95 _ hq7 (by kernel_rfl) rfl (by simp [Value.oneCell']) ?_))
    refine bodyPost_ret (v := .tuple #[.agg #[.slice none 0 0, .int .i64 0], .agg #[.int .i64 0, .int .i64 0], .int .i64 2]) (Blk.ret22 (k := 6) (l := 7) (u := 8) (by kernel_rfl) hz8 (hq7.row #[.int .i64 0, .int .i64 0]) rfl rfl rfl Tryz.underlying83 (by kernel_rfl) (by kernel_rfl) Tryz.underlying95 (by kernel_rfl) (by kernel_rfl)) rfl ?_
    rw [HV4.out]
    exact HEND.out _ _ _ _ _ (by decide) hb
  have q31 : ((n : Int) == 30) = false := by
    have : ¬ (n : Int) = 30 := by omega
    simpa using this
  have HV4 := Lib.hid (HV3.out.trans (if_neg (by rw [HL.out.len]; exact q30)))
  clear HV3 q30
  have hcB := HC4.out _ hb8
  have hDO := do_any HM HR X p5 Q.1 ck W1.heap.size W7 (HO5.out.bel hb8) (by have := (HB4.out _ hb8).size; omega) (HG5.out.bel hb8) HPX.out HAI.out.2.2.1
  obtain ⟨AN, hAN⟩ : ∃ a, a = doA mk X Q.1 := ⟨_, rfl⟩
  rw [← hAN] at hDO HV4
  have HAN := Lib.hid hAN
  clear hAN
  have HDO := Lib.hid hDO
  clear hDO
  go_upto_region 15 with (fail)
  go_cut [14] (fun p wx => ∃ r, p = .pointer (some ⟨r, 0, none⟩) ∧ W7.heap.size ≤ r ∧ Blk wx r (ansA AN) 95 ∧ Kept (fun k => k = ck) W7 wx)
  case first =>
    clear HT HG HH HZ HQ HLX HBZ HEND HN HG5 HO5 HOK HRET HLo4 HOw4 HC4 HB4 HV4 HPX HAI HAX HE0 HDE
    go_wp2_with (refine wpList_load_row rfl 93 (.tmp 12) rfl c rfl 93 _ (0, 0) _ hcB Tryz.underlying93 rfl (by kernel_rfl) ?_)
    refine HDO.out.mono ?_
    rintro e w9 ⟨rfl, -, hK9⟩
    have HK9 := Lib.hid hK9
    clear hK9
    go_wp2_with fail
    go_meet
    exact ⟨_, rfl, HK9.out.size, Blk.new w9 _ _, HK9.out.alloc _⟩
  obtain ⟨r, rfl, hr, hAn, hK8⟩ := hcut
  obtain ⟨W8, hW8⟩ : ∃ V, V = wc := ⟨_, rfl⟩
  subst hW8
  have hLo8 := (HLo4.out _ hb8).kept hK8 (by omega)
  have hOw8 := (HOw4.out _ hb8).keepB donC_flat (fun j hj => hK8.block j ((HOw4.out _ hb8).lt j hj).2 (by have := ((HOw4.out _ hb8).lt j hj).1; omega))
  have hC8 := (HC4.out _ hb8).kept hK8 (by omega)
  clear HDO h0 q31 hcB
  obtain ⟨x0, x1, x2, x3, x4, x5, x6, x7, x8, x9, x10⟩ := AskAt.all (show AskAt W8 c Q.1 from hC8)
  have o0 : W8.cell? ⟨o, 0, none⟩ = some (.slice A5 n5 c5) := hLo8.cell rfl
  have r0 : W8.cell? ⟨r, 0, none⟩ = some (.int .i64 AN.errno) := hAn.cell rfl
  have r1 : W8.cell? ⟨r, 1, none⟩ = some (.int .i64 AN.owed) := hAn.cell rfl
  have hAX := HAX.out
  rw [← HAN.out] at hAX
  have hDI : DonIn ⟨Q.1, AN⟩ := ⟨HAI.out, hAX⟩
  have hll := HL.out.len
  have hn30 := HN.out
  have HOl := Lib.hid (hOw8.below donC_good (bel1 W8 (.cells (donA ⟨Q.1, AN⟩) 128)))
  have hs8 := hK8.size
  have HLI := Lib.hid (sl_don W8 All ⟨Q.1, AN⟩ 128 hDI trivial)
  have hby : (l.length + 1) * 104 ≤ 140737488355328 := by omega
  have hs38 : w2.heap.size ≤ W8.heap.size := by omega
  have hsz : w2.heap.size ≤ (W8.alloc (.cells (donA ⟨Q.1, AN⟩) 128)).heap.size := Nat.le_trans hs38 (by simp)
  have HC8 := Lib.hid hC8
  have HAN8 := Lib.hid hAn
  have HLO8 := Lib.hid hLo8
  have of0 := hLo8.free 0
  clear x0 x1 x2 x3 x4 x5 x6 x7 x8 x9 x10 r0 r1 hC8 hAX hDI
  have hne : ∀ s, (Value.slice A5 n5 c5).ownBlock = some s → s ≠ o := fun s hs e => hOw8.neTy hLo8 (by decide) (by rw [hs, e])
  have hol8 := hLo8.lt
  have hro : r ≠ o := by omega
  have HNE := Lib.hid hne
  clear hne hOw8 hAn
  go_upto_region 16 with (fail)
  go_cut [] (fun wx => ∃ A9 n9 c9 xs, n9 = l.length + 1 ∧ Own donC 13 128 wx w2.heap.size (.slice A9 n9 c9) (l ++ [⟨Q.1, AN⟩]) xs ∧ Blk wx o #[.slice A9 n9 c9, .int .i64 wr] 83 ∧ Blk wx r (ansA AN) 95 ∧ Kept (fun j => j = o ∨ w2.heap.size ≤ j) W8 wx)
  case first =>
    clear HT HG HH HZ HQ HLX HBZ HEND HN HG5 HO5 HOK HRET HLo4 HOw4 HC4 HB4 HV4 HPX HAI HAX HE0 HDE HAN HL hll hn30
    obtain ⟨x0, x1, x2, x3, x4, x5, x6, x7, x8, x9, x10⟩ := AskAt.all (show AskAt W8 c Q.1 from HC8.out)
    have o0 : W8.cell? ⟨o, 0, none⟩ = some (.slice A5 n5 c5) := HLO8.out.cell rfl
    have r0 : W8.cell? ⟨r, 0, none⟩ = some (.int .i64 AN.errno) := HAN8.out.cell rfl
    have r1 : W8.cell? ⟨r, 1, none⟩ = some (.int .i64 AN.owed) := HAN8.out.cell rfl
    go_wp2_with (at_builtin; refine list_app (t := 81) (e := 128) (bytes := 104) rfl (.tmp 82) (.tmp 86) rfl don_elem donC_good rfl HOl.out rfl HLI.out (fun _ _ hc => hc) hby (by omega) hsz ?_; intro v' w' xs' hown' hg' hat'; obtain ⟨A9, n9, c9, hv9, hs9⟩ := hown'.sl donC_good; subst hv9; have HN9 := Lib.hid (show (l ++ [(⟨Q.1, AN⟩ : Don)]).length = n9 from hs9.len); clear hs9; have HOWN := Lib.hid hown'; have HGR := Lib.hid hg'; have HLO9 := Lib.hid ((HLO8.out.bel (bel1 W8 (.cells (donA ⟨Q.1, AN⟩) 128))).grown hg' (fun e => HNE.out o e.symm rfl)); have m9 : w'.cell? ⟨o, 0, none⟩ = some (.slice A5 n5 c5) := HLO9.out.cell (j := 0) rfl; have f9 := HLO9.out.free 0; clear hown' hg' hat')
    go_meet
    have hK9 : Kept (fun j => j = o ∨ w2.heap.size ≤ j) (W8.alloc (.cells (donA ⟨Q.1, AN⟩) 128)) w' := ⟨HGR.out.os, HGR.out.tape, HGR.out.output, HGR.out.size, fun j hj hn => HGR.out.block j hj (fun e => hn (.inr (HOl.out.lt j e.symm).1))⟩
    have hne9 : ∀ s, (Value.slice A9 n9 c9).ownBlock = some s → s ≠ o := fun s hs e => HOWN.out.neTy HLO9.out (by decide) (by rw [hs, e])
    have hr9 := (HAN8.out.bel (bel1 W8 (.cells (donA ⟨Q.1, AN⟩) 128))).grown HGR.out (fun e => HOl.out.neTy (HAN8.out.bel (bel1 W8 (.cells (donA ⟨Q.1, AN⟩) 128))) (by decide) e.symm)
    have hks := kset w' o [(0, .slice A9 n9 c9)]
    refine ⟨A9, n9, c9, xs', by rw [← HN9.out, List.length_append]; rfl, own_setCell_flat donC_flat HOWN.out (a := ⟨o, 0, none⟩) (fun e => hne9 o e rfl) _, HLO9.out.set (j := 0) _, hr9.kept hks hro, ((Kept.refl (fun j => j = o ∨ w2.heap.size ≤ j) W8).alloc _).trans (hK9.trans (hks.mono fun j _ e => .inl e))⟩
  obtain ⟨A9, n9, c9, xs9, hn9, hO9, hLo9, hAn9, hK9⟩ := hcut
  obtain ⟨W9, hW9⟩ : ∃ V, V = wc := ⟨_, rfl⟩
  subst hW9
  have o0 : W9.cell? ⟨o, 0, none⟩ = some (.slice A9 n9 c9) := hLo9.cell rfl
  have o1 : W9.cell? ⟨o, 1, none⟩ = some (.int .i64 wr) := hLo9.cell rfl
  have of1 := hLo9.free 1
  have hs89 := hK9.size
  have hb9 : Below W1.heap.size W1 W9 := ((HB4.out _ hb8).trans (hK8.below (B := W1.heap.size) (HB4.out _ hb8).size (fun j hj e => by omega))).trans (hK9.below (B := W1.heap.size) (by have := (HB4.out _ hb8).size; omega) (fun j hj e => by omega))
  have hol9 := hLo9.lt
  have hne9 : ∀ s, (Value.slice A9 n9 c9).ownBlock = some s → s ≠ o := fun s hs e => hO9.neTy hLo9 (by decide) (by rw [hs, e])
  have HLo9 := Lib.hid hLo9
  have HAn9 := Lib.hid hAn9
  have HO9 := Lib.hid hO9
  clear hO9
  have HB9 := Lib.hid hb9
  have HNE9 := Lib.hid hne9
  have HN9 := Lib.hid hn9
  clear hLo9 hAn9 hK9 hK8 hb8 hb9 hne9 of0 hby hsz hn9 HOl HLI HC8 HAN8 HLO8 HNE
  go_upto_region 17 with (fail)
  go_cut [] (fun wx => Blk wx o #[.slice A9 n9 c9, .int .i64 (n9 : Int)] 83 ∧ Kept (fun j => j = o) W9 wx)
  case first => as_aux_lemma =>
    go_wp2_with fail
    go_meet
    exact ⟨HLo9.out.set (j := 1) _, kset W9 o [(1, .int .i64 (n9 : Int))]⟩
  obtain ⟨hL10, hK10⟩ := hcut
  obtain ⟨W10, hW10⟩ : ∃ V, V = wc := ⟨_, rfl⟩
  subst hW10
  have hs910 := hK10.size
  have hr10 := HAn9.out.kept hK10 hro
  have hO10 : Own donC 13 128 W10 w2.heap.size (.slice A9 n9 c9) (l ++ [⟨Q.1, AN⟩]) xs9 := HO9.out.keepB donC_flat (fun j hj => hK10.block j (HO9.out.lt j hj).2 (HNE9.out j hj))
  have hb := HB9.out.trans (hK10.below (B := W1.heap.size) HB9.out.size (fun j hj e => by omega))
  have hrl := hr10.lt
  have hzo : ¬ (o = z ∨ o = q) := by omega
  have hzr : ¬ (r = z ∨ r = q) := by omega
  have HK := Lib.hid (show ∀ X, Kept (fun j => j = z ∨ j = q) W10 X → (fun w' => w'.cell? ⟨o, 0, none⟩ = some (.slice A9 n9 c9) ∧ w'.cell? ⟨o, 1, none⟩ = some (.int .i64 (n9 : Int)) ∧ w'.cell? ⟨r, 0, none⟩ = some (.int .i64 AN.errno) ∧ w'.cell? ⟨r, 1, none⟩ = some (.int .i64 AN.owed)) X from fun X hX =>
    ⟨(hL10.kept hX hzo).cell rfl, (hL10.kept hX hzo).cell rfl, (hr10.kept hX hzr).cell rfl, (hr10.kept hX hzr).cell rfl⟩)
  have hbd := hb.drew
  have hz6 := HZ.out _ hbd
  have hq6 := HQ.out _ hbd
  have hq7 := rowB2 hq6 (Ne.symm hzq) #[.slice A9 n9 c9, .int .i64 (n9 : Int)]
  have hz8 := rowB2 (hz6.row #[.slice A9 n9 c9, .int .i64 (n9 : Int)]) hzq (ansA AN)
  have HRT := Lib.hid (show StR ((W10.drew.setRow z #[.slice A9 n9 c9, .int .i64 (n9 : Int)]).setRow q (ansA AN)) w.heap.size 0 (l ++ [⟨Q.1, AN⟩]) ((l.length : Int) + 1) AN (.returned (.tuple #[.agg #[.slice A9 n9 c9, .int .i64 (n9 : Int)], .agg (ansA AN), .int .i64 0])) ∧ Below w.heap.size w ((W10.drew.setRow z #[.slice A9 n9 c9, .int .i64 (n9 : Int)]).setRow q (ansA AN)) from by
    have hK := (((Kept.refl (fun k => k = z ∨ k = q) W10.drew).setRow (.inl (.inl rfl)) #[.slice A9 n9 c9, .int .i64 (n9 : Int)]).setRow (.inl (.inr rfl)) (ansA AN))
    have hO11 : Own donC 13 128 W10.drew w2.heap.size (.slice A9 n9 c9) (l ++ [⟨Q.1, AN⟩]) xs9 := hO10.keepB donC_flat (fun _ _ => rfl)
    exact ⟨⟨.slice A9 n9 c9, xs9, AN, by rw [okI_zero, HN9.out]; rfl, (okA_zero _).symm, by rw [okL_zero]; exact (hO11.keepB donC_flat (fun j hj => hK.block j (hO11.lt j hj).2 (by have := (hO11.lt j hj).1; omega))).mono donC_good (by omega)⟩, HBZ.out _ _ _ hbd⟩)
  have hk6 := Kept.refl (fun j => j = z ∨ j = q) W10
  clear hL10 hK10 hr10 hO10 hb hbd o0 o1 of1
  go_upto_region 18 with (fail)
  clear HT HG HH HZ HQ HLX HBZ HEND HN HG5 HO5 HOK HRET HLo4 HOw4 HC4 HB4 HPX HAI HAX HE0 HDE HAN HL
  refine wp_region_held_drew (S := (fun w' => w'.cell? ⟨o, 0, none⟩ = some (.slice A9 n9 c9) ∧ w'.cell? ⟨o, 1, none⟩ = some (.int .i64 (n9 : Int)) ∧ w'.cell? ⟨r, 0, none⟩ = some (.int .i64 AN.errno) ∧ w'.cell? ⟨r, 1, none⟩ = some (.int .i64 AN.owed))) (by kernel_rfl) (HK.out _ hk6.drew) (fun hHeld => ?_)
  refine wpAnyH_take (i := 0) (v := ?v23) (gA rfl) (by kernel_rfl) (by kernel_rfl) (by kernel_rfl) (fun _ _ _ h => h) (Or.inl ⟨rfl, ?y23⟩) (by assumption) ?_
  case y23 => (intro w hSw; (try dsimp only at hSw); go_simp <;> with_reducible rfl)
  simp only [Act.put, List.setIfInBounds_toArray, List.set_cons_zero, List.set_cons_succ]
  refine wpAnyH_take (i := 1) (v := ?v24) (gA rfl) (by kernel_rfl) (by kernel_rfl) (by kernel_rfl) (fun _ _ _ h => h) (Or.inl ⟨rfl, ?y24⟩) (by assumption) ?_
  case y24 => (intro w hSw; (try dsimp only at hSw); go_simp <;> with_reducible rfl)
  simp only [Act.put, List.setIfInBounds_toArray, List.set_cons_zero, List.set_cons_succ]
  refine wpAnyH_ready (rs := [2]) (by kernel_rfl) (by simp) (AllReadyH.cons (gA rfl) (fun K hK => ?_) AllReadyH.nil)
  (refine wp_store_row 83 (.tmp 6) (.tmp 93) rfl _ #[.slice A9 n9 c9, .int .i64 (n9 : Int)] rfl rfl 83 _ hz6 (by kernel_rfl) rfl (by simp [Value.oneCell']) ?_)
  refine hK.out _ _ ?_ (fun hHeld => ?_)
  · exact HK.out _ (hk6.drew.setRow (.inl (.inl rfl)) _)
  clear hK K
  try simp only [Act.put, List.setIfInBounds_toArray, List.set_cons_zero, List.set_cons_succ]
  refine wpAnyH_ready (rs := [3]) (by kernel_rfl) (by simp) (AllReadyH.cons (gA rfl) (fun K hK => ?_) AllReadyH.nil)
  (refine wp_store_row 95 (.tmp 7) (.tmp 94) rfl _ (ansA AN) rfl rfl 95 _ hq7 (by kernel_rfl) rfl (by simp [Value.oneCell']) ?_)
  refine hK.out _ _ ?_ (fun hHeld => ?_)
  · exact HK.out _ ((hk6.drew.setRow (.inl (.inl rfl)) _).setRow (.inl (.inr rfl)) _)
  clear hK K
  try simp only [Act.put, List.setIfInBounds_toArray, List.set_cons_zero, List.set_cons_succ]
  refine wpAnyH_take (i := 4) (v := ?v27) (gA rfl) (by kernel_rfl) (by kernel_rfl) (by kernel_rfl) (fun _ _ _ h => h) (Or.inl ⟨rfl, ?y27⟩) (by assumption) ?_
  case y27 => (intro w hSw; (try dsimp only at hSw); go_simp <;> with_reducible rfl)
  simp only [Act.put, List.setIfInBounds_toArray, List.set_cons_zero, List.set_cons_succ]
  refine wpAnyH_done (by kernel_rfl) ?_ _
  clear HK hk6
  go_wp2_with fail
  refine bodyPost_ret (v := .tuple #[.agg #[.slice A9 n9 c9, .int .i64 (n9 : Int)], .agg (ansA AN), .int .i64 0]) (Blk.ret22 (k := 6) (l := 7) (u := 8) (by kernel_rfl) hz8 (hq7.row (ansA AN)) rfl rfl rfl Tryz.underlying83 (by kernel_rfl) (by kernel_rfl) Tryz.underlying95 (by kernel_rfl) (by kernel_rfl)) rfl ?_
  rw [HV4.out]
  exact HRT.out
end Go.Proofs.YtoilcdgpeilgaaaGreat
namespace Go.Proofs.YtoilcdgpeilgaaaGreat
open Go.RowKit Go.Shelf
def ByName (x : Sai) (a : Ask) : Prop := a.kind = 1 ∧ BkIn (bookD x a)
theorem rightN : RightC ByName mkN := fun x a _ h => (sold_law (x := x) (b := bookD x a) (k := 1) h).2.2.2
def firstX : Sai := ⟨vesselX, tableX, 2, 40, [], false⟩
def ask1 : Ask := ⟨1, 1, 5, 2, true, 1, 0, 0, 2, 0, 0⟩
def ans1 : Ans := ⟨0, 800⟩
def don1 : Don := ⟨ask1, ans1⟩
def bk5 : Bkg := ⟨5, 1, 2, 2, true, 1, 0, 0, 2, 0, []⟩
def bk5F : Bkg := ⟨5, 1, 2, 2, true, 1, 0, 0, 2, 0, [⟨2, 1, 800⟩]⟩
theorem first_tak (c : Int) : takB firstX.bks c = true := (tak_of (show spF (spL firstX.bks c) = some [] from rfl)).1
theorem no_edges : allB 0 [] = true := allB_true ⟨[], ⟨by decide, by decide, by decide⟩, rfl⟩
theorem first_room : roomE firstX = 0 := by
  unfold roomE
  rw [if_neg (by
    unfold twiceB
    simp only [List.any_eq_true, not_exists, not_and, List.mem_range]
    intro c hc
    rw [first_tak]; simp), show soulL firstX.bks firstX.ship.legs.toNat = [0, 0, 0] by decide, if_neg (by decide), show idsL firstX = [] from rfl, show edgL firstX = [] from rfl, show ([] : List Int).length = 0 from rfl, no_edges]
  rfl
theorem first_e : saiE firstX = 0 := by
  unfold saiE
  rw [show shipE firstX.ship = 0 from vessel_e, if_neg (by simp), show fareE firstX.fares firstX.ship.cats.length firstX.ship.legs = 0 by decide, if_neg (by simp), if_neg (by decide), show bksE firstX = 0 by
    unfold bksE
    rw [if_neg (by decide), show firstE (bkE1 firstX) firstX.bks.length = 0 from rfl, if_neg (by simp)]
    rfl, if_neg (by simp), first_room]
  rfl
theorem bk5_is : bookD firstX ask1 = bk5 := by kernel_rfl
theorem bk5_x : sellX firstX bk5 = { firstX with bks := [bk5F] } := by kernel_rfl
theorem sold_tak (c : Nat) (hc : c < 3) : takB [bk5F] (c : Int) = true := by
  rcases c with _ | _ | _ | c
  · exact (tak_of (show spF (spL [bk5F] 0) = some [] by decide)).1
  · exact (tak_of (show spF (spL [bk5F] 1) = some [⟨0, 2⟩] by decide)).1
  · exact (tak_of (show spF (spL [bk5F] 2) = some [] by decide)).1
  · omega
theorem sold_room : roomE { firstX with bks := [bk5F] } = 0 := by
  unfold roomE
  rw [if_neg (by
    unfold twiceB
    simp only [List.any_eq_true, not_exists, not_and, List.mem_range]
    intro c hc
    rw [sold_tak c hc]; simp), show soulL ({ firstX with bks := [bk5F] } : Sai).bks ({ firstX with bks := [bk5F] } : Sai).ship.legs.toNat = [2, 2, 0] by decide, if_neg (by decide), show idsL { firstX with bks := [bk5F] } = [] by decide, show edgL { firstX with bks := [bk5F] } = [] by decide, show ([] : List Int).length = 0 from rfl, no_edges]
  rfl
theorem bk5_e : sellE firstX bk5 1 = 0 := by
  unfold sellE sellE1 putE
  rw [first_e, if_neg (by simp), if_neg (by decide), if_neg (by decide), show ofE firstX.ship bk5 = 0 by decide, if_neg (by simp), if_neg (by decide), if_neg (by decide), if_neg (by decide), show withS firstX (soldB firstX bk5) = { firstX with bks := [bk5F] } from bk5_x, sold_room]
theorem mk1_e : mkN.e firstX ask1 = 0 := by show sellE firstX (bookD firstX ask1) 1 = 0; rw [bk5_is, bk5_e]
theorem mk1_x : mkN.x firstX ask1 = { firstX with bks := [bk5F] } := by show sellX firstX (bookD firstX ask1) = _; rw [bk5_is, bk5_x]
theorem do1_x : doX mkN firstX ask1 = { firstX with bks := [bk5F] } := by unfold doX; rw [if_pos mk1_e, mk1_x]
theorem do1_a : doA mkN firstX ask1 = ans1 := by
  unfold doA
  rw [if_pos mk1_e, mk1_x]
  kernel_rfl
theorem desk1_e : deskE firstX ask1 = 0 := by unfold deskE; rw [first_e, if_neg (by simp)]; decide
theorem code1_e : codeE ask1 = 0 := by decide
theorem dec1 : decV (encS ask1) = (ask1, 0) := by kernel_rfl
theorem open0_e : openE mkN firstX [] 0 = 0 := by unfold openE; rw [first_e, if_neg (by simp), if_neg (by decide), if_neg (by decide)]; rfl
theorem open0_x : openX mkN firstX [] = firstX := rfl
theorem opn1 : opn mkN firstX [] [don1] = ({ firstX with bks := [bk5F] }, 0) := by
  unfold opn
  rw [if_neg (by rw [show don1.ask = ask1 from rfl, code1_e]; simp), if_neg (by decide), show don1.ask = ask1 from rfl, show don1.ans = ans1 from rfl, if_pos do1_a, do1_x]
  rfl
theorem open1_e : openE mkN firstX [don1] 1 = 0 := by unfold openE; rw [first_e, if_neg (by simp), if_neg (by decide), if_neg (by decide), opn1]
theorem open1_x : openX mkN firstX [don1] = { firstX with bks := [bk5F] } := by unfold openX; rw [opn1]
theorem step0 : stepV mkN firstX [] 0 (encS ask1) = ([don1], 1, ans1, 0) := by
  unfold stepV
  rw [if_neg (by rw [open0_e]; simp), open0_x, dec1]
  unfold stepS
  rw [if_neg (by simp), if_neg (by simp), if_neg (by simp), show doA mkN firstX ask1 = ans1 from do1_a]
  rfl
theorem step1 : stepV mkN firstX [don1] 1 (encS ask1) = ([don1], 1, ans1, 0) := by
  unfold stepV
  rw [if_neg (by rw [open1_e]; simp), open1_x, dec1]
  unfold stepS
  rw [if_neg (by simp), if_pos (by decide)]
  rfl
theorem ask1_in : AskIn ask1 := by unfold AskIn; refine ⟨.of ?_ ?_, .of ?_ ?_, .of ?_ ?_, .of ?_ ?_, .of ?_ ?_, .of ?_ ?_, .of ?_ ?_, .of ?_ ?_, .of ?_ ?_, .of ?_ ?_⟩ <;> decide
theorem byName {y : Sai} (h : saiE y = 0) : ByName y ask1 := ⟨rfl, bookD_in ask1_in (by
  have h7 := betB_iff.1 (sai_ok h).bs.ship.legs
  exact .of (by omega) (by omega))⟩
def In9 (a : Int) : Prop := 0 ≤ a ∧ a ≤ 9
theorem n9 {a : Int} (h : (0 ≤ a ∧ a ≤ 9) := by decide) : In9 a := h
theorem ite9 {c : Prop} [Decidable c] {a b : Int} (h : In9 a) (h2 : In9 b) : In9 (if c then a else b) := by split <;> assumption
theorem firstErr_9 {f : Nat → Int} (h : ∀ i, In9 (f i)) : ∀ n, In9 (firstErr f n)
  | 0 => by show In9 0; exact n9
  | n + 1 => ite9 (h n) (firstErr_9 h n)
theorem checkFolio_9 (l : List Entry) : In9 (checkFolio l) := by
  have h1 : ∀ n, In9 (firstErr (errAt l) n) := firstErr_9 fun i => by
    unfold errAt
    first | exact ite9 (ite9 n9 (ite9 n9 (ite9 n9 n9))) (ite9 n9 n9) | (repeat' split) <;> first | exact n9 | (unfold entryE at *; (repeat' split) <;> first | exact n9 | omega)
  have h2 : ∀ n, In9 (firstErr (sumErr l) n) := firstErr_9 fun i => by
    unfold sumErr
    (repeat' split) <;> exact n9
  exact ite9 n9 (ite9 (h1 _) (h2 _))
theorem spanE_9 (s : Span) (n : Int) : In9 (spanE s n) := ite9 n9 (ite9 n9 n9)
theorem kindE_9 (x : Shp) (b : Bkg) : In9 (kindE x b) := ite9 (ite9 n9 (ite9 n9 (ite9 n9 (ite9 n9 n9)))) (ite9 n9 (ite9 n9 (ite9 n9 n9)))
theorem ofE_9 (x : Shp) (b : Bkg) : In9 (ofE x b) := ite9 n9 (ite9 n9 (ite9 (spanE_9 _ _) (ite9 (kindE_9 _ _) (ite9 n9 (ite9 n9 (checkFolio_9 _))))))
theorem roomE_9 (x : Sai) : In9 (roomE x) := by unfold roomE; exact ite9 n9 (ite9 n9 (ite9 n9 n9))
theorem putE_9 (x : Sai) (b : Bkg) : In9 (putE x b) := by unfold putE; exact ite9 n9 (ite9 n9 (ite9 n9 (roomE_9 _)))
theorem sell_9 {x : Sai} (h : saiE x = 0) (b : Bkg) (k : Int) : In9 (sellE x b k) := by
  unfold sellE sellE1
  rw [if_neg (by rw [h]; simp)]
  exact ite9 n9 (ite9 n9 (ite9 (ofE_9 _ _) (putE_9 _ _)))
theorem In9.inI {a : Int} (h : In9 a) : InI a := .of (by have := h.1; omega) (by have := h.2; omega)
theorem due_in {X : Sai} (h : saiE X = 0) (t : Int) : InI (owA X t) := by
  have ho := sai_ok h
  unfold owA
  by_cases q : hasId X.bks t = true
  · rw [if_pos q]
    obtain ⟨b, hb, _, _, _⟩ := idxF_has (rise_of ho.bs.rise) q
    have he : curB X t = b := by unfold curB; rw [List.getD_eq_getElem?_getD, hb]; rfl
    rw [he]
    have := check_sum (ho.bs.bk b (List.mem_of_getElem? hb)).fol (fun _ => true)
    exact .of (by show _ ≤ sumBy _ _; omega) (by show sumBy _ _ ≤ _; omega)
  · rw [if_neg q]; exact zero_in
theorem ansN_in {y : Sai} {a : Ask} (h : saiE y = 0) (hP : ByName y a) : InI (doA mkN y a).errno ∧ InI (doA mkN y a).owed := by
  unfold doA
  by_cases q : mkN.e y a = 0
  · rw [if_pos q]
    exact ⟨zero_in, due_in (rightN y a hP q) a.id⟩
  · rw [if_neg q]
    exact ⟨In9.inI (sell_9 h (bookD y a) 1), zero_in⟩
theorem crash1 : crE 1 1 0 = 0 ∧ crN 1 1 0 = 1 := by decide
end Go.Proofs.YtoilcdgpeilgaaaGreat
