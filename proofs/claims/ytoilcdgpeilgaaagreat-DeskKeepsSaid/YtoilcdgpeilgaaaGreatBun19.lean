/-
  Words, laws and contracts: StockN, StockO.
-/
import Derived.Test.YtoilcdgpeilgaaaGreatBun18
set_option linter.unusedSimpArgs false
set_option linter.unusedVariables false
namespace Go.Proofs.YtoilcdgpeilgaaaGreat
open Go.RowKit Go.Shelf
theorem cat_lit {w5 w6 : World} {base : Nat} {v : Value} {l : List Cat} {xs xs6 : List Value} {x0 : Cat} {A5 : Option Addr} {n5 c5 : Nat} (hO : Own catO 2 184 w5 base v l xs) (h5 : base ≤ w5.heap.size) (hs : w5.heap.size ≤ w6.heap.size)
    (hO6 : Own intC 1 3 w6 w5.heap.size (.slice A5 n5 c5) x0.high xs6) (hl : x0.name.length ≤ maxLen) :
    Sl catO 2 (w6.alloc (.cells #[strV x0.name, .slice A5 n5 c5] 184)) (Beside base v) (some ⟨w6.heap.size, 0, none⟩) 1 1 [x0] := by
  have hne : ∀ k, w5.heap.size ≤ k → some k ≠ v.ownBlock := fun k hk e => by have := (hO.lt k e.symm).2; omega
  exact Sl.lit1 w6 (Beside base v) 184 x0 [strV x0.name, .slice A5 n5 c5] ⟨_, rfl, ⟨xs6, (hO6.bel (bel1 w6 _)).mono intC_good (Nat.zero_le _), fun k hk => ⟨by have := (hO6.lt k hk).1; omega, hne k (hO6.lt k hk).1⟩⟩, hl⟩ ⟨by omega, hne _ hs⟩
set_option maxRecDepth 100000 in
set_option maxHeartbeats 8000000 in
theorem shipOwn_any (x : Shp) (A : Option Addr) (n cap : Nat) (B : Option Addr) (m cap2 : Nat) (w : World) (hc : Sl catC 2 w All A n cap x.cats) (hd : Sl cabC 4 w All B m cap2 x.cabs) (hn : n ≤ 1000) (hm : m ≤ 1000) (hh : ∀ c ∈ x.cats, c.high.length ≤ 1000) :
    Calls Tryz.prog 201 #[.agg #[.int .i64 x.legs, .int .i64 x.souls, .slice A n cap, .slice B m cap2]] w fun e w' => ∃ A1 n1 c1 B1 m1 d1 xs1 xs2, e = .returned (.agg #[.int .i64 x.legs, .int .i64 x.souls, .slice A1 n1 c1, .slice B1 m1 d1]) ∧ Own catO 2 184 w' w.heap.size (.slice A1 n1 c1) x.cats xs1 ∧ Own cabC 4 76 w' w.heap.size (.slice B1 m1 d1) x.cabs xs2 ∧ Below w.heap.size w w' := by
  have HCB := Lib.hid (fun W h => Clone_cab B m cap2 x.cabs W h (by omega))
  have HLN := Lib.hid hc.len
  have HC := Lib.hid hc
  have HD := Lib.hid hd
  have HH := Lib.hid hh
  clear hh
  clear hc hd
  go_enter Tryz.func201, Tryz.ntmps201
  go_upto_region 0 with (fail)
  go_cut [1, 2] (fun p p2 wx => ∃ g z, p = .pointer (some ⟨g, 0, none⟩) ∧ p2 = .pointer (some ⟨z, 0, none⟩) ∧ w.heap.size ≤ g ∧ w.heap.size ≤ z ∧ g ≠ z ∧ Blk wx g #[.int .i64 x.legs, .int .i64 x.souls, .slice A n cap, .slice B m cap2] 25 ∧ Blk wx z #[.int .i64 0, .int .i64 0, .slice none 0 0, .slice none 0 0] 25 ∧ Below w.heap.size w wx)
  case first => as_aux_lemma =>
    go_wp2_with fail
    go_meet
    exact ⟨_, _, rfl, rfl, Nat.le_refl _, by omega, by omega, blk2_0 _ _ _, blk2_1 _ _ _, bel2 _ _ _⟩
  obtain ⟨g, z, rfl, rfl, hg, hz, hgz, hG, hZ, hb⟩ := hcut
  obtain ⟨W1, hW1⟩ : ∃ V, V = wc := ⟨_, rfl⟩
  subst hW1
  have hsz1 := hb.size
  go_upto_region 1 with (fail)
  go_cut [3] (fun p wx => ∃ q, p = .pointer (some ⟨q, 0, none⟩) ∧ W1.heap.size ≤ q ∧ Blk wx q #[.int .i64 x.legs, .int .i64 x.souls, .slice A n cap, .slice B m cap2] 25 ∧ Below W1.heap.size W1 wx)
  case first => as_aux_lemma =>
    go_wp2_with (first | (refine wpList_load_row rfl 25 (.tmp 1) rfl g rfl 25 _ (0, 0) _ hG Tryz.underlying25 rfl (by kernel_rfl) ?_) | (refine wpList_store_row rfl 25 (.tmp 3) (.tmp 6) rfl W1.heap.size #[.int .i64 x.legs, .int .i64 x.souls, .slice A n cap, .slice B m cap2] rfl rfl 25 _ (Blk.new W1 #[.int .i64 0, .int .i64 0, .slice none 0 0, .slice none 0 0] 25) (by kernel_rfl) rfl (by simp [Value.oneCell']) ?_))
    go_meet
    exact ⟨_, rfl, Nat.le_refl _, (Blk.new _ _ _).row _, below_setRow (bel1 _ _) (Nat.le_refl _) _⟩
  obtain ⟨q, rfl, hq, hQ, hb2⟩ := hcut
  have hgl := hG.lt
  have hzl := hZ.lt
  have hql := hQ.lt
  replace hG := hG.bel hb2
  replace hZ := hZ.bel hb2
  replace hb := hb.trans (hb2.mono hb.size)
  have hsz := hb2.size
  clear hb2
  obtain ⟨W2, hW2⟩ : ∃ V, V = wc := ⟨_, rfl⟩
  subst hW2
  have g3 : W2.cell? ⟨g, 3, none⟩ = some (.slice B m cap2) := hG.cell rfl
  have HCALL := Lib.hid (HCB.out W2 (HD.out.bel hb))
  have HG := Lib.hid hG
  clear hG
  have HZ := Lib.hid hZ
  clear hZ
  have HQ := Lib.hid hQ
  clear hQ
  go_wp2_with fail
  refine HCALL.out.mono ?_
  rintro e w3 ⟨vb, xs2, rfl, hO2, hb3⟩
  obtain ⟨B1, m1, d1, rfl, _⟩ := hO2.sl cabC_good
  have hQ3 := HQ.out.bel hb3
  have q2 : w3.cell? ⟨q, 2, none⟩ = some (.slice A n cap) := hQ3.cell rfl
  have q3 : w3.cell? ⟨q, 3, none⟩ = some (.slice B m cap2) := hQ3.cell rfl
  have f2 : w3.frozen? ⟨q, 2, none⟩ = false := hQ3.free 2
  have f3 : w3.frozen? ⟨q, 3, none⟩ = false := hQ3.free 3
  have HQ3 := Lib.hid hQ3
  have HO2 := Lib.hid hO2
  have HB3 := Lib.hid hb3
  clear hQ3 hO2 hb3 g3
  go_upto_region 3 with (fail)
  have hQ4 : Blk ((w3.setCell ⟨q, 2, none⟩ (.slice none 0 0)).setCell ⟨q, 3, none⟩ (.slice B1 m1 d1)) q #[.int .i64 x.legs, .int .i64 x.souls, .slice none 0 0, .slice B1 m1 d1] 25 := (HQ3.out.set (j := 2) _).set (j := 3) _
  have hK : Kept (fun k => k = q) w3 ((w3.setCell ⟨q, 2, none⟩ (.slice none 0 0)).setCell ⟨q, 3, none⟩ (.slice B1 m1 d1)) := ((Kept.refl (fun k => k = q) w3).setCell (p := ⟨q, 2, none⟩) (.inl rfl) _).setCell (p := ⟨q, 3, none⟩) (.inl rfl) _
  obtain ⟨W4, hW4⟩ : ∃ V, V = (w3.setCell ⟨q, 2, none⟩ (.slice none 0 0)).setCell ⟨q, 3, none⟩ (.slice B1 m1 d1) := ⟨_, rfl⟩
  rw [← hW4] at hQ4 hK ⊢
  have hG4 := (HG.out.bel HB3.out).kept hK (by omega)
  have hZ4 := (HZ.out.bel HB3.out).kept hK (by omega)
  have hO4 := HO2.out.kept cabC_good hK (fun k hk => by omega)
  have hb4 : Below w.heap.size w W4 := (hb.trans (HB3.out.mono hb.size)).trans (hK.below (by have := HB3.out.size; omega) (fun k hk => by omega))
  have g2 : W4.cell? ⟨g, 2, none⟩ = some (.slice A n cap) := hG4.cell rfl
  have hsz4 : W2.heap.size ≤ W4.heap.size := by have := HB3.out.size; have := hK.size; omega
  have HQ4 := Lib.hid hQ4
  clear hQ4
  have HZ4 := Lib.hid hZ4
  clear hZ4
  have HO4 := Lib.hid hO4
  clear hO4
  have HB4 := Lib.hid hb4
  clear hb4
  clear hW4 hK hG4 q2 q3 f2 f3 hb
  go_wp2_with fail
  go_loopg [15] n (fun gk i wr => ∃ (k : Nat) (A1 : Option Addr) (n1 c1 : Nat) (xs1 : List Value), k ≤ n ∧ n - k ≤ gk ∧ i = .int .i64 k ∧ Blk wr q #[.int .i64 x.legs, .int .i64 x.souls, .slice A1 n1 c1, .slice B1 m1 d1] 25 ∧ Own catO 2 184 wr W2.heap.size (.slice A1 n1 c1) (x.cats.take k) xs1 ∧ Own cabC 4 76 wr W2.heap.size (.slice B1 m1 d1) x.cabs xs2 ∧ Apart (.slice B1 m1 d1) (.slice A1 n1 c1) ∧ Blk wr z #[.int .i64 0, .int .i64 0, .slice none 0 0, .slice none 0 0] 25 ∧ Below w.heap.size w wr ∧ W2.heap.size ≤ wr.heap.size)
  case atStart => exact ⟨0, none, 0, 0, [], Nat.zero_le _, by omega, rfl, HQ4.out, Own.nil _ _ _ _ _, HO4.out, (Apart.nilL _).symm, HZ4.out, HB4.out, hsz4⟩
  case round =>
    clear g2
    obtain ⟨k, A1, n1, c1, xs1, hk, hgk, rfl, hQ, hO1, hO2, hap, hZ, hb, hws⟩ := hrel
    by_cases hlt : k < n
    · obtain ⟨b, off, ⟨nm, hi⟩, d0, e0', hA, hx, ⟨A2, n2, c2, hcs, hs2, hnl⟩, e0, e1⟩ := (HC.out.bel hb).at2 hlt
      simp only [List.cons.injEq, and_true] at hcs
      obtain ⟨rfl, rfl⟩ := hcs
      subst hA
      simp only at hs2 hnl e0
      go_upto_region 5 with (fail)
      go_cut [5] (fun p1 wx => ∃ y, p1 = .pointer (some ⟨y, 0, none⟩) ∧ wr.heap.size ≤ y ∧ Blk wx y #[strV nm, .slice A2 n2 c2] 184 ∧ Below wr.heap.size wr wx)
      case first => as_aux_lemma =>
        go_wp2_with fail
        go_meet
        exact ⟨_, rfl, Nat.le_refl _, blk1 _ _, bel1 _ _⟩
      obtain ⟨y, rfl, hy, hY, hby⟩ := hcut
      have hl1 := hO1.lt
      have hyq : y ≠ q := by omega
      have hy1 : some y ≠ (Value.slice A1 n1 c1).ownBlock := fun e => by have := (hl1 y e.symm).2; omega
      have hq1 : some q ≠ (Value.slice A1 n1 c1).ownBlock := fun e => by have := (hl1 q e.symm).1; omega
      have hz1 : some z ≠ (Value.slice A1 n1 c1).ownBlock := fun e => by have := (hl1 z e.symm).1; omega
      replace hQ := hQ.bel hby
      replace hO1 := hO1.bel hby
      replace hO2 := hO2.bel hby
      replace hZ := hZ.bel hby
      replace hb := hb.trans (hby.mono hb.size)
      replace hs2 := hs2.bel hby
      have hws5 : W2.heap.size ≤ wc.heap.size := by have := hby.size; omega
      obtain ⟨W5, hW5⟩ : ∃ V, V = wc := ⟨_, rfl⟩
      subst hW5
      have hhi : hi.length ≤ 1000 := HH.out _ (List.mem_of_getElem? hx)
      have hn2 := hs2.len
      have HCL := Lib.hid (fun X (hX : Below W5.heap.size W5 X) => Clone_int A2 n2 c2 hi X (hs2.bel hX) (by omega))
      have HSS := Lib.hid (show ∀ X, Below W5.heap.size W5 X → (fun w' => w'.cell? ⟨y, 0, none⟩ = some (strV nm) ∧ w'.cell? ⟨y, 1, none⟩ = some (.slice A2 n2 c2)) X from fun X hX => ⟨(hY.bel hX).cell rfl, (hY.bel hX).cell rfl⟩)
      have l1 : W5.cell? ⟨q, 2, none⟩ = some (.slice A1 n1 c1) := hQ.cell rfl
      have hby1 : ((x.cats.take k).length + 1) * 40 ≤ 140737488355328 := by rw [List.length_take]; omega
      have HTK := Lib.hid (take_snoc hx)
      have HQ5 := Lib.hid hQ
      clear hQ
      have HO1 := Lib.hid hO1
      clear hO1
      have HO2 := Lib.hid hO2
      clear hO2
      have HZ5 := Lib.hid hZ
      clear hZ
      have HB5 := Lib.hid hb
      clear hb
      have HY5 := Lib.hid hY
      clear hY
      have HNL := Lib.hid hnl
      clear hnl
      have hbx : Below W5.heap.size W5 W5.drew := (Below.refl _ W5).drew
      clear hx hs2 e0 e1 hby hl1 hn2 hhi
      go_upto_region 6 with (fail)
      refine wp_region_held_drew (S := (fun w' => w'.cell? ⟨y, 0, none⟩ = some (strV nm) ∧ w'.cell? ⟨y, 1, none⟩ = some (.slice A2 n2 c2))) (by kernel_rfl) (HSS.out _ hbx) (fun hHeld => ?_)
      refine wpAnyH_take (i := 0) (v := ?v9) (gA rfl) (by kernel_rfl) (by kernel_rfl) (by kernel_rfl) (fun _ _ _ h => h) (Or.inl ⟨rfl, ?y9⟩) (by assumption) ?_
      case y9 => (intro w hSw; (try dsimp only at hSw); go_simp <;> with_reducible rfl)
      simp only [Act.put, List.setIfInBounds_toArray, List.set_cons_zero, List.set_cons_succ]
      refine wpAnyH_take (i := 2) (v := ?v10) (gA rfl) (by kernel_rfl) (by kernel_rfl) (by kernel_rfl) (fun _ _ _ h => h) (Or.inl ⟨rfl, ?y10⟩) (by assumption) ?_
      case y10 => (intro w hSw; (try dsimp only at hSw); go_simp <;> with_reducible rfl)
      simp only [Act.put, List.setIfInBounds_toArray, List.set_cons_zero, List.set_cons_succ]
      refine wpAnyH_take (i := 3) (v := ?v11) (gA rfl) (by kernel_rfl) (by kernel_rfl) (by kernel_rfl) (fun _ _ _ h => h) (Or.inl ⟨rfl, ?y11⟩) (by assumption) ?_
      case y11 => (intro w hSw; (try dsimp only at hSw); go_simp <;> with_reducible rfl)
      simp only [Act.put, List.setIfInBounds_toArray, List.set_cons_zero, List.set_cons_succ]
      refine wpAnyH_take (i := 4) (v := ?v12) (gA rfl) (by kernel_rfl) (by kernel_rfl) (by kernel_rfl) (fun _ _ _ h => h) (Or.inl ⟨rfl, ?y12⟩) (by assumption) ?_
      case y12 => (intro w hSw; (try dsimp only at hSw); go_simp <;> with_reducible rfl)
      simp only [Act.put, List.setIfInBounds_toArray, List.set_cons_zero, List.set_cons_succ]
      refine wpAnyH_take (i := 5) (v := ?v13) (gA rfl) (by kernel_rfl) (by kernel_rfl) (by kernel_rfl) (fun _ _ _ h => h) (Or.inl ⟨rfl, ?y13⟩) (by assumption) ?_
      case y13 => (intro w hSw; (try dsimp only at hSw); go_simp <;> with_reducible rfl)
      simp only [Act.put, List.setIfInBounds_toArray, List.set_cons_zero, List.set_cons_succ]
      refine wpAnyH_ready (rs := [1, 6]) (by kernel_rfl) (by simp) ?_
      refine AllReadyH.cons (gA rfl) (fun K hK => ?_) ?m_1
      case m_1 =>
        refine AllReadyH.cons (gA rfl) (fun K hK => ?_) AllReadyH.nil
        go_simp
        (go_at_call 243; refine (HCL.out _ hbx).mono ?_; rintro e w6 ⟨v6, xs6, rfl, hO6, hb6⟩; obtain ⟨A5, n5, c5, rfl, _⟩ := hO6.sl intC_good; replace hbx := hbx.trans (hb6.mono hbx.size); have l2 := cellB hbx l1)
        go_wp2_with fail
        refine hK.out _ _ ?_ (fun hHeld => ?_)
        · exact HSS.out _ hbx
        clear hK K
        try simp only [Act.put, List.setIfInBounds_toArray, List.set_cons_zero, List.set_cons_succ]
        refine wpAnyH_take (i := 7) (v := ?v14) (gA rfl) (by kernel_rfl) (by kernel_rfl) (by kernel_rfl) (fun _ _ _ h => h) (Or.inl ⟨rfl, ?y14⟩) (by assumption) ?_
        case y14 => (intro w hSw; (try dsimp only at hSw); go_simp <;> with_reducible rfl)
        simp only [Act.put, List.setIfInBounds_toArray, List.set_cons_zero, List.set_cons_succ]
        refine wpAnyH_ready (rs := [1, 8]) (by kernel_rfl) (by simp) ?_
        refine AllReadyH.cons (gA rfl) (fun K hK => ?_) ?m_3
        case m_3 =>
          refine AllReadyH.cons (gA rfl) (fun K hK => ?_) AllReadyH.nil
          go_simp
          refine hK.out _ _ ?_ (fun hHeld => ?_)
          · exact HSS.out _ (hbx.alloc hbx.size (.cells #[strV nm, .slice A5 n5 c5] 184))
          clear hK K
          try simp only [Act.put, List.setIfInBounds_toArray, List.set_cons_zero, List.set_cons_succ]
          (have hs6 := hbx.size; replace hbx := hbx.alloc hbx.size (.cells #[strV nm, .slice A5 n5 c5] 184); have l3 := cellB hbx l1)
          refine wpAnyH_ready (rs := [1]) (by kernel_rfl) (by simp) ?_
          refine AllReadyH.cons (gA rfl) (fun K hK => ?_) AllReadyH.nil
          go_simp
          refine hK.out _ _ ?_ (fun hHeld => ?_)
          · exact HSS.out _ hbx
          clear hK K
          try simp only [Act.put, List.setIfInBounds_toArray, List.set_cons_zero, List.set_cons_succ]
          refine wpAnyH_ready (rs := [9]) (by kernel_rfl) (by simp) (AllReadyH.cons (gA rfl) (fun K hK => ?_) AllReadyH.nil)
          (have hOq := HO1.out.bel hbx; have hSq := cat_lit (x0 := ⟨nm, hi⟩) HO1.out hws5 hs6 hO6 HNL.out; have hsq := Nat.le_trans hws5 hbx.size; refine step_app (t := 22) (e := 184) (bytes := 40) (base := W2.heap.size) (c := catO) (l := x.cats.take k) (xs := xs1) (l2 := [⟨nm, hi⟩]) (S := Beside W2.heap.size (.slice A1 n1 c1)) rfl (.tmp 20) (.tmp 27) rfl cat_elem2 catO_good rfl rfl hOq hSq (fun _ _ h => h) hby1 (by omega) hsq ?_; intro v' w7 xs' hown' hg' hat'; obtain ⟨A8, n8, c8, rfl, _⟩ := hown'.sl catO_good; have hY7 := (HY5.out.bel hbx).grown hg' hy1; have hQ7 := (HQ5.out.bel hbx).grown hg' hq1; have m2 : w7.cell? ⟨q, 2, none⟩ = some (.slice A1 n1 c1) := hQ7.cell rfl; have mf : w7.frozen? ⟨q, 2, none⟩ = false := hQ7.free 2)
          refine hK.out _ _ ?_ (fun hHeld => ?_)
          · exact ⟨hY7.cell rfl, hY7.cell rfl⟩
          clear hK K
          try simp only [Act.put, List.setIfInBounds_toArray, List.set_cons_zero, List.set_cons_succ]
          refine wpAnyH_take (i := 10) (v := ?v16) (gA rfl) (by kernel_rfl) (by kernel_rfl) (by kernel_rfl) (fun _ _ _ h => h) (Or.inl ⟨rfl, ?y16⟩) (by assumption) ?_
          case y16 => (intro w hSw; (try dsimp only at hSw); go_simp <;> with_reducible rfl)
          simp only [Act.put, List.setIfInBounds_toArray, List.set_cons_zero, List.set_cons_succ]
          refine wpAnyH_ready (rs := [11]) (by kernel_rfl) (by simp) (AllReadyH.cons (gA rfl) (fun K hK => ?_) AllReadyH.nil)
          go_simp
          refine hK.out _ _ ?_ (fun hHeld => ?_)
          · exact ⟨(hY7.other (p := ⟨q, 2, none⟩) (fun e => hyq e.symm) _).cell rfl, (hY7.other (p := ⟨q, 2, none⟩) (fun e => hyq e.symm) _).cell rfl⟩
          clear hK K
          try simp only [Act.put, List.setIfInBounds_toArray, List.set_cons_zero, List.set_cons_succ]
          have hKq : Kept (fun k => k = q) w7 (w7.setCell ⟨q, 2, none⟩ (.slice A8 n8 c8)) := (Kept.refl (fun k => k = q) w7).setCell (p := ⟨q, 2, none⟩) (.inl rfl) _
          have p1 := hown'.kept catO_good hKq (fun k hk => by omega)
          have p2 := ((HO2.out.bel hbx).grownF cabC_flat hg' hap).kept cabC_good hKq (fun k hk => by omega)
          have p3 := Apart.step hap (fun k hk => ((HO2.out.bel hbx).lt k hk).2) hat'
          have p4 := (((HZ5.out.bel hbx).grown hg' hz1).kept hKq (by omega))
          have p5 := (below_app (HB5.out.trans (hbx.mono HB5.out.size)) (hOq.mono catO_good (Nat.le_trans hsz1 hsz)) hg' (by have := HB5.out.size; omega)).setCell (p := ⟨q, 2, none⟩) (show w.heap.size ≤ q by omega) (.slice A8 n8 c8)
          have p6 := hQ7.set (j := 2) (.slice A8 n8 c8)
          have p7 : W2.heap.size ≤ (w7.setCell ⟨q, 2, none⟩ (.slice A8 n8 c8)).heap.size := by have := hg'.size; have := hKq.size; omega
          rw [← HTK.out] at p1
          clear hOq hSq hown' hY7 hQ7 m2 mf hKq hg' hat' hO6 hb6
          refine wpAnyH_done (by kernel_rfl) ?_ _
          go_wp2_with fail
          go_roundg (n - (k + 1))
          case measure => omega
          case rel => exact ⟨k + 1, A8, n8, c8, xs', by omega, by omega, by go_num, p6, p1, p2, p3, p4, p5, p7⟩
        go_simp
        refine hK.out _ _ ?_ (fun hHeld => ?_)
        · exact HSS.out _ hbx
        clear hK K
        try simp only [Act.put, List.setIfInBounds_toArray, List.set_cons_zero, List.set_cons_succ]
        refine wpAnyH_ready (rs := [8]) (by kernel_rfl) (by simp) ?_
        refine AllReadyH.cons (gA rfl) (fun K hK => ?_) AllReadyH.nil
        go_simp
        refine hK.out _ _ ?_ (fun hHeld => ?_)
        · exact HSS.out _ (hbx.alloc hbx.size (.cells #[strV nm, .slice A5 n5 c5] 184))
        clear hK K
        try simp only [Act.put, List.setIfInBounds_toArray, List.set_cons_zero, List.set_cons_succ]
        (have hs6 := hbx.size; replace hbx := hbx.alloc hbx.size (.cells #[strV nm, .slice A5 n5 c5] 184); have l3 := cellB hbx l1)
        refine wpAnyH_ready (rs := [9]) (by kernel_rfl) (by simp) (AllReadyH.cons (gA rfl) (fun K hK => ?_) AllReadyH.nil)
        (have hOq := HO1.out.bel hbx; have hSq := cat_lit (x0 := ⟨nm, hi⟩) HO1.out hws5 hs6 hO6 HNL.out; have hsq := Nat.le_trans hws5 hbx.size; refine step_app (t := 22) (e := 184) (bytes := 40) (base := W2.heap.size) (c := catO) (l := x.cats.take k) (xs := xs1) (l2 := [⟨nm, hi⟩]) (S := Beside W2.heap.size (.slice A1 n1 c1)) rfl (.tmp 20) (.tmp 27) rfl cat_elem2 catO_good rfl rfl hOq hSq (fun _ _ h => h) hby1 (by omega) hsq ?_; intro v' w7 xs' hown' hg' hat'; obtain ⟨A8, n8, c8, rfl, _⟩ := hown'.sl catO_good; have hY7 := (HY5.out.bel hbx).grown hg' hy1; have hQ7 := (HQ5.out.bel hbx).grown hg' hq1; have m2 : w7.cell? ⟨q, 2, none⟩ = some (.slice A1 n1 c1) := hQ7.cell rfl; have mf : w7.frozen? ⟨q, 2, none⟩ = false := hQ7.free 2)
        refine hK.out _ _ ?_ (fun hHeld => ?_)
        · exact ⟨hY7.cell rfl, hY7.cell rfl⟩
        clear hK K
        try simp only [Act.put, List.setIfInBounds_toArray, List.set_cons_zero, List.set_cons_succ]
        refine wpAnyH_take (i := 10) (v := ?v19) (gA rfl) (by kernel_rfl) (by kernel_rfl) (by kernel_rfl) (fun _ _ _ h => h) (Or.inl ⟨rfl, ?y19⟩) (by assumption) ?_
        case y19 => (intro w hSw; (try dsimp only at hSw); go_simp <;> with_reducible rfl)
        simp only [Act.put, List.setIfInBounds_toArray, List.set_cons_zero, List.set_cons_succ]
        refine wpAnyH_ready (rs := [11]) (by kernel_rfl) (by simp) (AllReadyH.cons (gA rfl) (fun K hK => ?_) AllReadyH.nil)
        go_simp
        refine hK.out _ _ ?_ (fun hHeld => ?_)
        · exact ⟨(hY7.other (p := ⟨q, 2, none⟩) (fun e => hyq e.symm) _).cell rfl, (hY7.other (p := ⟨q, 2, none⟩) (fun e => hyq e.symm) _).cell rfl⟩
        clear hK K
        try simp only [Act.put, List.setIfInBounds_toArray, List.set_cons_zero, List.set_cons_succ]
        have hKq : Kept (fun k => k = q) w7 (w7.setCell ⟨q, 2, none⟩ (.slice A8 n8 c8)) := (Kept.refl (fun k => k = q) w7).setCell (p := ⟨q, 2, none⟩) (.inl rfl) _
        have p1 := hown'.kept catO_good hKq (fun k hk => by omega)
        have p2 := ((HO2.out.bel hbx).grownF cabC_flat hg' hap).kept cabC_good hKq (fun k hk => by omega)
        have p3 := Apart.step hap (fun k hk => ((HO2.out.bel hbx).lt k hk).2) hat'
        have p4 := (((HZ5.out.bel hbx).grown hg' hz1).kept hKq (by omega))
        have p5 := (below_app (HB5.out.trans (hbx.mono HB5.out.size)) (hOq.mono catO_good (Nat.le_trans hsz1 hsz)) hg' (by have := HB5.out.size; omega)).setCell (p := ⟨q, 2, none⟩) (show w.heap.size ≤ q by omega) (.slice A8 n8 c8)
        have p6 := hQ7.set (j := 2) (.slice A8 n8 c8)
        have p7 : W2.heap.size ≤ (w7.setCell ⟨q, 2, none⟩ (.slice A8 n8 c8)).heap.size := by have := hg'.size; have := hKq.size; omega
        rw [← HTK.out] at p1
        clear hOq hSq hown' hY7 hQ7 m2 mf hKq hg' hat' hO6 hb6
        refine wpAnyH_done (by kernel_rfl) ?_ _
        go_wp2_with fail
        go_roundg (n - (k + 1))
        case measure => omega
        case rel => exact ⟨k + 1, A8, n8, c8, xs', by omega, by omega, by go_num, p6, p1, p2, p3, p4, p5, p7⟩
      go_simp
      refine hK.out _ _ ?_ (fun hHeld => ?_)
      · exact HSS.out _ hbx
      clear hK K
      try simp only [Act.put, List.setIfInBounds_toArray, List.set_cons_zero, List.set_cons_succ]
      refine wpAnyH_ready (rs := [6]) (by kernel_rfl) (by simp) ?_
      refine AllReadyH.cons (gA rfl) (fun K hK => ?_) AllReadyH.nil
      go_simp
      (go_at_call 243; refine (HCL.out _ hbx).mono ?_; rintro e w6 ⟨v6, xs6, rfl, hO6, hb6⟩; obtain ⟨A5, n5, c5, rfl, _⟩ := hO6.sl intC_good; replace hbx := hbx.trans (hb6.mono hbx.size); have l2 := cellB hbx l1)
      go_wp2_with fail
      refine hK.out _ _ ?_ (fun hHeld => ?_)
      · exact HSS.out _ hbx
      clear hK K
      try simp only [Act.put, List.setIfInBounds_toArray, List.set_cons_zero, List.set_cons_succ]
      refine wpAnyH_take (i := 7) (v := ?v21) (gA rfl) (by kernel_rfl) (by kernel_rfl) (by kernel_rfl) (fun _ _ _ h => h) (Or.inl ⟨rfl, ?y21⟩) (by assumption) ?_
      case y21 => (intro w hSw; (try dsimp only at hSw); go_simp <;> with_reducible rfl)
      simp only [Act.put, List.setIfInBounds_toArray, List.set_cons_zero, List.set_cons_succ]
      refine wpAnyH_ready (rs := [8]) (by kernel_rfl) (by simp) ?_
      refine AllReadyH.cons (gA rfl) (fun K hK => ?_) AllReadyH.nil
      go_simp
      refine hK.out _ _ ?_ (fun hHeld => ?_)
      · exact HSS.out _ (hbx.alloc hbx.size (.cells #[strV nm, .slice A5 n5 c5] 184))
      clear hK K
      try simp only [Act.put, List.setIfInBounds_toArray, List.set_cons_zero, List.set_cons_succ]
      (have hs6 := hbx.size; replace hbx := hbx.alloc hbx.size (.cells #[strV nm, .slice A5 n5 c5] 184); have l3 := cellB hbx l1)
      refine wpAnyH_ready (rs := [9]) (by kernel_rfl) (by simp) (AllReadyH.cons (gA rfl) (fun K hK => ?_) AllReadyH.nil)
      (have hOq := HO1.out.bel hbx; have hSq := cat_lit (x0 := ⟨nm, hi⟩) HO1.out hws5 hs6 hO6 HNL.out; have hsq := Nat.le_trans hws5 hbx.size; refine step_app (t := 22) (e := 184) (bytes := 40) (base := W2.heap.size) (c := catO) (l := x.cats.take k) (xs := xs1) (l2 := [⟨nm, hi⟩]) (S := Beside W2.heap.size (.slice A1 n1 c1)) rfl (.tmp 20) (.tmp 27) rfl cat_elem2 catO_good rfl rfl hOq hSq (fun _ _ h => h) hby1 (by omega) hsq ?_; intro v' w7 xs' hown' hg' hat'; obtain ⟨A8, n8, c8, rfl, _⟩ := hown'.sl catO_good; have hY7 := (HY5.out.bel hbx).grown hg' hy1; have hQ7 := (HQ5.out.bel hbx).grown hg' hq1; have m2 : w7.cell? ⟨q, 2, none⟩ = some (.slice A1 n1 c1) := hQ7.cell rfl; have mf : w7.frozen? ⟨q, 2, none⟩ = false := hQ7.free 2)
      refine hK.out _ _ ?_ (fun hHeld => ?_)
      · exact ⟨hY7.cell rfl, hY7.cell rfl⟩
      clear hK K
      try simp only [Act.put, List.setIfInBounds_toArray, List.set_cons_zero, List.set_cons_succ]
      refine wpAnyH_take (i := 10) (v := ?v23) (gA rfl) (by kernel_rfl) (by kernel_rfl) (by kernel_rfl) (fun _ _ _ h => h) (Or.inl ⟨rfl, ?y23⟩) (by assumption) ?_
      case y23 => (intro w hSw; (try dsimp only at hSw); go_simp <;> with_reducible rfl)
      simp only [Act.put, List.setIfInBounds_toArray, List.set_cons_zero, List.set_cons_succ]
      refine wpAnyH_ready (rs := [11]) (by kernel_rfl) (by simp) (AllReadyH.cons (gA rfl) (fun K hK => ?_) AllReadyH.nil)
      go_simp
      refine hK.out _ _ ?_ (fun hHeld => ?_)
      · exact ⟨(hY7.other (p := ⟨q, 2, none⟩) (fun e => hyq e.symm) _).cell rfl, (hY7.other (p := ⟨q, 2, none⟩) (fun e => hyq e.symm) _).cell rfl⟩
      clear hK K
      try simp only [Act.put, List.setIfInBounds_toArray, List.set_cons_zero, List.set_cons_succ]
      have hKq : Kept (fun k => k = q) w7 (w7.setCell ⟨q, 2, none⟩ (.slice A8 n8 c8)) := (Kept.refl (fun k => k = q) w7).setCell (p := ⟨q, 2, none⟩) (.inl rfl) _
      have p1 := hown'.kept catO_good hKq (fun k hk => by omega)
      have p2 := ((HO2.out.bel hbx).grownF cabC_flat hg' hap).kept cabC_good hKq (fun k hk => by omega)
      have p3 := Apart.step hap (fun k hk => ((HO2.out.bel hbx).lt k hk).2) hat'
      have p4 := (((HZ5.out.bel hbx).grown hg' hz1).kept hKq (by omega))
      have p5 := (below_app (HB5.out.trans (hbx.mono HB5.out.size)) (hOq.mono catO_good (Nat.le_trans hsz1 hsz)) hg' (by have := HB5.out.size; omega)).setCell (p := ⟨q, 2, none⟩) (show w.heap.size ≤ q by omega) (.slice A8 n8 c8)
      have p6 := hQ7.set (j := 2) (.slice A8 n8 c8)
      have p7 : W2.heap.size ≤ (w7.setCell ⟨q, 2, none⟩ (.slice A8 n8 c8)).heap.size := by have := hg'.size; have := hKq.size; omega
      rw [← HTK.out] at p1
      clear hOq hSq hown' hY7 hQ7 m2 mf hKq hg' hat' hO6 hb6
      refine wpAnyH_done (by kernel_rfl) ?_ _
      go_wp2_with fail
      go_roundg (n - (k + 1))
      case measure => omega
      case rel => exact ⟨k + 1, A8, n8, c8, xs', by omega, by omega, by go_num, p6, p1, p2, p3, p4, p5, p7⟩
    · obtain rfl : k = n := by omega
      rw [List.take_of_length_le (Nat.le_of_eq HLN.out)] at hO1
      have hzn : z < W2.heap.size := by omega
      have HQ5 := Lib.hid hQ
      clear hQ
      have HO1 := Lib.hid hO1
      clear hO1
      have HO2 := Lib.hid hO2
      clear hO2
      have HZ5 := Lib.hid hZ
      clear hZ
      have HB5 := Lib.hid hb
      clear hb
      go_wp2_with (first | (refine wpList_load_row rfl 25 (.tmp 3) rfl q rfl 25 _ (0, 0) _ HQ5.out Tryz.underlying25 rfl (by kernel_rfl) ?_) | (refine wpList_store_row rfl 25 (.tmp 2) (.tmp 31) rfl z #[.int .i64 x.legs, .int .i64 x.souls, .slice A1 n1 c1, .slice B1 m1 d1] rfl rfl 25 _ HZ5.out (by kernel_rfl) rfl (by simp [Value.oneCell']) ?_))
      refine bodyPost_ret (v := .agg #[.int .i64 x.legs, .int .i64 x.souls, .slice A1 n1 c1, .slice B1 m1 d1]) ((HZ5.out.row _).ret (k := 2) (by kernel_rfl) rfl Tryz.underlying25 (by kernel_rfl) (by kernel_rfl)) rfl ?_
      have hKz : Kept (fun k => k = z) wr (wr.setRow z #[.int .i64 x.legs, .int .i64 x.souls, .slice A1 n1 c1, .slice B1 m1 d1]) := (Kept.refl (fun k => k = z) wr).setRow (.inl rfl) _
      exact ⟨A1, n1, c1, B1, m1, d1, xs1, xs2, rfl, (HO1.out.kept catO_good hKz (fun k hk => by omega)).mono catO_good (Nat.le_trans hsz1 hsz), (HO2.out.kept cabC_good hKz (fun k hk => by omega)).mono cabC_good (Nat.le_trans hsz1 hsz), HB5.out.trans (hKz.below HB5.out.size (fun k hk => by omega))⟩
end Go.Proofs.YtoilcdgpeilgaaaGreat
namespace Go.Proofs.YtoilcdgpeilgaaaGreat
open Go.RowKit Go.Shelf
theorem row_lit {w5 w6 : World} {base : Nat} {v : Value} {l : List (List Int)} {xs xs6 : List Value} {x0 : List Int} {A5 : Option Addr} {n5 c5 : Nat} (hO : Own rowO 1 47 w5 base v l xs) (h5 : base ≤ w5.heap.size) (hs : w5.heap.size ≤ w6.heap.size)
    (hO6 : Own intC 1 3 w6 w5.heap.size (.slice A5 n5 c5) x0 xs6) :
    Sl rowO 1 (w6.alloc (.cells #[.slice A5 n5 c5] 47)) (Beside base v) (some ⟨w6.heap.size, 0, none⟩) 1 1 [x0] := by
  have hne : ∀ k, w5.heap.size ≤ k → some k ≠ v.ownBlock := fun k hk e => by have := (hO.lt k e.symm).2; omega
  exact Sl.lit1 w6 (Beside base v) 47 x0 [.slice A5 n5 c5] ⟨_, rfl, ⟨xs6, (hO6.bel (bel1 w6 _)).mono intC_good (Nat.zero_le _), fun k hk => ⟨by have := (hO6.lt k hk).1; omega, hne k (hO6.lt k hk).1⟩⟩⟩ ⟨by omega, hne _ hs⟩
instance bndK : CodK bandC 2 := ⟨bandC_good, by omega⟩
set_option maxRecDepth 100000 in
set_option maxHeartbeats 8000000 in
theorem fareOwn_any (x : Fares) (A : Option Addr) (n cap : Nat) (B : Option Addr) (m cap2 : Nat) (w : World) (hf : FareR w A n cap x B m cap2) (hn : n ≤ 1000) (hm : m ≤ 1000) (hh : ∀ c ∈ x.leg, c.length ≤ 1000) :
    Calls Tryz.prog 202 #[.agg #[.slice A n cap, .int .i64 x.alone, .int .i64 x.third, .slice B m cap2, .int .i64 x.down]] w fun e w' => ∃ A1 n1 c1 B1 m1 d1 xs1 xs2, e = .returned (.agg #[.slice A1 n1 c1, .int .i64 x.alone, .int .i64 x.third, .slice B1 m1 d1, .int .i64 x.down]) ∧ Own rowO 1 47 w' w.heap.size (.slice A1 n1 c1) x.leg xs1 ∧ Own bandC 2 186 w' w.heap.size (.slice B1 m1 d1) x.bands xs2 ∧ Below w.heap.size w w' := by
  have hc := hf.leg
  have HCB := Lib.hid (fun W h => Clone_bnd B m cap2 x.bands W h (by omega))
  have HLN := Lib.hid hc.len
  have HC := Lib.hid hc
  have HD := Lib.hid hf.bands
  have HH := Lib.hid hh
  clear hh
  clear hc hf
  go_enter Tryz.func202, Tryz.ntmps202
  go_upto_region 0 with (fail)
  go_cut [1, 2] (fun p p2 wx => ∃ g z, p = .pointer (some ⟨g, 0, none⟩) ∧ p2 = .pointer (some ⟨z, 0, none⟩) ∧ w.heap.size ≤ g ∧ w.heap.size ≤ z ∧ g ≠ z ∧ Blk wx g #[.slice A n cap, .int .i64 x.alone, .int .i64 x.third, .slice B m cap2, .int .i64 x.down] 29 ∧ Blk wx z #[.slice none 0 0, .int .i64 0, .int .i64 0, .slice none 0 0, .int .i64 0] 29 ∧ Below w.heap.size w wx)
  case first => as_aux_lemma =>
    go_wp2_with fail
    go_meet
    exact ⟨_, _, rfl, rfl, Nat.le_refl _, by omega, by omega, blk2_0 _ _ _, blk2_1 _ _ _, bel2 _ _ _⟩
  obtain ⟨g, z, rfl, rfl, hg, hz, hgz, hG, hZ, hb⟩ := hcut
  obtain ⟨W1, hW1⟩ : ∃ V, V = wc := ⟨_, rfl⟩
  subst hW1
  have hsz1 := hb.size
  go_upto_region 1 with (fail)
  go_cut [3] (fun p wx => ∃ q, p = .pointer (some ⟨q, 0, none⟩) ∧ W1.heap.size ≤ q ∧ Blk wx q #[.slice A n cap, .int .i64 x.alone, .int .i64 x.third, .slice B m cap2, .int .i64 x.down] 29 ∧ Below W1.heap.size W1 wx)
  case first => as_aux_lemma =>
    go_wp2_with (first | (refine wpList_load_row rfl 29 (.tmp 1) rfl g rfl 29 _ (0, 0) _ hG Tryz.underlying29 rfl (by kernel_rfl) ?_) | (refine wpList_store_row rfl 29 (.tmp 3) (.tmp 6) rfl W1.heap.size #[.slice A n cap, .int .i64 x.alone, .int .i64 x.third, .slice B m cap2, .int .i64 x.down] rfl rfl 29 _ (Blk.new W1 #[.slice none 0 0, .int .i64 0, .int .i64 0, .slice none 0 0, .int .i64 0] 29) (by kernel_rfl) rfl (by simp [Value.oneCell']) ?_))
    go_meet
    exact ⟨_, rfl, Nat.le_refl _, (Blk.new _ _ _).row _, below_setRow (bel1 _ _) (Nat.le_refl _) _⟩
  obtain ⟨q, rfl, hq, hQ, hb2⟩ := hcut
  have hgl := hG.lt
  have hzl := hZ.lt
  have hql := hQ.lt
  replace hG := hG.bel hb2
  replace hZ := hZ.bel hb2
  replace hb := hb.trans (hb2.mono hb.size)
  have hsz := hb2.size
  clear hb2
  obtain ⟨W2, hW2⟩ : ∃ V, V = wc := ⟨_, rfl⟩
  subst hW2
  have g3 : W2.cell? ⟨g, 3, none⟩ = some (.slice B m cap2) := hG.cell rfl
  have HCALL := Lib.hid (HCB.out W2 (HD.out.below bandC_good (by omega) hb))
  have HG := Lib.hid hG
  clear hG
  have HZ := Lib.hid hZ
  clear hZ
  have HQ := Lib.hid hQ
  clear hQ
  go_wp2_with fail
  refine HCALL.out.mono ?_
  rintro e w3 ⟨vb, xs2, rfl, hO2, hb3⟩
  obtain ⟨B1, m1, d1, rfl, _⟩ := hO2.sl bandC_good
  have hQ3 := HQ.out.bel hb3
  have q2 : w3.cell? ⟨q, 0, none⟩ = some (.slice A n cap) := hQ3.cell rfl
  have q3 : w3.cell? ⟨q, 3, none⟩ = some (.slice B m cap2) := hQ3.cell rfl
  have f2 : w3.frozen? ⟨q, 0, none⟩ = false := hQ3.free 0
  have f3 : w3.frozen? ⟨q, 3, none⟩ = false := hQ3.free 3
  have HQ3 := Lib.hid hQ3
  have HO2 := Lib.hid hO2
  have HB3 := Lib.hid hb3
  clear hQ3 hO2 hb3 g3
  go_upto_region 3 with (fail)
  have hQ4 : Blk ((w3.setCell ⟨q, 0, none⟩ (.slice none 0 0)).setCell ⟨q, 3, none⟩ (.slice B1 m1 d1)) q #[.slice none 0 0, .int .i64 x.alone, .int .i64 x.third, .slice B1 m1 d1, .int .i64 x.down] 29 := (HQ3.out.set (j := 0) _).set (j := 3) _
  have hK : Kept (fun k => k = q) w3 ((w3.setCell ⟨q, 0, none⟩ (.slice none 0 0)).setCell ⟨q, 3, none⟩ (.slice B1 m1 d1)) := ((Kept.refl (fun k => k = q) w3).setCell (p := ⟨q, 0, none⟩) (.inl rfl) _).setCell (p := ⟨q, 3, none⟩) (.inl rfl) _
  obtain ⟨W4, hW4⟩ : ∃ V, V = (w3.setCell ⟨q, 0, none⟩ (.slice none 0 0)).setCell ⟨q, 3, none⟩ (.slice B1 m1 d1) := ⟨_, rfl⟩
  rw [← hW4] at hQ4 hK ⊢
  have hG4 := (HG.out.bel HB3.out).kept hK (by omega)
  have hZ4 := (HZ.out.bel HB3.out).kept hK (by omega)
  have hO4 := HO2.out.kept bandC_good hK (fun k hk => by omega)
  have hb4 : Below w.heap.size w W4 := (hb.trans (HB3.out.mono hb.size)).trans (hK.below (by have := HB3.out.size; omega) (fun k hk => by omega))
  have g2 : W4.cell? ⟨g, 0, none⟩ = some (.slice A n cap) := hG4.cell rfl
  have hsz4 : W2.heap.size ≤ W4.heap.size := by have := HB3.out.size; have := hK.size; omega
  have HQ4 := Lib.hid hQ4
  clear hQ4
  have HZ4 := Lib.hid hZ4
  clear hZ4
  have HO4 := Lib.hid hO4
  clear hO4
  have HB4 := Lib.hid hb4
  clear hb4
  clear hW4 hK hG4 q2 q3 f2 f3 hb
  go_wp2_with fail
  go_loopg [15] n (fun gk i wr => ∃ (k : Nat) (A1 : Option Addr) (n1 c1 : Nat) (xs1 : List Value), k ≤ n ∧ n - k ≤ gk ∧ i = .int .i64 k ∧ Blk wr q #[.slice A1 n1 c1, .int .i64 x.alone, .int .i64 x.third, .slice B1 m1 d1, .int .i64 x.down] 29 ∧ Own rowO 1 47 wr W2.heap.size (.slice A1 n1 c1) (x.leg.take k) xs1 ∧ Own bandC 2 186 wr W2.heap.size (.slice B1 m1 d1) x.bands xs2 ∧ Apart (.slice B1 m1 d1) (.slice A1 n1 c1) ∧ Blk wr z #[.slice none 0 0, .int .i64 0, .int .i64 0, .slice none 0 0, .int .i64 0] 29 ∧ Below w.heap.size w wr ∧ W2.heap.size ≤ wr.heap.size)
  case atStart => exact ⟨0, none, 0, 0, [], Nat.zero_le _, by omega, rfl, HQ4.out, Own.nil _ _ _ _ _, HO4.out, (Apart.nilL _).symm, HZ4.out, HB4.out, hsz4⟩
  case round =>
    clear g2
    obtain ⟨k, A1, n1, c1, xs1, hk, hgk, rfl, hQ, hO1, hO2, hap, hZ, hb, hws⟩ := hrel
    by_cases hlt : k < n
    · obtain ⟨b, off, hi, d0, hA, hx, ⟨A2, n2, c2, hcs, hs2⟩, e0⟩ := (HC.out.below (slC_good intC_good (by omega)) (by omega) hb).at1 hlt
      simp only [List.cons.injEq, and_true] at hcs
      subst hcs
      subst hA
      go_upto_region 5 with (fail)
      go_cut [5] (fun p1 wx => p1 = .slice A2 n2 c2 ∧ wr = wx)
      case first => as_aux_lemma =>
        go_wp2_with fail
        go_meet
        exact ⟨rfl, rfl⟩
      obtain ⟨rfl, rfl⟩ := hcut
      have hl1 := hO1.lt
      have hq1 : some q ≠ (Value.slice A1 n1 c1).ownBlock := fun e => by have := (hl1 q e.symm).1; omega
      have hz1 : some z ≠ (Value.slice A1 n1 c1).ownBlock := fun e => by have := (hl1 z e.symm).1; omega
      obtain ⟨W5, hW5⟩ : ∃ V, V = wr := ⟨_, rfl⟩
      subst hW5
      have hws5 := hws
      have hhi : hi.length ≤ 1000 := HH.out _ (List.mem_of_getElem? hx)
      have hn2 := hs2.len
      have HCL := Lib.hid (fun X (hX : Below W5.heap.size W5 X) => Clone_int A2 n2 c2 hi X (hs2.bel hX) (by omega))
      have l1 : W5.cell? ⟨q, 0, none⟩ = some (.slice A1 n1 c1) := hQ.cell rfl
      have hby1 : ((x.leg.take k).length + 1) * 24 ≤ 140737488355328 := by rw [List.length_take]; omega
      have HTK := Lib.hid (take_snoc hx)
      have HQ5 := Lib.hid hQ
      clear hQ
      have HO1 := Lib.hid hO1
      clear hO1
      have HO2 := Lib.hid hO2
      clear hO2
      have HZ5 := Lib.hid hZ
      clear hZ
      have HB5 := Lib.hid hb
      clear hb
      have hbx : Below W5.heap.size W5 W5.drew := (Below.refl _ W5).drew
      clear hx hs2 e0 hl1 hn2 hhi
      go_upto_region 6 with (fail)
      refine wp_region_held_drew (S := (fun _ => True)) (by kernel_rfl) (trivial) (fun hHeld => ?_)
      refine wpAnyH_take (i := 0) (v := ?v9) (gA rfl) (by kernel_rfl) (by kernel_rfl) (by kernel_rfl) (fun _ _ _ h => h) (Or.inl ⟨rfl, ?y9⟩) (by assumption) ?_
      case y9 => (intro w hSw; (try dsimp only at hSw); go_simp <;> with_reducible rfl)
      simp only [Act.put, List.setIfInBounds_toArray, List.set_cons_zero, List.set_cons_succ]
      refine wpAnyH_take (i := 2) (v := ?v10) (gA rfl) (by kernel_rfl) (by kernel_rfl) (by kernel_rfl) (fun _ _ _ h => h) (Or.inl ⟨rfl, ?y10⟩) (by assumption) ?_
      case y10 => (intro w hSw; (try dsimp only at hSw); go_simp <;> with_reducible rfl)
      simp only [Act.put, List.setIfInBounds_toArray, List.set_cons_zero, List.set_cons_succ]
      refine wpAnyH_ready (rs := [1, 3]) (by kernel_rfl) (by simp) ?_
      refine AllReadyH.cons (gA rfl) (fun K hK => ?_) ?m_1
      case m_1 =>
        refine AllReadyH.cons (gA rfl) (fun K hK => ?_) AllReadyH.nil
        go_simp
        (go_at_call 243; refine (HCL.out _ hbx).mono ?_; rintro e w6 ⟨v6, xs6, rfl, hO6, hb6⟩; obtain ⟨A5, n5, c5, rfl, _⟩ := hO6.sl intC_good; replace hbx := hbx.trans (hb6.mono hbx.size); have l2 := cellB hbx l1)
        go_wp2_with fail
        refine hK.out _ _ ?_ (fun hHeld => ?_)
        · exact trivial
        clear hK K
        try simp only [Act.put, List.setIfInBounds_toArray, List.set_cons_zero, List.set_cons_succ]
        refine wpAnyH_ready (rs := [1, 4]) (by kernel_rfl) (by simp) ?_
        refine AllReadyH.cons (gA rfl) (fun K hK => ?_) ?m_3
        case m_3 =>
          refine AllReadyH.cons (gA rfl) (fun K hK => ?_) AllReadyH.nil
          go_simp
          refine hK.out _ _ ?_ (fun hHeld => ?_)
          · exact trivial
          clear hK K
          try simp only [Act.put, List.setIfInBounds_toArray, List.set_cons_zero, List.set_cons_succ]
          (have hs6 := hbx.size; replace hbx := hbx.alloc hbx.size (.cells #[.slice A5 n5 c5] 47); have l3 := cellB hbx l1)
          refine wpAnyH_ready (rs := [1]) (by kernel_rfl) (by simp) ?_
          refine AllReadyH.cons (gA rfl) (fun K hK => ?_) AllReadyH.nil
          go_simp
          refine hK.out _ _ ?_ (fun hHeld => ?_)
          · exact trivial
          clear hK K
          try simp only [Act.put, List.setIfInBounds_toArray, List.set_cons_zero, List.set_cons_succ]
          refine wpAnyH_ready (rs := [5]) (by kernel_rfl) (by simp) (AllReadyH.cons (gA rfl) (fun K hK => ?_) AllReadyH.nil)
          (have hOq := HO1.out.bel hbx; have hSq := row_lit (x0 := hi) HO1.out hws5 hs6 hO6; have hsq := Nat.le_trans hws5 hbx.size; refine step_app (t := 26) (e := 47) (bytes := 24) (base := W2.heap.size) (c := rowO) (l := x.leg.take k) (xs := xs1) (l2 := [hi]) (S := Beside W2.heap.size (.slice A1 n1 c1)) rfl (.tmp 20) (.tmp 23) rfl row_elem rowO_good rfl rfl hOq hSq (fun _ _ h => h) hby1 (by omega) hsq ?_; intro v' w7 xs' hown' hg' hat'; obtain ⟨A8, n8, c8, rfl, _⟩ := hown'.sl rowO_good; have hQ7 := (HQ5.out.bel hbx).grown hg' hq1; have m2 : w7.cell? ⟨q, 0, none⟩ = some (.slice A1 n1 c1) := hQ7.cell rfl; have mf : w7.frozen? ⟨q, 0, none⟩ = false := hQ7.free 0)
          refine hK.out _ _ ?_ (fun hHeld => ?_)
          · exact trivial
          clear hK K
          try simp only [Act.put, List.setIfInBounds_toArray, List.set_cons_zero, List.set_cons_succ]
          refine wpAnyH_take (i := 6) (v := ?v12) (gA rfl) (by kernel_rfl) (by kernel_rfl) (by kernel_rfl) (fun _ _ _ h => h) (Or.inl ⟨rfl, ?y12⟩) (by assumption) ?_
          case y12 => (intro w hSw; (try dsimp only at hSw); go_simp <;> with_reducible rfl)
          simp only [Act.put, List.setIfInBounds_toArray, List.set_cons_zero, List.set_cons_succ]
          refine wpAnyH_ready (rs := [7]) (by kernel_rfl) (by simp) (AllReadyH.cons (gA rfl) (fun K hK => ?_) AllReadyH.nil)
          go_simp
          refine hK.out _ _ ?_ (fun hHeld => ?_)
          · exact trivial
          clear hK K
          try simp only [Act.put, List.setIfInBounds_toArray, List.set_cons_zero, List.set_cons_succ]
          have hKq : Kept (fun k => k = q) w7 (w7.setCell ⟨q, 0, none⟩ (.slice A8 n8 c8)) := (Kept.refl (fun k => k = q) w7).setCell (p := ⟨q, 0, none⟩) (.inl rfl) _
          have p1 := hown'.kept rowO_good hKq (fun k hk => by omega)
          have p2 := ((HO2.out.bel hbx).grownF bandC_flat hg' hap).kept bandC_good hKq (fun k hk => by omega)
          have p3 := Apart.step hap (fun k hk => ((HO2.out.bel hbx).lt k hk).2) hat'
          have p4 := (((HZ5.out.bel hbx).grown hg' hz1).kept hKq (by omega))
          have p5 := (below_app (HB5.out.trans (hbx.mono HB5.out.size)) (hOq.mono rowO_good (Nat.le_trans hsz1 hsz)) hg' (by have := HB5.out.size; omega)).setCell (p := ⟨q, 0, none⟩) (show w.heap.size ≤ q by omega) (.slice A8 n8 c8)
          have p6 := hQ7.set (j := 0) (.slice A8 n8 c8)
          have p7 : W2.heap.size ≤ (w7.setCell ⟨q, 0, none⟩ (.slice A8 n8 c8)).heap.size := by have := hg'.size; have := hKq.size; omega
          rw [← HTK.out] at p1
          clear hOq hSq hown' hQ7 m2 mf hKq hg' hat' hO6 hb6
          refine wpAnyH_done (by kernel_rfl) ?_ _
          go_wp2_with fail
          go_roundg (n - (k + 1))
          case measure => omega
          case rel => exact ⟨k + 1, A8, n8, c8, xs', by omega, by omega, by go_num, p6, p1, p2, p3, p4, p5, p7⟩
        go_simp
        refine hK.out _ _ ?_ (fun hHeld => ?_)
        · exact trivial
        clear hK K
        try simp only [Act.put, List.setIfInBounds_toArray, List.set_cons_zero, List.set_cons_succ]
        refine wpAnyH_ready (rs := [4]) (by kernel_rfl) (by simp) ?_
        refine AllReadyH.cons (gA rfl) (fun K hK => ?_) AllReadyH.nil
        go_simp
        refine hK.out _ _ ?_ (fun hHeld => ?_)
        · exact trivial
        clear hK K
        try simp only [Act.put, List.setIfInBounds_toArray, List.set_cons_zero, List.set_cons_succ]
        (have hs6 := hbx.size; replace hbx := hbx.alloc hbx.size (.cells #[.slice A5 n5 c5] 47); have l3 := cellB hbx l1)
        refine wpAnyH_ready (rs := [5]) (by kernel_rfl) (by simp) (AllReadyH.cons (gA rfl) (fun K hK => ?_) AllReadyH.nil)
        (have hOq := HO1.out.bel hbx; have hSq := row_lit (x0 := hi) HO1.out hws5 hs6 hO6; have hsq := Nat.le_trans hws5 hbx.size; refine step_app (t := 26) (e := 47) (bytes := 24) (base := W2.heap.size) (c := rowO) (l := x.leg.take k) (xs := xs1) (l2 := [hi]) (S := Beside W2.heap.size (.slice A1 n1 c1)) rfl (.tmp 20) (.tmp 23) rfl row_elem rowO_good rfl rfl hOq hSq (fun _ _ h => h) hby1 (by omega) hsq ?_; intro v' w7 xs' hown' hg' hat'; obtain ⟨A8, n8, c8, rfl, _⟩ := hown'.sl rowO_good; have hQ7 := (HQ5.out.bel hbx).grown hg' hq1; have m2 : w7.cell? ⟨q, 0, none⟩ = some (.slice A1 n1 c1) := hQ7.cell rfl; have mf : w7.frozen? ⟨q, 0, none⟩ = false := hQ7.free 0)
        refine hK.out _ _ ?_ (fun hHeld => ?_)
        · exact trivial
        clear hK K
        try simp only [Act.put, List.setIfInBounds_toArray, List.set_cons_zero, List.set_cons_succ]
        refine wpAnyH_take (i := 6) (v := ?v15) (gA rfl) (by kernel_rfl) (by kernel_rfl) (by kernel_rfl) (fun _ _ _ h => h) (Or.inl ⟨rfl, ?y15⟩) (by assumption) ?_
        case y15 => (intro w hSw; (try dsimp only at hSw); go_simp <;> with_reducible rfl)
        simp only [Act.put, List.setIfInBounds_toArray, List.set_cons_zero, List.set_cons_succ]
        refine wpAnyH_ready (rs := [7]) (by kernel_rfl) (by simp) (AllReadyH.cons (gA rfl) (fun K hK => ?_) AllReadyH.nil)
        go_simp
        refine hK.out _ _ ?_ (fun hHeld => ?_)
        · exact trivial
        clear hK K
        try simp only [Act.put, List.setIfInBounds_toArray, List.set_cons_zero, List.set_cons_succ]
        have hKq : Kept (fun k => k = q) w7 (w7.setCell ⟨q, 0, none⟩ (.slice A8 n8 c8)) := (Kept.refl (fun k => k = q) w7).setCell (p := ⟨q, 0, none⟩) (.inl rfl) _
        have p1 := hown'.kept rowO_good hKq (fun k hk => by omega)
        have p2 := ((HO2.out.bel hbx).grownF bandC_flat hg' hap).kept bandC_good hKq (fun k hk => by omega)
        have p3 := Apart.step hap (fun k hk => ((HO2.out.bel hbx).lt k hk).2) hat'
        have p4 := (((HZ5.out.bel hbx).grown hg' hz1).kept hKq (by omega))
        have p5 := (below_app (HB5.out.trans (hbx.mono HB5.out.size)) (hOq.mono rowO_good (Nat.le_trans hsz1 hsz)) hg' (by have := HB5.out.size; omega)).setCell (p := ⟨q, 0, none⟩) (show w.heap.size ≤ q by omega) (.slice A8 n8 c8)
        have p6 := hQ7.set (j := 0) (.slice A8 n8 c8)
        have p7 : W2.heap.size ≤ (w7.setCell ⟨q, 0, none⟩ (.slice A8 n8 c8)).heap.size := by have := hg'.size; have := hKq.size; omega
        rw [← HTK.out] at p1
        clear hOq hSq hown' hQ7 m2 mf hKq hg' hat' hO6 hb6
        refine wpAnyH_done (by kernel_rfl) ?_ _
        go_wp2_with fail
        go_roundg (n - (k + 1))
        case measure => omega
        case rel => exact ⟨k + 1, A8, n8, c8, xs', by omega, by omega, by go_num, p6, p1, p2, p3, p4, p5, p7⟩
      go_simp
      refine hK.out _ _ ?_ (fun hHeld => ?_)
      · exact trivial
      clear hK K
      try simp only [Act.put, List.setIfInBounds_toArray, List.set_cons_zero, List.set_cons_succ]
      refine wpAnyH_ready (rs := [3]) (by kernel_rfl) (by simp) ?_
      refine AllReadyH.cons (gA rfl) (fun K hK => ?_) AllReadyH.nil
      go_simp
      (go_at_call 243; refine (HCL.out _ hbx).mono ?_; rintro e w6 ⟨v6, xs6, rfl, hO6, hb6⟩; obtain ⟨A5, n5, c5, rfl, _⟩ := hO6.sl intC_good; replace hbx := hbx.trans (hb6.mono hbx.size); have l2 := cellB hbx l1)
      go_wp2_with fail
      refine hK.out _ _ ?_ (fun hHeld => ?_)
      · exact trivial
      clear hK K
      try simp only [Act.put, List.setIfInBounds_toArray, List.set_cons_zero, List.set_cons_succ]
      refine wpAnyH_ready (rs := [4]) (by kernel_rfl) (by simp) ?_
      refine AllReadyH.cons (gA rfl) (fun K hK => ?_) AllReadyH.nil
      go_simp
      refine hK.out _ _ ?_ (fun hHeld => ?_)
      · exact trivial
      clear hK K
      try simp only [Act.put, List.setIfInBounds_toArray, List.set_cons_zero, List.set_cons_succ]
      (have hs6 := hbx.size; replace hbx := hbx.alloc hbx.size (.cells #[.slice A5 n5 c5] 47); have l3 := cellB hbx l1)
      refine wpAnyH_ready (rs := [5]) (by kernel_rfl) (by simp) (AllReadyH.cons (gA rfl) (fun K hK => ?_) AllReadyH.nil)
      (have hOq := HO1.out.bel hbx; have hSq := row_lit (x0 := hi) HO1.out hws5 hs6 hO6; have hsq := Nat.le_trans hws5 hbx.size; refine step_app (t := 26) (e := 47) (bytes := 24) (base := W2.heap.size) (c := rowO) (l := x.leg.take k) (xs := xs1) (l2 := [hi]) (S := Beside W2.heap.size (.slice A1 n1 c1)) rfl (.tmp 20) (.tmp 23) rfl row_elem rowO_good rfl rfl hOq hSq (fun _ _ h => h) hby1 (by omega) hsq ?_; intro v' w7 xs' hown' hg' hat'; obtain ⟨A8, n8, c8, rfl, _⟩ := hown'.sl rowO_good; have hQ7 := (HQ5.out.bel hbx).grown hg' hq1; have m2 : w7.cell? ⟨q, 0, none⟩ = some (.slice A1 n1 c1) := hQ7.cell rfl; have mf : w7.frozen? ⟨q, 0, none⟩ = false := hQ7.free 0)
      refine hK.out _ _ ?_ (fun hHeld => ?_)
      · exact trivial
      clear hK K
      try simp only [Act.put, List.setIfInBounds_toArray, List.set_cons_zero, List.set_cons_succ]
      refine wpAnyH_take (i := 6) (v := ?v18) (gA rfl) (by kernel_rfl) (by kernel_rfl) (by kernel_rfl) (fun _ _ _ h => h) (Or.inl ⟨rfl, ?y18⟩) (by assumption) ?_
      case y18 => (intro w hSw; (try dsimp only at hSw); go_simp <;> with_reducible rfl)
      simp only [Act.put, List.setIfInBounds_toArray, List.set_cons_zero, List.set_cons_succ]
      refine wpAnyH_ready (rs := [7]) (by kernel_rfl) (by simp) (AllReadyH.cons (gA rfl) (fun K hK => ?_) AllReadyH.nil)
      go_simp
      refine hK.out _ _ ?_ (fun hHeld => ?_)
      · exact trivial
      clear hK K
      try simp only [Act.put, List.setIfInBounds_toArray, List.set_cons_zero, List.set_cons_succ]
      have hKq : Kept (fun k => k = q) w7 (w7.setCell ⟨q, 0, none⟩ (.slice A8 n8 c8)) := (Kept.refl (fun k => k = q) w7).setCell (p := ⟨q, 0, none⟩) (.inl rfl) _
      have p1 := hown'.kept rowO_good hKq (fun k hk => by omega)
      have p2 := ((HO2.out.bel hbx).grownF bandC_flat hg' hap).kept bandC_good hKq (fun k hk => by omega)
      have p3 := Apart.step hap (fun k hk => ((HO2.out.bel hbx).lt k hk).2) hat'
      have p4 := (((HZ5.out.bel hbx).grown hg' hz1).kept hKq (by omega))
      have p5 := (below_app (HB5.out.trans (hbx.mono HB5.out.size)) (hOq.mono rowO_good (Nat.le_trans hsz1 hsz)) hg' (by have := HB5.out.size; omega)).setCell (p := ⟨q, 0, none⟩) (show w.heap.size ≤ q by omega) (.slice A8 n8 c8)
      have p6 := hQ7.set (j := 0) (.slice A8 n8 c8)
      have p7 : W2.heap.size ≤ (w7.setCell ⟨q, 0, none⟩ (.slice A8 n8 c8)).heap.size := by have := hg'.size; have := hKq.size; omega
      rw [← HTK.out] at p1
      clear hOq hSq hown' hQ7 m2 mf hKq hg' hat' hO6 hb6
      refine wpAnyH_done (by kernel_rfl) ?_ _
      go_wp2_with fail
      go_roundg (n - (k + 1))
      case measure => omega
      case rel => exact ⟨k + 1, A8, n8, c8, xs', by omega, by omega, by go_num, p6, p1, p2, p3, p4, p5, p7⟩
    · obtain rfl : k = n := by omega
      rw [List.take_of_length_le (Nat.le_of_eq HLN.out)] at hO1
      have hzn : z < W2.heap.size := by omega
      have HQ5 := Lib.hid hQ
      clear hQ
      have HO1 := Lib.hid hO1
      clear hO1
      have HO2 := Lib.hid hO2
      clear hO2
      have HZ5 := Lib.hid hZ
      clear hZ
      have HB5 := Lib.hid hb
      clear hb
      go_wp2_with (first | (refine wpList_load_row rfl 29 (.tmp 3) rfl q rfl 29 _ (0, 0) _ HQ5.out Tryz.underlying29 rfl (by kernel_rfl) ?_) | (refine wpList_store_row rfl 29 (.tmp 2) (.tmp 27) rfl z #[.slice A1 n1 c1, .int .i64 x.alone, .int .i64 x.third, .slice B1 m1 d1, .int .i64 x.down] rfl rfl 29 _ HZ5.out (by kernel_rfl) rfl (by simp [Value.oneCell']) ?_))
      refine bodyPost_ret (v := .agg #[.slice A1 n1 c1, .int .i64 x.alone, .int .i64 x.third, .slice B1 m1 d1, .int .i64 x.down]) ((HZ5.out.row _).ret (k := 2) (by kernel_rfl) rfl Tryz.underlying29 (by kernel_rfl) (by kernel_rfl)) rfl ?_
      have hKz : Kept (fun k => k = z) wr (wr.setRow z #[.slice A1 n1 c1, .int .i64 x.alone, .int .i64 x.third, .slice B1 m1 d1, .int .i64 x.down]) := (Kept.refl (fun k => k = z) wr).setRow (.inl rfl) _
      exact ⟨A1, n1, c1, B1, m1, d1, xs1, xs2, rfl, (HO1.out.kept rowO_good hKz (fun k hk => by omega)).mono rowO_good (Nat.le_trans hsz1 hsz), (HO2.out.kept bandC_good hKz (fun k hk => by omega)).mono bandC_good (Nat.le_trans hsz1 hsz), HB5.out.trans (hKz.below HB5.out.size (fun k hk => by omega))⟩
end Go.Proofs.YtoilcdgpeilgaaaGreat
