/-
  Words, laws and contracts: StockN.
-/
import Derived.Test.YtlablioefblmkaaGreatBun22
set_option linter.unusedSimpArgs false
set_option linter.unusedVariables false
namespace Go.Proofs.YtlablioefblmkaaGreat
open Go.RowKit Go.Shelf
theorem cat_lit {w5 w6 : World} {base : Nat} {v : Value} {l : List Cat} {xs xs6 : List Value} {x0 : Cat} {A5 : Option Addr} {n5 c5 : Nat} (hO : Own catO 2 147 w5 base v l xs) (h5 : base ≤ w5.heap.size) (hs : w5.heap.size ≤ w6.heap.size)
    (hO6 : Own intC 1 3 w6 w5.heap.size (.slice A5 n5 c5) x0.high xs6) (hl : x0.name.length ≤ maxLen) :
    Sl catO 2 (w6.alloc (.cells #[strV x0.name, .slice A5 n5 c5] 147)) (Beside base v) (some ⟨w6.heap.size, 0, none⟩) 1 1 [x0] := by
  have hne : ∀ k, w5.heap.size ≤ k → some k ≠ v.ownBlock := fun k hk e => by have := (hO.lt k e.symm).2; omega
  exact Sl.lit1 w6 (Beside base v) 147 x0 [strV x0.name, .slice A5 n5 c5] ⟨_, rfl, ⟨xs6, (hO6.bel (bel1 w6 _)).mono intC_good (Nat.zero_le _), fun k hk => ⟨by have := (hO6.lt k hk).1; omega, hne k (hO6.lt k hk).1⟩⟩, hl⟩ ⟨by omega, hne _ hs⟩
set_option maxRecDepth 100000 in
set_option maxHeartbeats 8000000 in
theorem shipOwn_any (x : Shp) (A : Option Addr) (n cap : Nat) (B : Option Addr) (m cap2 : Nat) (w : World) (hc : Sl catC 2 w All A n cap x.cats) (hd : Sl cabC 4 w All B m cap2 x.cabs) (hn : n ≤ 1000) (hm : m ≤ 1000) (hh : ∀ c ∈ x.cats, c.high.length ≤ 1000) :
    Calls Tryz.prog 137 #[.agg #[.int .i64 x.legs, .int .i64 x.souls, .slice A n cap, .slice B m cap2]] w fun e w' => ∃ A1 n1 c1 B1 m1 d1 xs1 xs2, e = .returned (.agg #[.int .i64 x.legs, .int .i64 x.souls, .slice A1 n1 c1, .slice B1 m1 d1]) ∧ Own catO 2 147 w' w.heap.size (.slice A1 n1 c1) x.cats xs1 ∧ Own cabC 4 106 w' w.heap.size (.slice B1 m1 d1) x.cabs xs2 ∧ Below w.heap.size w w' := by
  have HCB := Lib.hid (fun W h => Clone_cab B m cap2 x.cabs W h (by omega))
  have HLN := Lib.hid hc.len
  have HC := Lib.hid hc
  have HD := Lib.hid hd
  have HH := Lib.hid hh
  clear hh
  clear hc hd
  go_enter Tryz.func137, Tryz.ntmps137
  go_upto_region 0 with (fail)
  go_cut [1, 2] (fun p p2 wx => ∃ g z, p = .pointer (some ⟨g, 0, none⟩) ∧ p2 = .pointer (some ⟨z, 0, none⟩) ∧ w.heap.size ≤ g ∧ w.heap.size ≤ z ∧ g ≠ z ∧ Blk wx g #[.int .i64 x.legs, .int .i64 x.souls, .slice A n cap, .slice B m cap2] 25 ∧ Blk wx z #[.int .i64 0, .int .i64 0, .slice none 0 0, .slice none 0 0] 25 ∧ Below w.heap.size w wx)
  case first => as_aux_lemma =>
    go_wp2_with fail
    go_meet
    exact ⟨_, _, rfl, rfl, Nat.le_refl _, by omega, by omega, blk2_0 _ _ _, blk2_1 _ _ _, bel2 _ _ _⟩
  obtain ⟨g, z, rfl, rfl, hg, hz, hgz, hG, hZ, hb⟩ := hcut
  obtain ⟨W1, hW1⟩ : ∃ V, V = wc := ⟨_, rfl⟩
  subst hW1
  have hsz1 := hb.size
  go_upto_region 1 with (fail)
  go_cut [3] (fun p wx => ∃ q, p = .pointer (some ⟨q, 0, none⟩) ∧ W1.heap.size ≤ q ∧ Blk wx q #[.int .i64 x.legs, .int .i64 x.souls, .slice A n cap, .slice B m cap2] 25 ∧ Below W1.heap.size W1 wx)
  case first => as_aux_lemma =>
    go_wp2_with (first | (refine wpList_load_row rfl 25 (.tmp 1) rfl g rfl 25 _ (0, 0) _ hG Tryz.underlying25 rfl (by kernel_rfl) ?_) | (refine wpList_store_row rfl 25 (.tmp 3) (.tmp 6) rfl W1.heap.size #[.int .i64 x.legs, .int .i64 x.souls, .slice A n cap, .slice B m cap2] rfl rfl 25 _ (Blk.new W1 #[.int .i64 0, .int .i64 0, .slice none 0 0, .slice none 0 0] 25) (by kernel_rfl) rfl (by simp [Value.oneCell']) ?_))
    go_meet
    exact ⟨_, rfl, Nat.le_refl _, (Blk.new _ _ _).row _, below_setRow (bel1 _ _) (Nat.le_refl _) _⟩
  obtain ⟨q, rfl, hq, hQ, hb2⟩ := hcut
  have hgl := hG.lt
  have hzl := hZ.lt
  have hql := hQ.lt
  replace hG := hG.bel hb2
  replace hZ := hZ.bel hb2
  replace hb := hb.trans (hb2.mono hb.size)
  have hsz := hb2.size
  clear hb2
  obtain ⟨W2, hW2⟩ : ∃ V, V = wc := ⟨_, rfl⟩
  subst hW2
  have g3 : W2.cell? ⟨g, 3, none⟩ = some (.slice B m cap2) := hG.cell rfl
  have HCALL := Lib.hid (HCB.out W2 (HD.out.bel hb))
  have HG := Lib.hid hG
  clear hG
  have HZ := Lib.hid hZ
  clear hZ
  have HQ := Lib.hid hQ
  clear hQ
  go_wp2_with fail
  refine HCALL.out.mono ?_
  rintro e w3 ⟨vb, xs2, rfl, hO2, hb3⟩
  obtain ⟨B1, m1, d1, rfl, _⟩ := hO2.sl cabC_good
  have hQ3 := HQ.out.bel hb3
  have q2 : w3.cell? ⟨q, 2, none⟩ = some (.slice A n cap) := hQ3.cell rfl
  have q3 : w3.cell? ⟨q, 3, none⟩ = some (.slice B m cap2) := hQ3.cell rfl
  have f2 : w3.frozen? ⟨q, 2, none⟩ = false := hQ3.free 2
  have f3 : w3.frozen? ⟨q, 3, none⟩ = false := hQ3.free 3
  have HQ3 := Lib.hid hQ3
  have HO2 := Lib.hid hO2
  have HB3 := Lib.hid hb3
  clear hQ3 hO2 hb3 g3
  go_upto_region 3 with (fail)
  have hQ4 : Blk ((w3.setCell ⟨q, 2, none⟩ (.slice none 0 0)).setCell ⟨q, 3, none⟩ (.slice B1 m1 d1)) q #[.int .i64 x.legs, .int .i64 x.souls, .slice none 0 0, .slice B1 m1 d1] 25 := (HQ3.out.set (j := 2) _).set (j := 3) _
  have hK : Kept (fun k => k = q) w3 ((w3.setCell ⟨q, 2, none⟩ (.slice none 0 0)).setCell ⟨q, 3, none⟩ (.slice B1 m1 d1)) := ((Kept.refl (fun k => k = q) w3).setCell (p := ⟨q, 2, none⟩) (.inl rfl) _).setCell (p := ⟨q, 3, none⟩) (.inl rfl) _
  obtain ⟨W4, hW4⟩ : ∃ V, V = (w3.setCell ⟨q, 2, none⟩ (.slice none 0 0)).setCell ⟨q, 3, none⟩ (.slice B1 m1 d1) := ⟨_, rfl⟩
  rw [← hW4] at hQ4 hK ⊢
  have hG4 := (HG.out.bel HB3.out).kept hK (by omega)
  have hZ4 := (HZ.out.bel HB3.out).kept hK (by omega)
  have hO4 := HO2.out.kept cabC_good hK (fun k hk => by omega)
  have hb4 : Below w.heap.size w W4 := (hb.trans (HB3.out.mono hb.size)).trans (hK.below (by have := HB3.out.size; omega) (fun k hk => by omega))
  have g2 : W4.cell? ⟨g, 2, none⟩ = some (.slice A n cap) := hG4.cell rfl
  have hsz4 : W2.heap.size ≤ W4.heap.size := by have := HB3.out.size; have := hK.size; omega
  have HQ4 := Lib.hid hQ4
  clear hQ4
  have HZ4 := Lib.hid hZ4
  clear hZ4
  have HO4 := Lib.hid hO4
  clear hO4
  have HB4 := Lib.hid hb4
  clear hb4
  clear hW4 hK hG4 q2 q3 f2 f3 hb
  go_wp2_with fail
  go_loopg [15] n (fun gk i wr => ∃ (k : Nat) (A1 : Option Addr) (n1 c1 : Nat) (xs1 : List Value), k ≤ n ∧ n - k ≤ gk ∧ i = .int .i64 k ∧ Blk wr q #[.int .i64 x.legs, .int .i64 x.souls, .slice A1 n1 c1, .slice B1 m1 d1] 25 ∧ Own catO 2 147 wr W2.heap.size (.slice A1 n1 c1) (x.cats.take k) xs1 ∧ Own cabC 4 106 wr W2.heap.size (.slice B1 m1 d1) x.cabs xs2 ∧ Apart (.slice B1 m1 d1) (.slice A1 n1 c1) ∧ Blk wr z #[.int .i64 0, .int .i64 0, .slice none 0 0, .slice none 0 0] 25 ∧ Below w.heap.size w wr ∧ W2.heap.size ≤ wr.heap.size)
  case atStart => exact ⟨0, none, 0, 0, [], Nat.zero_le _, by omega, rfl, HQ4.out, Own.nil _ _ _ _ _, HO4.out, (Apart.nilL _).symm, HZ4.out, HB4.out, hsz4⟩
  case round =>
    clear g2
    obtain ⟨k, A1, n1, c1, xs1, hk, hgk, rfl, hQ, hO1, hO2, hap, hZ, hb, hws⟩ := hrel
    by_cases hlt : k < n
    · obtain ⟨b, off, ⟨nm, hi⟩, d0, e0', hA, hx, ⟨A2, n2, c2, hcs, hs2, hnl⟩, e0, e1⟩ := (HC.out.bel hb).at2 hlt
      simp only [List.cons.injEq, and_true] at hcs
      obtain ⟨rfl, rfl⟩ := hcs
      subst hA
      simp only at hs2 hnl e0
      go_upto_region 5 with (fail)
      go_cut [5] (fun p1 wx => ∃ y, p1 = .pointer (some ⟨y, 0, none⟩) ∧ wr.heap.size ≤ y ∧ Blk wx y #[strV nm, .slice A2 n2 c2] 147 ∧ Below wr.heap.size wr wx)
      case first => as_aux_lemma =>
        go_wp2_with fail
        go_meet
        exact ⟨_, rfl, Nat.le_refl _, blk1 _ _, bel1 _ _⟩
      obtain ⟨y, rfl, hy, hY, hby⟩ := hcut
      have hl1 := hO1.lt
      have hyq : y ≠ q := by omega
      have hy1 : some y ≠ (Value.slice A1 n1 c1).ownBlock := fun e => by have := (hl1 y e.symm).2; omega
      have hq1 : some q ≠ (Value.slice A1 n1 c1).ownBlock := fun e => by have := (hl1 q e.symm).1; omega
      have hz1 : some z ≠ (Value.slice A1 n1 c1).ownBlock := fun e => by have := (hl1 z e.symm).1; omega
      replace hQ := hQ.bel hby
      replace hO1 := hO1.bel hby
      replace hO2 := hO2.bel hby
      replace hZ := hZ.bel hby
      replace hb := hb.trans (hby.mono hb.size)
      replace hs2 := hs2.bel hby
      have hws5 : W2.heap.size ≤ wc.heap.size := by have := hby.size; omega
      obtain ⟨W5, hW5⟩ : ∃ V, V = wc := ⟨_, rfl⟩
      subst hW5
      have hhi : hi.length ≤ 1000 := HH.out _ (List.mem_of_getElem? hx)
      have hn2 := hs2.len
      have HCL := Lib.hid (fun X (hX : Below W5.heap.size W5 X) => Clone_int A2 n2 c2 hi X (hs2.bel hX) (by omega))
      have HSS := Lib.hid (show ∀ X, Below W5.heap.size W5 X → (fun w' => w'.cell? ⟨y, 0, none⟩ = some (strV nm) ∧ w'.cell? ⟨y, 1, none⟩ = some (.slice A2 n2 c2)) X from fun X hX => ⟨(hY.bel hX).cell rfl, (hY.bel hX).cell rfl⟩)
      have l1 : W5.cell? ⟨q, 2, none⟩ = some (.slice A1 n1 c1) := hQ.cell rfl
      have hby1 : ((x.cats.take k).length + 1) * 40 ≤ 140737488355328 := by rw [List.length_take]; omega
      have HTK := Lib.hid (take_snoc hx)
      have HQ5 := Lib.hid hQ
      clear hQ
      have HO1 := Lib.hid hO1
      clear hO1
      have HO2 := Lib.hid hO2
      clear hO2
      have HZ5 := Lib.hid hZ
      clear hZ
      have HB5 := Lib.hid hb
      clear hb
      have HY5 := Lib.hid hY
      clear hY
      have HNL := Lib.hid hnl
      clear hnl
      have hbx : Below W5.heap.size W5 W5.drew := (Below.refl _ W5).drew
      clear hx hs2 e0 e1 hby hl1 hn2 hhi
      go_upto_region 6 with (fail)
      refine wp_region_held_drew (S := (fun w' => w'.cell? ⟨y, 0, none⟩ = some (strV nm) ∧ w'.cell? ⟨y, 1, none⟩ = some (.slice A2 n2 c2))) (by kernel_rfl) (HSS.out _ hbx) (fun hHeld => ?_)
      refine wpAnyH_take (i := 0) (oi := ?o_9) (v := ?v_9) ?h_9 (by kernel_rfl) (by kernel_rfl) (by kernel_rfl) ?q_9 (Or.inl ⟨?w_9, ?y_9⟩) (by assumption) ?_
      case h_9 => (simp only [List.getElem?_toArray, List.getElem?_cons_zero]; rfl)
      case q_9 => exact fun _ _ _ h => h
      case w_9 => rfl
      case y_9 => (intro w hSw; (try dsimp only at hSw); first | (go_simp; done) | (go_simp; with_reducible rfl))
      simp only [Act.put, List.setIfInBounds_toArray, List.set_cons_zero, List.set_cons_succ]
      refine wpAnyH_take (i := 2) (oi := ?o_10) (v := ?v_10) ?h_10 (by kernel_rfl) (by kernel_rfl) (by kernel_rfl) ?q_10 (Or.inl ⟨?w_10, ?y_10⟩) (by assumption) ?_
      case h_10 => (simp only [List.getElem?_toArray, List.getElem?_cons_succ, List.getElem?_cons_zero]; rfl)
      case q_10 => exact fun _ _ _ h => h
      case w_10 => rfl
      case y_10 => (intro w hSw; (try dsimp only at hSw); first | (go_simp; done) | (go_simp; with_reducible rfl))
      simp only [Act.put, List.setIfInBounds_toArray, List.set_cons_zero, List.set_cons_succ]
      refine wpAnyH_take (i := 3) (oi := ?o_11) (v := ?v_11) ?h_11 (by kernel_rfl) (by kernel_rfl) (by kernel_rfl) ?q_11 (Or.inl ⟨?w_11, ?y_11⟩) (by assumption) ?_
      case h_11 => (simp only [List.getElem?_toArray, List.getElem?_cons_succ, List.getElem?_cons_zero]; rfl)
      case q_11 => exact fun _ _ _ h => h
      case w_11 => rfl
      case y_11 => (intro w hSw; (try dsimp only at hSw); first | (go_simp; done) | (go_simp; with_reducible rfl))
      simp only [Act.put, List.setIfInBounds_toArray, List.set_cons_zero, List.set_cons_succ]
      refine wpAnyH_take (i := 4) (oi := ?o_12) (v := ?v_12) ?h_12 (by kernel_rfl) (by kernel_rfl) (by kernel_rfl) ?q_12 (Or.inl ⟨?w_12, ?y_12⟩) (by assumption) ?_
      case h_12 => (simp only [List.getElem?_toArray, List.getElem?_cons_succ, List.getElem?_cons_zero]; rfl)
      case q_12 => exact fun _ _ _ h => h
      case w_12 => rfl
      case y_12 => (intro w hSw; (try dsimp only at hSw); first | (go_simp; done) | (go_simp; with_reducible rfl))
      simp only [Act.put, List.setIfInBounds_toArray, List.set_cons_zero, List.set_cons_succ]
      refine wpAnyH_take (i := 5) (oi := ?o_13) (v := ?v_13) ?h_13 (by kernel_rfl) (by kernel_rfl) (by kernel_rfl) ?q_13 (Or.inl ⟨?w_13, ?y_13⟩) (by assumption) ?_
      case h_13 => (simp only [List.getElem?_toArray, List.getElem?_cons_succ, List.getElem?_cons_zero]; rfl)
      case q_13 => exact fun _ _ _ h => h
      case w_13 => rfl
      case y_13 => (intro w hSw; (try dsimp only at hSw); first | (go_simp; done) | (go_simp; with_reducible rfl))
      simp only [Act.put, List.setIfInBounds_toArray, List.set_cons_zero, List.set_cons_succ]
      refine wpAnyH_ready (rs := [1, 6]) (by kernel_rfl) (by simp) ?_
      refine AllReadyH.cons (o := ?o_1) ?h_1 (fun K hK => ?_) ?m_1
      case h_1 => (simp only [List.getElem?_toArray, List.getElem?_cons_succ, List.getElem?_cons_zero]; rfl)
      case m_1 =>
        refine AllReadyH.cons (o := ?o_2) ?h_2 (fun K hK => ?_) AllReadyH.nil
        case h_2 => (simp only [List.getElem?_toArray, List.getElem?_cons_succ, List.getElem?_cons_zero]; rfl)
        go_simp
        (go_at_call 188; refine (HCL.out _ hbx).mono ?_; rintro e w6 ⟨v6, xs6, rfl, hO6, hb6⟩; obtain ⟨A5, n5, c5, rfl, _⟩ := hO6.sl intC_good; replace hbx := hbx.trans (hb6.mono hbx.size); have l2 := cellB hbx l1)
        go_wp2_with fail
        refine hK.out _ _ ?_ (fun hHeld => ?_)
        · exact HSS.out _ hbx
        clear hK K
        try simp only [Act.put, List.setIfInBounds_toArray, List.set_cons_zero, List.set_cons_succ]
        refine wpAnyH_take (i := 7) (oi := ?o_14) (v := ?v_14) ?h_14 (by kernel_rfl) (by kernel_rfl) (by kernel_rfl) ?q_14 (Or.inl ⟨?w_14, ?y_14⟩) (by assumption) ?_
        case h_14 => (simp only [List.getElem?_toArray, List.getElem?_cons_succ, List.getElem?_cons_zero]; rfl)
        case q_14 => exact fun _ _ _ h => h
        case w_14 => rfl
        case y_14 => (intro w hSw; (try dsimp only at hSw); first | (go_simp; done) | (go_simp; with_reducible rfl))
        simp only [Act.put, List.setIfInBounds_toArray, List.set_cons_zero, List.set_cons_succ]
        refine wpAnyH_ready (rs := [1, 8]) (by kernel_rfl) (by simp) ?_
        refine AllReadyH.cons (o := ?o_3) ?h_3 (fun K hK => ?_) ?m_3
        case h_3 => (simp only [List.getElem?_toArray, List.getElem?_cons_succ, List.getElem?_cons_zero]; rfl)
        case m_3 =>
          refine AllReadyH.cons (o := ?o_4) ?h_4 (fun K hK => ?_) AllReadyH.nil
          case h_4 => (simp only [List.getElem?_toArray, List.getElem?_cons_succ, List.getElem?_cons_zero]; rfl)
          go_simp
          refine hK.out _ _ ?_ (fun hHeld => ?_)
          · exact HSS.out _ (hbx.alloc hbx.size (.cells #[strV nm, .slice A5 n5 c5] 147))
          clear hK K
          try simp only [Act.put, List.setIfInBounds_toArray, List.set_cons_zero, List.set_cons_succ]
          (have hs6 := hbx.size; replace hbx := hbx.alloc hbx.size (.cells #[strV nm, .slice A5 n5 c5] 147); have l3 := cellB hbx l1)
          refine wpAnyH_ready (rs := [1]) (by kernel_rfl) (by simp) ?_
          refine AllReadyH.cons (o := ?o_5) ?h_5 (fun K hK => ?_) AllReadyH.nil
          case h_5 => (simp only [List.getElem?_toArray, List.getElem?_cons_succ, List.getElem?_cons_zero]; rfl)
          go_simp
          refine hK.out _ _ ?_ (fun hHeld => ?_)
          · exact HSS.out _ hbx
          clear hK K
          try simp only [Act.put, List.setIfInBounds_toArray, List.set_cons_zero, List.set_cons_succ]
          refine wpAnyH_ready (rs := [9]) (by kernel_rfl) (by simp) ?_
          refine AllReadyH.cons (o := ?o_15) ?h_15 (fun K hK => ?_) AllReadyH.nil
          case h_15 => (simp only [List.getElem?_toArray, List.getElem?_cons_succ, List.getElem?_cons_zero]; rfl)
          (have hOq := HO1.out.bel hbx; have hSq := cat_lit (x0 := ⟨nm, hi⟩) HO1.out hws5 hs6 hO6 HNL.out; have hsq := Nat.le_trans hws5 hbx.size; refine step_app (t := 22) (e := 147) (bytes := 40) (base := W2.heap.size) (c := catO) (l := x.cats.take k) (xs := xs1) (l2 := [⟨nm, hi⟩]) (S := Beside W2.heap.size (.slice A1 n1 c1)) rfl (.tmp 20) (.tmp 27) rfl cat_elem2 catO_good rfl rfl hOq hSq (fun _ _ h => h) hby1 (by omega) hsq ?_; intro v' w7 xs' hown' hg' hat'; obtain ⟨A8, n8, c8, rfl, _⟩ := hown'.sl catO_good; have hY7 := (HY5.out.bel hbx).grown hg' hy1; have hQ7 := (HQ5.out.bel hbx).grown hg' hq1; have m2 : w7.cell? ⟨q, 2, none⟩ = some (.slice A1 n1 c1) := hQ7.cell rfl; have mf : w7.frozen? ⟨q, 2, none⟩ = false := hQ7.free 2)
          refine hK.out _ _ ?_ (fun hHeld => ?_)
          · exact ⟨hY7.cell rfl, hY7.cell rfl⟩
          clear hK K
          try simp only [Act.put, List.setIfInBounds_toArray, List.set_cons_zero, List.set_cons_succ]
          refine wpAnyH_take (i := 10) (oi := ?o_16) (v := ?v_16) ?h_16 (by kernel_rfl) (by kernel_rfl) (by kernel_rfl) ?q_16 (Or.inl ⟨?w_16, ?y_16⟩) (by assumption) ?_
          case h_16 => (simp only [List.getElem?_toArray, List.getElem?_cons_succ, List.getElem?_cons_zero]; rfl)
          case q_16 => exact fun _ _ _ h => h
          case w_16 => rfl
          case y_16 => (intro w hSw; (try dsimp only at hSw); first | (go_simp; done) | (go_simp; with_reducible rfl))
          simp only [Act.put, List.setIfInBounds_toArray, List.set_cons_zero, List.set_cons_succ]
          refine wpAnyH_ready (rs := [11]) (by kernel_rfl) (by simp) ?_
          refine AllReadyH.cons (o := ?o_17) ?h_17 (fun K hK => ?_) AllReadyH.nil
          case h_17 => (simp only [List.getElem?_toArray, List.getElem?_cons_succ, List.getElem?_cons_zero]; rfl)
          go_simp
          refine hK.out _ _ ?_ (fun hHeld => ?_)
          · exact ⟨(hY7.other (p := ⟨q, 2, none⟩) (fun e => hyq e.symm) _).cell rfl, (hY7.other (p := ⟨q, 2, none⟩) (fun e => hyq e.symm) _).cell rfl⟩
          clear hK K
          try simp only [Act.put, List.setIfInBounds_toArray, List.set_cons_zero, List.set_cons_succ]
          have hKq : Kept (fun k => k = q) w7 (w7.setCell ⟨q, 2, none⟩ (.slice A8 n8 c8)) := (Kept.refl (fun k => k = q) w7).setCell (p := ⟨q, 2, none⟩) (.inl rfl) _
          have p1 := hown'.kept catO_good hKq (fun k hk => by omega)
          have p2 := ((HO2.out.bel hbx).grownF cabC_flat hg' hap).kept cabC_good hKq (fun k hk => by omega)
          have p3 := Apart.step hap (fun k hk => ((HO2.out.bel hbx).lt k hk).2) hat'
          have p4 := (((HZ5.out.bel hbx).grown hg' hz1).kept hKq (by omega))
          have p5 := (below_app (HB5.out.trans (hbx.mono HB5.out.size)) (hOq.mono catO_good (Nat.le_trans hsz1 hsz)) hg' (by have := HB5.out.size; omega)).setCell (p := ⟨q, 2, none⟩) (show w.heap.size ≤ q by omega) (.slice A8 n8 c8)
          have p6 := hQ7.set (j := 2) (.slice A8 n8 c8)
          have p7 : W2.heap.size ≤ (w7.setCell ⟨q, 2, none⟩ (.slice A8 n8 c8)).heap.size := by have := hg'.size; have := hKq.size; omega
          rw [← HTK.out] at p1
          clear hOq hSq hown' hY7 hQ7 m2 mf hKq hg' hat' hO6 hb6
          refine wpAnyH_done (by kernel_rfl) ?_ _
          go_wp2_with fail
          go_roundg (n - (k + 1))
          case measure => omega
          case rel => exact ⟨k + 1, A8, n8, c8, xs', by omega, by omega, by go_num, p6, p1, p2, p3, p4, p5, p7⟩
        go_simp
        refine hK.out _ _ ?_ (fun hHeld => ?_)
        · exact HSS.out _ hbx
        clear hK K
        try simp only [Act.put, List.setIfInBounds_toArray, List.set_cons_zero, List.set_cons_succ]
        refine wpAnyH_ready (rs := [8]) (by kernel_rfl) (by simp) ?_
        refine AllReadyH.cons (o := ?o_6) ?h_6 (fun K hK => ?_) AllReadyH.nil
        case h_6 => (simp only [List.getElem?_toArray, List.getElem?_cons_succ, List.getElem?_cons_zero]; rfl)
        go_simp
        refine hK.out _ _ ?_ (fun hHeld => ?_)
        · exact HSS.out _ (hbx.alloc hbx.size (.cells #[strV nm, .slice A5 n5 c5] 147))
        clear hK K
        try simp only [Act.put, List.setIfInBounds_toArray, List.set_cons_zero, List.set_cons_succ]
        (have hs6 := hbx.size; replace hbx := hbx.alloc hbx.size (.cells #[strV nm, .slice A5 n5 c5] 147); have l3 := cellB hbx l1)
        refine wpAnyH_ready (rs := [9]) (by kernel_rfl) (by simp) ?_
        refine AllReadyH.cons (o := ?o_18) ?h_18 (fun K hK => ?_) AllReadyH.nil
        case h_18 => (simp only [List.getElem?_toArray, List.getElem?_cons_succ, List.getElem?_cons_zero]; rfl)
        (have hOq := HO1.out.bel hbx; have hSq := cat_lit (x0 := ⟨nm, hi⟩) HO1.out hws5 hs6 hO6 HNL.out; have hsq := Nat.le_trans hws5 hbx.size; refine step_app (t := 22) (e := 147) (bytes := 40) (base := W2.heap.size) (c := catO) (l := x.cats.take k) (xs := xs1) (l2 := [⟨nm, hi⟩]) (S := Beside W2.heap.size (.slice A1 n1 c1)) rfl (.tmp 20) (.tmp 27) rfl cat_elem2 catO_good rfl rfl hOq hSq (fun _ _ h => h) hby1 (by omega) hsq ?_; intro v' w7 xs' hown' hg' hat'; obtain ⟨A8, n8, c8, rfl, _⟩ := hown'.sl catO_good; have hY7 := (HY5.out.bel hbx).grown hg' hy1; have hQ7 := (HQ5.out.bel hbx).grown hg' hq1; have m2 : w7.cell? ⟨q, 2, none⟩ = some (.slice A1 n1 c1) := hQ7.cell rfl; have mf : w7.frozen? ⟨q, 2, none⟩ = false := hQ7.free 2)
        refine hK.out _ _ ?_ (fun hHeld => ?_)
        · exact ⟨hY7.cell rfl, hY7.cell rfl⟩
        clear hK K
        try simp only [Act.put, List.setIfInBounds_toArray, List.set_cons_zero, List.set_cons_succ]
        refine wpAnyH_take (i := 10) (oi := ?o_19) (v := ?v_19) ?h_19 (by kernel_rfl) (by kernel_rfl) (by kernel_rfl) ?q_19 (Or.inl ⟨?w_19, ?y_19⟩) (by assumption) ?_
        case h_19 => (simp only [List.getElem?_toArray, List.getElem?_cons_succ, List.getElem?_cons_zero]; rfl)
        case q_19 => exact fun _ _ _ h => h
        case w_19 => rfl
        case y_19 => (intro w hSw; (try dsimp only at hSw); first | (go_simp; done) | (go_simp; with_reducible rfl))
        simp only [Act.put, List.setIfInBounds_toArray, List.set_cons_zero, List.set_cons_succ]
        refine wpAnyH_ready (rs := [11]) (by kernel_rfl) (by simp) ?_
        refine AllReadyH.cons (o := ?o_20) ?h_20 (fun K hK => ?_) AllReadyH.nil
        case h_20 => (simp only [List.getElem?_toArray, List.getElem?_cons_succ, List.getElem?_cons_zero]; rfl)
        go_simp
        refine hK.out _ _ ?_ (fun hHeld => ?_)
        · exact ⟨(hY7.other (p := ⟨q, 2, none⟩) (fun e => hyq e.symm) _).cell rfl, (hY7.other (p := ⟨q, 2, none⟩) (fun e => hyq e.symm) _).cell rfl⟩
        clear hK K
        try simp only [Act.put, List.setIfInBounds_toArray, List.set_cons_zero, List.set_cons_succ]
        have hKq : Kept (fun k => k = q) w7 (w7.setCell ⟨q, 2, none⟩ (.slice A8 n8 c8)) := (Kept.refl (fun k => k = q) w7).setCell (p := ⟨q, 2, none⟩) (.inl rfl) _
        have p1 := hown'.kept catO_good hKq (fun k hk => by omega)
        have p2 := ((HO2.out.bel hbx).grownF cabC_flat hg' hap).kept cabC_good hKq (fun k hk => by omega)
        have p3 := Apart.step hap (fun k hk => ((HO2.out.bel hbx).lt k hk).2) hat'
        have p4 := (((HZ5.out.bel hbx).grown hg' hz1).kept hKq (by omega))
        have p5 := (below_app (HB5.out.trans (hbx.mono HB5.out.size)) (hOq.mono catO_good (Nat.le_trans hsz1 hsz)) hg' (by have := HB5.out.size; omega)).setCell (p := ⟨q, 2, none⟩) (show w.heap.size ≤ q by omega) (.slice A8 n8 c8)
        have p6 := hQ7.set (j := 2) (.slice A8 n8 c8)
        have p7 : W2.heap.size ≤ (w7.setCell ⟨q, 2, none⟩ (.slice A8 n8 c8)).heap.size := by have := hg'.size; have := hKq.size; omega
        rw [← HTK.out] at p1
        clear hOq hSq hown' hY7 hQ7 m2 mf hKq hg' hat' hO6 hb6
        refine wpAnyH_done (by kernel_rfl) ?_ _
        go_wp2_with fail
        go_roundg (n - (k + 1))
        case measure => omega
        case rel => exact ⟨k + 1, A8, n8, c8, xs', by omega, by omega, by go_num, p6, p1, p2, p3, p4, p5, p7⟩
      go_simp
      refine hK.out _ _ ?_ (fun hHeld => ?_)
      · exact HSS.out _ hbx
      clear hK K
      try simp only [Act.put, List.setIfInBounds_toArray, List.set_cons_zero, List.set_cons_succ]
      refine wpAnyH_ready (rs := [6]) (by kernel_rfl) (by simp) ?_
      refine AllReadyH.cons (o := ?o_7) ?h_7 (fun K hK => ?_) AllReadyH.nil
      case h_7 => (simp only [List.getElem?_toArray, List.getElem?_cons_succ, List.getElem?_cons_zero]; rfl)
      go_simp
      (go_at_call 188; refine (HCL.out _ hbx).mono ?_; rintro e w6 ⟨v6, xs6, rfl, hO6, hb6⟩; obtain ⟨A5, n5, c5, rfl, _⟩ := hO6.sl intC_good; replace hbx := hbx.trans (hb6.mono hbx.size); have l2 := cellB hbx l1)
      go_wp2_with fail
      refine hK.out _ _ ?_ (fun hHeld => ?_)
      · exact HSS.out _ hbx
      clear hK K
      try simp only [Act.put, List.setIfInBounds_toArray, List.set_cons_zero, List.set_cons_succ]
      refine wpAnyH_take (i := 7) (oi := ?o_21) (v := ?v_21) ?h_21 (by kernel_rfl) (by kernel_rfl) (by kernel_rfl) ?q_21 (Or.inl ⟨?w_21, ?y_21⟩) (by assumption) ?_
      case h_21 => (simp only [List.getElem?_toArray, List.getElem?_cons_succ, List.getElem?_cons_zero]; rfl)
      case q_21 => exact fun _ _ _ h => h
      case w_21 => rfl
      case y_21 => (intro w hSw; (try dsimp only at hSw); first | (go_simp; done) | (go_simp; with_reducible rfl))
      simp only [Act.put, List.setIfInBounds_toArray, List.set_cons_zero, List.set_cons_succ]
      refine wpAnyH_ready (rs := [8]) (by kernel_rfl) (by simp) ?_
      refine AllReadyH.cons (o := ?o_8) ?h_8 (fun K hK => ?_) AllReadyH.nil
      case h_8 => (simp only [List.getElem?_toArray, List.getElem?_cons_succ, List.getElem?_cons_zero]; rfl)
      go_simp
      refine hK.out _ _ ?_ (fun hHeld => ?_)
      · exact HSS.out _ (hbx.alloc hbx.size (.cells #[strV nm, .slice A5 n5 c5] 147))
      clear hK K
      try simp only [Act.put, List.setIfInBounds_toArray, List.set_cons_zero, List.set_cons_succ]
      (have hs6 := hbx.size; replace hbx := hbx.alloc hbx.size (.cells #[strV nm, .slice A5 n5 c5] 147); have l3 := cellB hbx l1)
      refine wpAnyH_ready (rs := [9]) (by kernel_rfl) (by simp) ?_
      refine AllReadyH.cons (o := ?o_22) ?h_22 (fun K hK => ?_) AllReadyH.nil
      case h_22 => (simp only [List.getElem?_toArray, List.getElem?_cons_succ, List.getElem?_cons_zero]; rfl)
      (have hOq := HO1.out.bel hbx; have hSq := cat_lit (x0 := ⟨nm, hi⟩) HO1.out hws5 hs6 hO6 HNL.out; have hsq := Nat.le_trans hws5 hbx.size; refine step_app (t := 22) (e := 147) (bytes := 40) (base := W2.heap.size) (c := catO) (l := x.cats.take k) (xs := xs1) (l2 := [⟨nm, hi⟩]) (S := Beside W2.heap.size (.slice A1 n1 c1)) rfl (.tmp 20) (.tmp 27) rfl cat_elem2 catO_good rfl rfl hOq hSq (fun _ _ h => h) hby1 (by omega) hsq ?_; intro v' w7 xs' hown' hg' hat'; obtain ⟨A8, n8, c8, rfl, _⟩ := hown'.sl catO_good; have hY7 := (HY5.out.bel hbx).grown hg' hy1; have hQ7 := (HQ5.out.bel hbx).grown hg' hq1; have m2 : w7.cell? ⟨q, 2, none⟩ = some (.slice A1 n1 c1) := hQ7.cell rfl; have mf : w7.frozen? ⟨q, 2, none⟩ = false := hQ7.free 2)
      refine hK.out _ _ ?_ (fun hHeld => ?_)
      · exact ⟨hY7.cell rfl, hY7.cell rfl⟩
      clear hK K
      try simp only [Act.put, List.setIfInBounds_toArray, List.set_cons_zero, List.set_cons_succ]
      refine wpAnyH_take (i := 10) (oi := ?o_23) (v := ?v_23) ?h_23 (by kernel_rfl) (by kernel_rfl) (by kernel_rfl) ?q_23 (Or.inl ⟨?w_23, ?y_23⟩) (by assumption) ?_
      case h_23 => (simp only [List.getElem?_toArray, List.getElem?_cons_succ, List.getElem?_cons_zero]; rfl)
      case q_23 => exact fun _ _ _ h => h
      case w_23 => rfl
      case y_23 => (intro w hSw; (try dsimp only at hSw); first | (go_simp; done) | (go_simp; with_reducible rfl))
      simp only [Act.put, List.setIfInBounds_toArray, List.set_cons_zero, List.set_cons_succ]
      refine wpAnyH_ready (rs := [11]) (by kernel_rfl) (by simp) ?_
      refine AllReadyH.cons (o := ?o_24) ?h_24 (fun K hK => ?_) AllReadyH.nil
      case h_24 => (simp only [List.getElem?_toArray, List.getElem?_cons_succ, List.getElem?_cons_zero]; rfl)
      go_simp
      refine hK.out _ _ ?_ (fun hHeld => ?_)
      · exact ⟨(hY7.other (p := ⟨q, 2, none⟩) (fun e => hyq e.symm) _).cell rfl, (hY7.other (p := ⟨q, 2, none⟩) (fun e => hyq e.symm) _).cell rfl⟩
      clear hK K
      try simp only [Act.put, List.setIfInBounds_toArray, List.set_cons_zero, List.set_cons_succ]
      have hKq : Kept (fun k => k = q) w7 (w7.setCell ⟨q, 2, none⟩ (.slice A8 n8 c8)) := (Kept.refl (fun k => k = q) w7).setCell (p := ⟨q, 2, none⟩) (.inl rfl) _
      have p1 := hown'.kept catO_good hKq (fun k hk => by omega)
      have p2 := ((HO2.out.bel hbx).grownF cabC_flat hg' hap).kept cabC_good hKq (fun k hk => by omega)
      have p3 := Apart.step hap (fun k hk => ((HO2.out.bel hbx).lt k hk).2) hat'
      have p4 := (((HZ5.out.bel hbx).grown hg' hz1).kept hKq (by omega))
      have p5 := (below_app (HB5.out.trans (hbx.mono HB5.out.size)) (hOq.mono catO_good (Nat.le_trans hsz1 hsz)) hg' (by have := HB5.out.size; omega)).setCell (p := ⟨q, 2, none⟩) (show w.heap.size ≤ q by omega) (.slice A8 n8 c8)
      have p6 := hQ7.set (j := 2) (.slice A8 n8 c8)
      have p7 : W2.heap.size ≤ (w7.setCell ⟨q, 2, none⟩ (.slice A8 n8 c8)).heap.size := by have := hg'.size; have := hKq.size; omega
      rw [← HTK.out] at p1
      clear hOq hSq hown' hY7 hQ7 m2 mf hKq hg' hat' hO6 hb6
      refine wpAnyH_done (by kernel_rfl) ?_ _
      go_wp2_with fail
      go_roundg (n - (k + 1))
      case measure => omega
      case rel => exact ⟨k + 1, A8, n8, c8, xs', by omega, by omega, by go_num, p6, p1, p2, p3, p4, p5, p7⟩
    · obtain rfl : k = n := by omega
      rw [List.take_of_length_le (Nat.le_of_eq HLN.out)] at hO1
      have hzn : z < W2.heap.size := by omega
      have HQ5 := Lib.hid hQ
      clear hQ
      have HO1 := Lib.hid hO1
      clear hO1
      have HO2 := Lib.hid hO2
      clear hO2
      have HZ5 := Lib.hid hZ
      clear hZ
      have HB5 := Lib.hid hb
      clear hb
      go_wp2_with (first | (refine wpList_load_row rfl 25 (.tmp 3) rfl q rfl 25 _ (0, 0) _ HQ5.out Tryz.underlying25 rfl (by kernel_rfl) ?_) | (refine wpList_store_row rfl 25 (.tmp 2) (.tmp 31) rfl z #[.int .i64 x.legs, .int .i64 x.souls, .slice A1 n1 c1, .slice B1 m1 d1] rfl rfl 25 _ HZ5.out (by kernel_rfl) rfl (by simp [Value.oneCell']) ?_))
      refine bodyPost_ret (v := .agg #[.int .i64 x.legs, .int .i64 x.souls, .slice A1 n1 c1, .slice B1 m1 d1]) ((HZ5.out.row _).ret (k := 2) (by kernel_rfl) rfl Tryz.underlying25 (by kernel_rfl) (by kernel_rfl)) rfl ?_
      have hKz : Kept (fun k => k = z) wr (wr.setRow z #[.int .i64 x.legs, .int .i64 x.souls, .slice A1 n1 c1, .slice B1 m1 d1]) := (Kept.refl (fun k => k = z) wr).setRow (.inl rfl) _
      exact ⟨A1, n1, c1, B1, m1, d1, xs1, xs2, rfl, (HO1.out.kept catO_good hKz (fun k hk => by omega)).mono catO_good (Nat.le_trans hsz1 hsz), (HO2.out.kept cabC_good hKz (fun k hk => by omega)).mono cabC_good (Nat.le_trans hsz1 hsz), HB5.out.trans (hKz.below HB5.out.size (fun k hk => by omega))⟩
end Go.Proofs.YtlablioefblmkaaGreat
