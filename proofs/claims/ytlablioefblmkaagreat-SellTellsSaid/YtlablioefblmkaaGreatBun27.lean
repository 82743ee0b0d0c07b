/-
  Words, laws and contracts: StockZ.
-/
import Derived.Test.YtlablioefblmkaaGreatBun23
import Derived.Test.YtlablioefblmkaaGreatBun26
import Derived.BigQuiet
set_option linter.unusedSimpArgs false
set_option linter.unusedVariables false
namespace Go.Proofs.YtlablioefblmkaaGreat
open Go.RowKit Go.Shelf
theorem emptyO {α : Type} {a w : World} (c : Cod α) (size : Nat) (e : TypeId) (h : Below a.heap.size a w) : ∀ g, g = w.heap.size → Own c size e (w.alloc (.cells #[] e)) a.heap.size (.slice (some ⟨g, 0, none⟩) 0 0) [] [] := fun g hg => by subst hg; exact Own.empty c size h.size (blk1 w _)
theorem freshG {n : Nat} {a w : World} (_ : Below n a w) (cs : Array Value) (t : TypeId) : ∀ g, g = w.heap.size → Blk (w.alloc (.cells cs t)) g cs t := fun g hg => by subst hg; exact Blk.new w cs t
theorem geOf {a w : World} (h : Below a.heap.size a w) : ∀ g, g = w.heap.size → a.heap.size ≤ g := fun g hg => by subst hg; exact h.size
theorem rawLit {n q : Nat} {w : World} {cs : List Value} {t : TypeId} (h : Blk w q cs.toArray t) (hl : cs.length = n) (h1 : ∀ u ∈ cs, u.oneCell' = true) : Sl (rawC n) n w All (some ⟨q, 0, none⟩) 1 1 [cs] :=
  ⟨rfl, Nat.le_refl _, by simp [maxLen], fun i y hy => by
    have hi : i = 0 := by have := (List.getElem?_eq_some_iff.1 hy).1; simp at this; omega
    subst hi
    simp at hy
    subst hy
    exact ⟨q, 0, _, rfl, trivial, ⟨rfl, hl, h1⟩, hl, fun j u hu => h.cell (by simpa using hu)⟩⟩
theorem bkgA_ones (b : Bkg) (A : Option Addr) (n cap : Nat) : ∀ u ∈ (bkgA b (.slice A n cap)).toList, u.oneCell' = true := fun u hu => by
  simp at hu; rcases hu with rfl | rfl | rfl | rfl | rfl | rfl | rfl | rfl | rfl | rfl | rfl <;> rfl
theorem step_load_mid {P : Program} {ops : Array Oper} {op : Oper} {a : Act} {w : World} {K : Act → World → Prop} {Q : Exit → Act → World → Prop} {E : Prop} (hgd : op.guard = none) (ty : TypeId) (x : Operand) (ho : op.op = .load ty x)
    (b o : Nat) (hx : a.eval x = .pointer (some ⟨b, o, none⟩)) (cs : List Value) (d : TypeDesc) (hc : w.rangeAt b o cs) (hu : P.underlying ty = some d) (hd : d.isRow = true) (hi : (P.info? ty).map (·.size) = some cs.length)
    (h : K (a.put op.dst (.agg cs.toArray)) w) : if Region.wanted op (yielded ops a.tmps) = true then Oper.wp P op a w K Q else E := by
  rw [if_pos (by simp [Region.wanted, hgd])]
  exact wp_load_mid ty x ho b o hx cs d hc hu hd hi h
theorem step_store_mid {P : Program} {ops : Array Oper} {op : Oper} {a : Act} {w : World} {K : Act → World → Prop} {Q : Exit → Act → World → Prop} {E : Prop} (hgd : op.guard = none) (ty : TypeId) (x y : Operand) (ho : op.op = .store ty x y)
    (b o : Nat) (cells : List Value) (hx : a.eval x = .pointer (some ⟨b, o, none⟩)) (hy : a.eval y = .agg cells.toArray) (ht : w.there b o cells.length) (hi : (P.info? ty).map (·.size) = some cells.length) (h1 : ∀ u ∈ cells, u.oneCell' = true)
    (h : K (a.put op.dst undef) (w.setCells b o cells)) : if Region.wanted op (yielded ops a.tmps) = true then Oper.wp P op a w K Q else E := by
  rw [if_pos (by simp [Region.wanted, hgd])]
  exact wp_store_mid ty x y ho b o cells.toArray hx hy (by simpa using ht) (by simpa using hi) (all_oneCell_toArray h1) (by simpa using h)
set_option maxRecDepth 100000 in
set_option maxHeartbeats 16000000 in
theorem WithBooking_K (K : World → Prop) (x : Sai) (p : SaiV) (b : Bkg) (A3 : Option Addr) (n3 c3 : Nat) (L : List (List Value)) (w : World) (hS : ∀ X, K X → SaiR X x p) (hP : ∀ X, K X → Pts bkgC X L x.bks) (hf : ∀ X, K X → Sl entryC 3 X All A3 n3 c3 b.fol) (hw : K w) (hLs : Sl (rawC 11) 11 w All p.C p.nb p.cb L)
    (hI : BkIn b) (hr : Rise x.bks) (hn : hasId x.bks b.id = false) (h16 : x.bks.length ≤ 16) :
    Calls Tryz.prog 23 #[.agg (saiA x p), .agg (bkgA b (.slice A3 n3 c3))] w fun e w' => ∃ q p', e = .returned (.agg (saiA (withS x b) p')) ∧ w.heap.size ≤ q ∧ q < w'.heap.size ∧ (∀ X, K X → X.heap[q]? = w'.heap[q]? → SaiR X (withS x b) p') ∧ Below w.heap.size w w' := by
  obtain ⟨A, n, cap, B, m, cap2, D, nd, cd, E, ne, ce, C, nb, cb⟩ := p
  simp only at hLs
  obtain ⟨id, kind, state, gst, lev, cab, cat, frm, upto, til, fol⟩ := b
  simp only at hf hn
  have hLl : L.length = nb := hLs.len
  have hbl : x.bks.length = nb := by rw [← hLl]; exact (hP w hw).len.symm
  have hnb : nb ≤ 16 := by omega
  have HINS := Lib.hid (fun (i : Nat) hi hhi hlo => ins_of (b := ⟨id, kind, state, gst, lev, cab, cat, frm, upto, til, fol⟩) (i := i) hr hn hi hhi hlo)
  have hLp := hP w hw
  have HS := Lib.hid hS
  clear hS
  have HF := Lib.hid hf
  clear hf
  have HI := Lib.hid hI
  clear hI
  have HLS := Lib.hid hLs
  clear hLs
  have HLP := Lib.hid hLp
  clear hLp
  have HPP := Lib.hid hP
  clear hP
  have HLL := Lib.hid hLl
  clear hLl
  have HBL := Lib.hid hbl
  clear hbl
  clear hr hn h16
  go_enter Tryz.func23, Tryz.ntmps23
  go_upto_region 0 with (fail)
  go_cut [2, 3, 4] (fun p p2 p3 wx => ∃ g h z, p = .pointer (some ⟨g, 0, none⟩) ∧ p2 = .pointer (some ⟨h, 0, none⟩) ∧ p3 = .pointer (some ⟨z, 0, none⟩) ∧ w.heap.size ≤ g ∧ w.heap.size ≤ h ∧ w.heap.size ≤ z ∧ g ≠ h ∧ g ≠ z ∧ h ≠ z ∧ Blk wx g (saiA x ⟨A, n, cap, B, m, cap2, D, nd, cd, E, ne, ce, C, nb, cb⟩) 32 ∧ Blk wx h (bkgA ⟨id, kind, state, gst, lev, cab, cat, frm, upto, til, fol⟩ (.slice A3 n3 c3)) 42 ∧ Blk wx z #[.int .i64 0, .int .i64 0, .slice none 0 0, .slice none 0 0, .slice none 0 0, .int .i64 0, .int .i64 0, .slice none 0 0, .int .i64 0, .int .i64 0, .int .i64 0, .slice none 0 0, .bool false] 32 ∧ Below w.heap.size w wx)
  case first => as_aux_lemma =>
    go_wp2_with fail
    go_meet
    exact ⟨_, _, _, rfl, rfl, rfl, Nat.le_refl _, by omega, by omega, by omega, by omega, by omega, blk3_0 _ _ _ _, blk3_1 _ _ _ _, blk3_2 _ _ _ _, bel3 _ _ _ _⟩
  obtain ⟨g, h, z, rfl, rfl, rfl, hg, hh, hz, hgh, hgz, hhz, hG, hH, hZ, hb⟩ := hcut
  obtain ⟨W2, hW2⟩ : ∃ V, V = wc := ⟨_, rfl⟩
  subst hW2
  have hsz2 := hb.size
  have HSX := Lib.hid (show ∀ X, Below W2.heap.size W2 X → (fun w' => w'.cell? ⟨g, 11, none⟩ = some (.slice C nb cb) ∧ (w'.cell? ⟨h, 0, none⟩ = some (.int .i64 id) ∧ w'.cell? ⟨h, 1, none⟩ = some (.int .i64 kind) ∧ w'.cell? ⟨h, 2, none⟩ = some (.int .i64 state) ∧ w'.cell? ⟨h, 3, none⟩ = some (.int .i64 gst) ∧ w'.cell? ⟨h, 4, none⟩ = some (.bool lev) ∧ w'.cell? ⟨h, 5, none⟩ = some (.int .i64 cab) ∧ w'.cell? ⟨h, 6, none⟩ = some (.int .i64 cat) ∧ w'.cell? ⟨h, 7, none⟩ = some (.int .i64 frm) ∧ w'.cell? ⟨h, 8, none⟩ = some (.int .i64 upto) ∧ w'.cell? ⟨h, 9, none⟩ = some (.int .i64 til) ∧ w'.cell? ⟨h, 10, none⟩ = some (.slice A3 n3 c3))) X from fun X hX => ⟨(hG.bel hX).cell rfl, (hH.bel hX).cell rfl, (hH.bel hX).cell rfl, (hH.bel hX).cell rfl, (hH.bel hX).cell rfl, (hH.bel hX).cell rfl, (hH.bel hX).cell rfl, (hH.bel hX).cell rfl, (hH.bel hX).cell rfl, (hH.bel hX).cell rfl, (hH.bel hX).cell rfl, (hH.bel hX).cell rfl⟩)
  have hby1 : (([] : List (List Value)).length + nb) * 104 ≤ 140737488355328 := by simp; omega
  have hby2 : (L.length + 1) * 104 ≤ 140737488355328 := by rw [HLL.out]; omega
  have HLW := Lib.hid (fun X (hX : Below W2.heap.size W2 X) => HLS.out.bel (hb.trans (hX.mono hsz2)))
  have HB := Lib.hid hb
  clear hb
  have HG := Lib.hid hG
  clear hG
  have HZ := Lib.hid hZ
  clear hZ
  have HH := Lib.hid hH
  clear hH
  go_upto_region 1 with (fail)
  go_cut [5] (fun p wx => ∃ q cp xs m1, m1 = nb + 1 ∧ p = .slice (some ⟨q, 0, none⟩) m1 cp ∧ W2.heap.size ≤ q ∧ Own (rawC 11) 11 42 wx W2.heap.size (.slice (some ⟨q, 0, none⟩) m1 cp) (L ++ [(bkgA ⟨id, kind, state, gst, lev, cab, cat, frm, upto, til, fol⟩ (.slice A3 n3 c3)).toList]) xs ∧ Below W2.heap.size W2 wx)
  case first =>
    have hbx : Below W2.heap.size W2 W2.drew := (Below.refl _ W2).drew
    refine wp_region_held_drew (S := (fun w' => w'.cell? ⟨g, 11, none⟩ = some (.slice C nb cb) ∧ (w'.cell? ⟨h, 0, none⟩ = some (.int .i64 id) ∧ w'.cell? ⟨h, 1, none⟩ = some (.int .i64 kind) ∧ w'.cell? ⟨h, 2, none⟩ = some (.int .i64 state) ∧ w'.cell? ⟨h, 3, none⟩ = some (.int .i64 gst) ∧ w'.cell? ⟨h, 4, none⟩ = some (.bool lev) ∧ w'.cell? ⟨h, 5, none⟩ = some (.int .i64 cab) ∧ w'.cell? ⟨h, 6, none⟩ = some (.int .i64 cat) ∧ w'.cell? ⟨h, 7, none⟩ = some (.int .i64 frm) ∧ w'.cell? ⟨h, 8, none⟩ = some (.int .i64 upto) ∧ w'.cell? ⟨h, 9, none⟩ = some (.int .i64 til) ∧ w'.cell? ⟨h, 10, none⟩ = some (.slice A3 n3 c3)))) (by kernel_rfl) (HSX.out _ hbx) (fun hHeld => ?_)
    refine wpAnyH_take (i := 1) (v := ?v13) (gA rfl) (by kernel_rfl) (by kernel_rfl) (by kernel_rfl) (fun _ _ _ h => h) (Or.inl ⟨rfl, ?y13⟩) (by assumption) ?_
    case y13 => (intro w hSw; (try dsimp only at hSw); go_simp <;> with_reducible rfl)
    simp only [Act.put, List.setIfInBounds_toArray, List.set_cons_zero, List.set_cons_succ]
    refine wpAnyH_take (i := 2) (v := ?v14) (gA rfl) (by kernel_rfl) (by kernel_rfl) (by kernel_rfl) (fun _ _ _ h => h) (Or.inl ⟨rfl, ?y14⟩) (by assumption) ?_
    case y14 => (intro w hSw; (try dsimp only at hSw); go_simp <;> with_reducible rfl)
    simp only [Act.put, List.setIfInBounds_toArray, List.set_cons_zero, List.set_cons_succ]
    refine wpAnyH_take (i := 4) (v := ?v15) (gA rfl) (by kernel_rfl) (by kernel_rfl) (by kernel_rfl) (fun _ _ _ h => h) (Or.inl ⟨rfl, ?y15⟩) (by assumption) ?_
    case y15 => (intro w hSw; (try dsimp only at hSw); go_simp <;> with_reducible rfl)
    simp only [Act.put, List.setIfInBounds_toArray, List.set_cons_zero, List.set_cons_succ]
    refine wpAnyH_ready (rs := [0, 5]) (by kernel_rfl) (by simp) ?_
    refine AllReadyH.cons (gA rfl) (fun K hK => ?_) ?m_1
    case m_1 =>
      refine AllReadyH.cons (gA rfl) (fun K hK => ?_) AllReadyH.nil
      go_simp
      refine hK.out _ _ ?_ (fun hHeld => ?_)
      · exact HSX.out _ (hbx.alloc hbx.size (.cells (bkgA ⟨id, kind, state, gst, lev, cab, cat, frm, upto, til, fol⟩ (.slice A3 n3 c3)) 42))
      clear hK K
      try simp only [Act.put, List.setIfInBounds_toArray, List.set_cons_zero, List.set_cons_succ]
      (have hL := freshG hbx (bkgA ⟨id, kind, state, gst, lev, cab, cat, frm, upto, til, fol⟩ (.slice A3 n3 c3)) 42; (try replace hO0 := fun g hg => (hO0 g hg).bel (bel1 _ (.cells (bkgA ⟨id, kind, state, gst, lev, cab, cat, frm, upto, til, fol⟩ (.slice A3 n3 c3)) 42))); (try replace hO1 := hO1.bel (bel1 _ (.cells (bkgA ⟨id, kind, state, gst, lev, cab, cat, frm, upto, til, fol⟩ (.slice A3 n3 c3)) 42))); replace hbx := hbx.alloc hbx.size (.cells (bkgA ⟨id, kind, state, gst, lev, cab, cat, frm, upto, til, fol⟩ (.slice A3 n3 c3)) 42))
      refine wpAnyH_ready (rs := [0]) (by kernel_rfl) (by simp) ?_
      refine AllReadyH.cons (gA rfl) (fun K hK => ?_) AllReadyH.nil
      go_simp
      refine hK.out _ _ ?_ (fun hHeld => ?_)
      · exact HSX.out _ (hbx.alloc hbx.size (.cells #[] 42))
      clear hK K
      try simp only [Act.put, List.setIfInBounds_toArray, List.set_cons_zero, List.set_cons_succ]
      (have hO0 := emptyO (rawC 11) 11 42 hbx; (try replace hL := fun g hg => (hL g hg).bel (bel1 _ (.cells #[] 42))); replace hbx := hbx.alloc hbx.size (.cells #[] 42))
      refine wpAnyH_ready (rs := [3]) (by kernel_rfl) (by simp) ?_
      refine AllReadyH.cons (gA rfl) (fun K hK => ?_) AllReadyH.nil
      (refine step_app (v := .slice (some ⟨_, 0, none⟩) 0 0) (t := 30) (e := 42) (bytes := 104) (base := W2.heap.size) (c := rawC 11) (l := []) (xs := []) (l2 := L) (S := All) rfl (.tmp 7) (.tmp 9) rfl bok_elem (rawC_good 11) rfl rfl (hO0 _ (by simp)) (HLW.out _ hbx) (fun _ _ hc => hc) hby1 (by omega) hbx.size ?_; intro v' w' xs' hO1 hg1 hat1; (try replace hL := fun g hg => (hL g hg).grown hg1 (by subst hg; simp [Value.ownBlock])); replace hbx := below_app hbx (hO0 _ (by simp)) hg1 hbx.size; clear hO0 hg1 hat1)
      refine hK.out _ _ ?_ (fun hHeld => ?_)
      · exact HSX.out _ hbx
      clear hK K
      try simp only [Act.put, List.setIfInBounds_toArray, List.set_cons_zero, List.set_cons_succ]
      refine wpAnyH_ready (rs := [6]) (by kernel_rfl) (by simp) (AllReadyH.cons (gA rfl) (fun K hK => ?_) AllReadyH.nil)
      (refine step_app (t := 30) (e := 42) (bytes := 104) (base := W2.heap.size) (c := rawC 11) (l := L) (xs := xs') (l2 := [(bkgA ⟨id, kind, state, gst, lev, cab, cat, frm, upto, til, fol⟩ (.slice A3 n3 c3)).toList]) (S := All) rfl (.tmp 10) (.tmp 12) rfl bok_elem (rawC_good 11) rfl rfl hO1 (rawLit (hL _ (by simp)) rfl (bkgA_ones _ _ _ _)) (fun _ _ hc => hc) hby2 (by omega) hbx.size ?_; intro v2 w2 xs2 hO2 hg2 hat2; replace hbx := below_app hbx hO1 hg2 hbx.size; clear hO1 hg2 hat2 hL)
      refine hK.out _ _ ?_ (fun hHeld => ?_)
      · exact HSX.out _ hbx
      clear hK K
      try simp only [Act.put, List.setIfInBounds_toArray, List.set_cons_zero, List.set_cons_succ]
      refine wpAnyH_take (i := 7) (v := ?v17) (gA rfl) (by kernel_rfl) (by kernel_rfl) (by kernel_rfl) (fun _ _ _ h => h) (Or.inl ⟨rfl, ?y17⟩) (by assumption) ?_
      case y17 => (intro w hSw; (try dsimp only at hSw); go_simp <;> with_reducible rfl)
      simp only [Act.put, List.setIfInBounds_toArray, List.set_cons_zero, List.set_cons_succ]
      refine wpAnyH_done (by kernel_rfl) ?_ _
      obtain ⟨q, cp, rfl, hq, _⟩ := hO2.form (by simp)
      have hl2 : (L ++ [(bkgA ⟨id, kind, state, gst, lev, cab, cat, frm, upto, til, fol⟩ (.slice A3 n3 c3)).toList]).length = nb + 1 := by rw [List.length_append, HLL.out]; rfl
      rw [hl2] at hO2 ⊢
      have HO2 := Lib.hid hO2
      clear hO2
      clear hl2
      go_wp2_with fail
      go_meet
      exact ⟨_, _, _, _, rfl, rfl, hq, HO2.out, hbx⟩
    go_simp
    refine hK.out _ _ ?_ (fun hHeld => ?_)
    · exact HSX.out _ (hbx.alloc hbx.size (.cells #[] 42))
    clear hK K
    try simp only [Act.put, List.setIfInBounds_toArray, List.set_cons_zero, List.set_cons_succ]
    (have hO0 := emptyO (rawC 11) 11 42 hbx; (try replace hL := fun g hg => (hL g hg).bel (bel1 _ (.cells #[] 42))); replace hbx := hbx.alloc hbx.size (.cells #[] 42))
    refine wpAnyH_ready (rs := [3, 5]) (by kernel_rfl) (by simp) ?_
    refine AllReadyH.cons (gA rfl) (fun K hK => ?_) ?m_5
    case m_5 =>
      refine AllReadyH.cons (gA rfl) (fun K hK => ?_) AllReadyH.nil
      go_simp
      refine hK.out _ _ ?_ (fun hHeld => ?_)
      · exact HSX.out _ (hbx.alloc hbx.size (.cells (bkgA ⟨id, kind, state, gst, lev, cab, cat, frm, upto, til, fol⟩ (.slice A3 n3 c3)) 42))
      clear hK K
      try simp only [Act.put, List.setIfInBounds_toArray, List.set_cons_zero, List.set_cons_succ]
      (have hL := freshG hbx (bkgA ⟨id, kind, state, gst, lev, cab, cat, frm, upto, til, fol⟩ (.slice A3 n3 c3)) 42; (try replace hO0 := fun g hg => (hO0 g hg).bel (bel1 _ (.cells (bkgA ⟨id, kind, state, gst, lev, cab, cat, frm, upto, til, fol⟩ (.slice A3 n3 c3)) 42))); (try replace hO1 := hO1.bel (bel1 _ (.cells (bkgA ⟨id, kind, state, gst, lev, cab, cat, frm, upto, til, fol⟩ (.slice A3 n3 c3)) 42))); replace hbx := hbx.alloc hbx.size (.cells (bkgA ⟨id, kind, state, gst, lev, cab, cat, frm, upto, til, fol⟩ (.slice A3 n3 c3)) 42))
      refine wpAnyH_ready (rs := [3]) (by kernel_rfl) (by simp) ?_
      refine AllReadyH.cons (gA rfl) (fun K hK => ?_) AllReadyH.nil
      (refine step_app (v := .slice (some ⟨_, 0, none⟩) 0 0) (t := 30) (e := 42) (bytes := 104) (base := W2.heap.size) (c := rawC 11) (l := []) (xs := []) (l2 := L) (S := All) rfl (.tmp 7) (.tmp 9) rfl bok_elem (rawC_good 11) rfl rfl (hO0 _ (by simp)) (HLW.out _ hbx) (fun _ _ hc => hc) hby1 (by omega) hbx.size ?_; intro v' w' xs' hO1 hg1 hat1; (try replace hL := fun g hg => (hL g hg).grown hg1 (by subst hg; simp [Value.ownBlock])); replace hbx := below_app hbx (hO0 _ (by simp)) hg1 hbx.size; clear hO0 hg1 hat1)
      refine hK.out _ _ ?_ (fun hHeld => ?_)
      · exact HSX.out _ hbx
      clear hK K
      try simp only [Act.put, List.setIfInBounds_toArray, List.set_cons_zero, List.set_cons_succ]
      refine wpAnyH_ready (rs := [6]) (by kernel_rfl) (by simp) (AllReadyH.cons (gA rfl) (fun K hK => ?_) AllReadyH.nil)
      (refine step_app (t := 30) (e := 42) (bytes := 104) (base := W2.heap.size) (c := rawC 11) (l := L) (xs := xs') (l2 := [(bkgA ⟨id, kind, state, gst, lev, cab, cat, frm, upto, til, fol⟩ (.slice A3 n3 c3)).toList]) (S := All) rfl (.tmp 10) (.tmp 12) rfl bok_elem (rawC_good 11) rfl rfl hO1 (rawLit (hL _ (by simp)) rfl (bkgA_ones _ _ _ _)) (fun _ _ hc => hc) hby2 (by omega) hbx.size ?_; intro v2 w2 xs2 hO2 hg2 hat2; replace hbx := below_app hbx hO1 hg2 hbx.size; clear hO1 hg2 hat2 hL)
      refine hK.out _ _ ?_ (fun hHeld => ?_)
      · exact HSX.out _ hbx
      clear hK K
      try simp only [Act.put, List.setIfInBounds_toArray, List.set_cons_zero, List.set_cons_succ]
      refine wpAnyH_take (i := 7) (v := ?v19) (gA rfl) (by kernel_rfl) (by kernel_rfl) (by kernel_rfl) (fun _ _ _ h => h) (Or.inl ⟨rfl, ?y19⟩) (by assumption) ?_
      case y19 => (intro w hSw; (try dsimp only at hSw); go_simp <;> with_reducible rfl)
      simp only [Act.put, List.setIfInBounds_toArray, List.set_cons_zero, List.set_cons_succ]
      refine wpAnyH_done (by kernel_rfl) ?_ _
      obtain ⟨q, cp, rfl, hq, _⟩ := hO2.form (by simp)
      have hl2 : (L ++ [(bkgA ⟨id, kind, state, gst, lev, cab, cat, frm, upto, til, fol⟩ (.slice A3 n3 c3)).toList]).length = nb + 1 := by rw [List.length_append, HLL.out]; rfl
      rw [hl2] at hO2 ⊢
      have HO2 := Lib.hid hO2
      clear hO2
      clear hl2
      go_wp2_with fail
      go_meet
      exact ⟨_, _, _, _, rfl, rfl, hq, HO2.out, hbx⟩
    (refine step_app (v := .slice (some ⟨_, 0, none⟩) 0 0) (t := 30) (e := 42) (bytes := 104) (base := W2.heap.size) (c := rawC 11) (l := []) (xs := []) (l2 := L) (S := All) rfl (.tmp 7) (.tmp 9) rfl bok_elem (rawC_good 11) rfl rfl (hO0 _ (by simp)) (HLW.out _ hbx) (fun _ _ hc => hc) hby1 (by omega) hbx.size ?_; intro v' w' xs' hO1 hg1 hat1; (try replace hL := fun g hg => (hL g hg).grown hg1 (by subst hg; simp [Value.ownBlock])); replace hbx := below_app hbx (hO0 _ (by simp)) hg1 hbx.size; clear hO0 hg1 hat1)
    refine hK.out _ _ ?_ (fun hHeld => ?_)
    · exact HSX.out _ hbx
    clear hK K
    try simp only [Act.put, List.setIfInBounds_toArray, List.set_cons_zero, List.set_cons_succ]
    refine wpAnyH_ready (rs := [5]) (by kernel_rfl) (by simp) ?_
    refine AllReadyH.cons (gA rfl) (fun K hK => ?_) AllReadyH.nil
    go_simp
    refine hK.out _ _ ?_ (fun hHeld => ?_)
    · exact HSX.out _ (hbx.alloc hbx.size (.cells (bkgA ⟨id, kind, state, gst, lev, cab, cat, frm, upto, til, fol⟩ (.slice A3 n3 c3)) 42))
    clear hK K
    try simp only [Act.put, List.setIfInBounds_toArray, List.set_cons_zero, List.set_cons_succ]
    (have hL := freshG hbx (bkgA ⟨id, kind, state, gst, lev, cab, cat, frm, upto, til, fol⟩ (.slice A3 n3 c3)) 42; (try replace hO0 := fun g hg => (hO0 g hg).bel (bel1 _ (.cells (bkgA ⟨id, kind, state, gst, lev, cab, cat, frm, upto, til, fol⟩ (.slice A3 n3 c3)) 42))); (try replace hO1 := hO1.bel (bel1 _ (.cells (bkgA ⟨id, kind, state, gst, lev, cab, cat, frm, upto, til, fol⟩ (.slice A3 n3 c3)) 42))); replace hbx := hbx.alloc hbx.size (.cells (bkgA ⟨id, kind, state, gst, lev, cab, cat, frm, upto, til, fol⟩ (.slice A3 n3 c3)) 42))
    refine wpAnyH_ready (rs := [6]) (by kernel_rfl) (by simp) (AllReadyH.cons (gA rfl) (fun K hK => ?_) AllReadyH.nil)
    (refine step_app (t := 30) (e := 42) (bytes := 104) (base := W2.heap.size) (c := rawC 11) (l := L) (xs := xs') (l2 := [(bkgA ⟨id, kind, state, gst, lev, cab, cat, frm, upto, til, fol⟩ (.slice A3 n3 c3)).toList]) (S := All) rfl (.tmp 10) (.tmp 12) rfl bok_elem (rawC_good 11) rfl rfl hO1 (rawLit (hL _ (by simp)) rfl (bkgA_ones _ _ _ _)) (fun _ _ hc => hc) hby2 (by omega) hbx.size ?_; intro v2 w2 xs2 hO2 hg2 hat2; replace hbx := below_app hbx hO1 hg2 hbx.size; clear hO1 hg2 hat2 hL)
    refine hK.out _ _ ?_ (fun hHeld => ?_)
    · exact HSX.out _ hbx
    clear hK K
    try simp only [Act.put, List.setIfInBounds_toArray, List.set_cons_zero, List.set_cons_succ]
    refine wpAnyH_take (i := 7) (v := ?v21) (gA rfl) (by kernel_rfl) (by kernel_rfl) (by kernel_rfl) (fun _ _ _ h => h) (Or.inl ⟨rfl, ?y21⟩) (by assumption) ?_
    case y21 => (intro w hSw; (try dsimp only at hSw); go_simp <;> with_reducible rfl)
    simp only [Act.put, List.setIfInBounds_toArray, List.set_cons_zero, List.set_cons_succ]
    refine wpAnyH_done (by kernel_rfl) ?_ _
    obtain ⟨q, cp, rfl, hq, _⟩ := hO2.form (by simp)
    have hl2 : (L ++ [(bkgA ⟨id, kind, state, gst, lev, cab, cat, frm, upto, til, fol⟩ (.slice A3 n3 c3)).toList]).length = nb + 1 := by rw [List.length_append, HLL.out]; rfl
    rw [hl2] at hO2 ⊢
    have HO2 := Lib.hid hO2
    clear hO2
    clear hl2
    go_wp2_with fail
    go_meet
    exact ⟨_, _, _, _, rfl, rfl, hq, HO2.out, hbx⟩
  obtain ⟨q, cp, xs, m1, hm1, rfl, hq, hO, hb3⟩ := hcut
  obtain ⟨W3, hW3⟩ : ∃ V, V = wc := ⟨_, rfl⟩
  subst hW3
  have hqg : q ≠ g := fun e => by have := HG.out.lt; omega
  have hqz : q ≠ z := fun e => by have := HZ.out.lt; omega
  obtain ⟨bc, hbc⟩ : ∃ l, l = (bkgA ⟨id, kind, state, gst, lev, cab, cat, frm, upto, til, fol⟩ (.slice A3 n3 c3)).toList := ⟨_, rfl⟩
  rw [← hbc] at hO
  have HBC := Lib.hid (show bc.length = 11 ∧ (∀ u ∈ bc, u.oneCell' = true) ∧ bc[0]? = some (.int .i64 id) from by rw [hbc]; exact ⟨rfl, bkgA_ones _ _ _ _, rfl⟩)
  have HBE := Lib.hid hbc
  clear hbc
  have HB3 := Lib.hid hb3
  clear hb3
  have HO := Lib.hid hO
  clear hO
  have hwm : IntKind.i64.wrap ((m1 : Int) - 1) = (nb : Int) := by rw [IntKind.wrap_i64]; omega
  have HM1 := Lib.hid hm1
  clear hm1
  clear hby1 hby2
  go_wp2_with fail
  go_loopg [6] nb (fun gk i wr => ∃ (k : Nat) (xs : List Value), k ≤ nb ∧ k ≤ gk ∧ i = .int .i64 k ∧ Own (rawC 11) 11 42 wr W2.heap.size (.slice (some ⟨q, 0, none⟩) m1 cp) (L.take k ++ bc :: L.drop k) xs ∧ Aside (∀ (j : Nat) (c : Bkg), k ≤ j → x.bks[j]? = some c → id < c.id) ∧ Kept (fun b => b = q) W3 wr)
  case atStart => exact ⟨nb, xs, Nat.le_refl _, Nat.le_refl _, by first | rfl | go_num, by rw [List.take_of_length_le (by rw [HLL.out]; exact Nat.le_refl _), List.drop_eq_nil_of_le (by rw [HLL.out]; exact Nat.le_refl _)]; exact HO.out, fun j c hj hc => absurd (List.getElem?_eq_some_iff.1 hc).1 (by rw [HBL.out]; omega), Kept.refl _ _⟩
  case round =>
    obtain ⟨k, xs1, hk, hgk, rfl, hO1, HA, hK⟩ := hrel
    obtain ⟨tv, htv⟩ : ∃ tv, tv = (decide (0 < k) && decide (id < (x.bks.getD (k - 1) default).id)) := ⟨_, rfl⟩
    have HTV := Lib.hid htv
    clear htv
    have HM2 := Lib.hid (show m1 = nb + 1 from HM1.out)
    have HO1 := Lib.hid hO1
    clear hO1
    have HK1 := Lib.hid hK
    clear hK
    clear hwm
    go_upto_region 3 with (fail)
    go_cut [32] (fun p wx => p = .bool tv ∧ Below wr.heap.size wr wx)
    case first => as_aux_lemma =>
      by_cases q0 : k = 0
      · subst q0
        obtain rfl : tv = false := by rw [HTV.out]; rfl
        go_quiet (fail)
        go_wp2_with fail
        go_meet
        exact ⟨rfl, below_drewN (Below.refl _ _) _⟩
      · obtain ⟨j, hj⟩ : ∃ j, j + 1 = k := ⟨k - 1, by omega⟩
        have hjb : j < x.bks.length := by rw [HBL.out]; omega
        have hjl : j < L.length := by rw [HLL.out]; omega
        have hbj := List.getElem?_eq_getElem hjb
        have hlj := List.getElem?_eq_getElem hjl
        obtain ⟨A9, n9, c9, hcs, -, -⟩ := HLP.out.el j _ _ hlj hbj
        have e1 : (L.take k ++ bc :: L.drop k)[k]? = some bc := by
          rw [List.getElem?_append_right (by rw [List.length_take]; omega), List.length_take, show k - min k L.length = 0 by rw [HLL.out]; omega]; rfl
        have e2 : (L.take k ++ bc :: L.drop k)[j]? = some L[j] := by
          rw [List.getElem?_append_left (by rw [List.length_take]; omega), List.getElem?_take, if_pos (by omega)]; exact hlj
        obtain ⟨cs1, ⟨rfl, _, _⟩, _, hr1, _⟩ := HO1.out.range e1
        obtain ⟨cs2, ⟨rfl, _, _⟩, _, hr2, _⟩ := HO1.out.range e2
        have y1 : wr.cell? ⟨q, k * 11, none⟩ = some (.int .i64 id) := hr1 0 _ HBC.out.2.2
        have y2 : wr.cell? ⟨q, j * 11, none⟩ = some (.int .i64 x.bks[j].id) := hr2 0 _ (by rw [hcs]; rfl)
        obtain ⟨cj, hcj⟩ : ∃ c, c = x.bks[j].id := ⟨_, rfl⟩
        rw [← hcj] at y2
        have hm := HM2.out
        obtain rfl : tv = decide (id < cj) := by
          rw [HTV.out, decide_eq_true (show 0 < k by omega), Bool.true_and, List.getD_eq_getElem?_getD, show k - 1 = j by omega, hbj, hcj]; rfl
        have d1 : decide (0 < k) = true := decide_eq_true (by omega)
        have d2 : (0 : Int) ≤ (k : Int) := by omega
        have d3 : (k : Int) < (m1 : Int) := by omega
        have d4 : (0 : Int) ≤ (j : Int) := by omega
        have d5 : (j : Int) < (m1 : Int) := by omega
        have d6 : IntKind.i64.wrap ((k : Int) - 1) = (j : Int) := by rw [IntKind.wrap_i64]; omega
        clear q0 hj hbj hlj hcs e1 e2 hr1 hr2 hcj hm
        go_quiet (fail)
        go_wp2_with fail
        go_meet
        exact ⟨rfl, below_drewN (Below.refl _ _) _⟩
    obtain ⟨rfl, hb9⟩ := hcut
    have hO9 := HO1.out.bel hb9
    have hK9 := HK1.out.trans (Kept.of_below hb9 (fun k hk h2 => absurd h2 (by omega)))
    clear hb9 HO1 HK1
    cases tv
    · have HFIN := Lib.hid (HINS.out k (by rw [HBL.out]; exact hk) HA (fun c h0 hc => by
        have h := HTV.out
        rw [decide_eq_true h0, Bool.true_and, List.getD_eq_getElem?_getD, hc] at h
        have := of_decide_eq_false h.symm
        simp only [Option.getD_some] at this
        exact Int.not_lt.1 this))
      have hG9 := (HG.out.bel HB3.out).kept hK9 (fun e => hqg e.symm)
      have hZ9 := (HZ.out.bel HB3.out).kept hK9 (fun e => hqz e.symm)
      obtain ⟨w9, hw9⟩ : ∃ V, V = wc := ⟨_, rfl⟩
      subst hw9
      have hbw : Below w.heap.size w w9 := (HB.out.trans (HB3.out.mono HB.out.size)).trans (hK9.below (B := w.heap.size) (HB.out.trans (HB3.out.mono HB.out.size)).size (fun k hk e => by omega))
      have hql := (hO9.lt q rfl).2
      obtain ⟨A8, n8, c8, hv8, hs8⟩ := hO9.sl (rawC_good 11)
      simp only [Value.slice.injEq] at hv8
      obtain ⟨rfl, rfl, rfl⟩ := hv8
      replace hs8 := hs8.all (rawC_good 11) (by omega)
      have HG9 := Lib.hid hG9
      clear hG9
      have HZ9 := Lib.hid hZ9
      clear hZ9
      have HS8 := Lib.hid hs8
      clear hs8
      have HBW := Lib.hid hbw
      clear hbw
      clear hO9 hK9
      go_upto_region 6 with (fail)
      go_cut [2] (fun p wx => p = .pointer (some ⟨g, 0, none⟩) ∧ Blk wx g (saiA (withS x ⟨id, kind, state, gst, lev, cab, cat, frm, upto, til, fol⟩) ⟨A, n, cap, B, m, cap2, D, nd, cd, E, ne, ce, (some ⟨q, 0, none⟩), m1, cp⟩) 32 ∧ Kept (fun k => k = g) w9 wx)
      case first => as_aux_lemma =>
        have m11 : w9.cell? ⟨g, 11, none⟩ = some (.slice C nb cb) := HG9.out.cell rfl
        have mf : w9.frozen? ⟨g, 11, none⟩ = false := HG9.out.free 11
        go_wp2_with fail
        go_meet
        exact ⟨rfl, HG9.out.set (j := 11) _, (Kept.refl (fun k => k = g) _).setCell (p := ⟨g, 11, none⟩) (.inl rfl) _⟩
      obtain ⟨rfl, hG10, hK10⟩ := hcut
      obtain ⟨w10, hw10⟩ : ∃ V, V = wc := ⟨_, rfl⟩
      subst hw10
      have hZ10 := HZ9.out.kept hK10 (fun e => hgz e.symm)
      have HG10 := Lib.hid hG10
      have HZ10 := Lib.hid hZ10
      have HK10 := Lib.hid hK10
      clear hK10
      clear hG10 hZ10
      go_wp2_with (first | (refine wpList_load_row rfl 32 (.tmp 2) rfl g rfl 32 _ (0, 0) _ HG10.out Tryz.underlying32 rfl (by kernel_rfl) ?_) | (refine wpList_store_row rfl 32 (.tmp 4) (.tmp 53) rfl z (saiA (withS x ⟨id, kind, state, gst, lev, cab, cat, frm, upto, til, fol⟩) ⟨A, n, cap, B, m, cap2, D, nd, cd, E, ne, ce, (some ⟨q, 0, none⟩), m1, cp⟩) rfl rfl 32 _ HZ10.out (by kernel_rfl) rfl (by simp [Value.oneCell']) ?_))
      refine bodyPost_ret (v := .agg (saiA (withS x ⟨id, kind, state, gst, lev, cab, cat, frm, upto, til, fol⟩) ⟨A, n, cap, B, m, cap2, D, nd, cd, E, ne, ce, (some ⟨q, 0, none⟩), m1, cp⟩)) ((HZ10.out.row _).ret (k := 4) (by kernel_rfl) rfl Tryz.underlying32 (by kernel_rfl) (by kernel_rfl)) rfl ?_
      have hKz : Kept (fun k => k = g ∨ k = z) w9 (w10.setRow z (saiA (withS x ⟨id, kind, state, gst, lev, cab, cat, frm, upto, til, fol⟩) ⟨A, n, cap, B, m, cap2, D, nd, cd, E, ne, ce, (some ⟨q, 0, none⟩), m1, cp⟩)) := (HK10.out.mono fun k _ hk => .inl hk).setRow (.inl (.inr rfl)) _
      have hbE : Below w.heap.size w (w10.setRow z (saiA (withS x ⟨id, kind, state, gst, lev, cab, cat, frm, upto, til, fol⟩) ⟨A, n, cap, B, m, cap2, D, nd, cd, E, ne, ce, (some ⟨q, 0, none⟩), m1, cp⟩)) := HBW.out.trans (hKz.below (B := w.heap.size) HBW.out.size (fun k hk e => by rcases e with e | e <;> omega))
      refine ⟨q, ⟨A, n, cap, B, m, cap2, D, nd, cd, E, ne, ce, (some ⟨q, 0, none⟩), m1, cp⟩, rfl, Nat.le_trans hsz2 hq, Nat.lt_of_lt_of_le hql hKz.size, fun X hX hqX => ⟨(HS.out X hX).cats, (HS.out X hX).cabs, (HS.out X hX).fares, ?_⟩, hbE⟩
      have hsE : Sl (rawC 11) 11 X All (some ⟨q, 0, none⟩) m1 cp (L.take k ++ bc :: L.drop k) := by
        refine ⟨HS8.out.len, HS8.out.le, HS8.out.max, fun i y hy => ?_⟩
        obtain ⟨b', o', cs, hA', _, hc, hl, hcell⟩ := HS8.out.rd i y hy
        simp only [Option.some.injEq, Addr.mk.injEq, and_true] at hA'
        obtain ⟨rfl, rfl⟩ := hA'
        refine ⟨q, 0, cs, rfl, trivial, hc, hl, fun j u hu => ?_⟩
        have h0 := hcell j u hu
        exact (World.cell?_of_block (hqX.trans (hKz.block q (cell_lt h0) (fun e => e.elim hqg hqz)))).trans h0
      have hpE := HPP.out X hX
      show Sl bkgC 11 _ All (some ⟨q, 0, none⟩) m1 cp (insS x.bks ⟨id, kind, state, gst, lev, cab, cat, frm, upto, til, fol⟩)
      rw [← HFIN.out]
      exact hsE.unraw ((hpE.take k).append ((Pts.one (c := bkgC) (cs := bc) (x := ⟨id, kind, state, gst, lev, cab, cat, frm, upto, til, fol⟩) ⟨A3, n3, c3, HBE.out, HF.out X hX, HI.out⟩).append (hpE.drop k)))
    · have h9 := HTV.out
      have h0 : 0 < k := by
        by_cases h : 0 < k
        · exact h
        · rw [decide_eq_false h] at h9; cases h9
      obtain ⟨j, rfl⟩ : ∃ j, k = j + 1 := ⟨k - 1, by omega⟩
      rw [decide_eq_true h0, Bool.true_and, show j + 1 - 1 = j by omega] at h9
      have hlt9 := of_decide_eq_true h9.symm
      have hjb : j < x.bks.length := by rw [HBL.out]; omega
      have hjl : j < L.length := by rw [HLL.out]; omega
      have hlj := List.getElem?_eq_getElem hjl
      obtain ⟨aj, haj⟩ : ∃ a, a = L[j] := ⟨_, rfl⟩
      rw [← haj] at hlj
      have HA2 : Aside (∀ (i : Nat) (c : Bkg), j ≤ i → x.bks[i]? = some c → id < c.id) := fun i c hi hc => by
        rcases Nat.lt_or_ge j i with h | h
        · exact HA i c h hc
        · obtain rfl : i = j := by omega
          rw [List.getD_eq_getElem?_getD, hc] at hlt9
          exact hlt9
      have e1 : (L.take (j + 1) ++ bc :: L.drop (j + 1))[j + 1]? = some bc := by
        rw [List.getElem?_append_right (by rw [List.length_take]; omega), List.length_take, show j + 1 - min (j + 1) L.length = 0 by omega]; rfl
      have e2 : (L.take (j + 1) ++ bc :: L.drop (j + 1))[j]? = some aj := by
        rw [List.getElem?_append_left (by rw [List.length_take]; omega), List.getElem?_take, if_pos (by omega)]; exact hlj
      obtain ⟨w9, hw9⟩ : ∃ V, V = wc := ⟨_, rfl⟩
      subst hw9
      have hbd : Below w9.heap.size w9 w9.drew := (Below.refl _ _).drew
      have hO8 := hO9.bel hbd
      obtain ⟨cs1, ⟨he1, l1, o1⟩, -, hr1, ht1⟩ := hO8.range e1
      obtain ⟨cs2, ⟨he2, l2, o2⟩, -, hr2, ht2⟩ := hO8.range e2
      rw [he1] at hr1
      rw [he2] at hr2
      clear he1 he2 cs1 cs2
      have hll : (L.take (j + 1) ++ bc :: L.drop (j + 1)).length = nb + 1 := by
        rw [List.length_append, List.length_cons, List.length_take, List.length_drop]; have := HLL.out; omega
      have hO7 := hO8.setEl (rawC_good 11) (i := j + 1) (x' := aj) (cs := aj) (by rw [hll]; omega) l2 ⟨rfl, l2, o2⟩
      have hO6 := hO7.setEl (rawC_good 11) (i := j) (x' := bc) (cs := bc) (by rw [List.length_set, hll]; omega) l1 ⟨rfl, l1, o1⟩
      rw [ins_swap (by omega) hlj] at hO6
      have hK6 : Kept (fun b => b = q) W3 ((w9.drew.setCells q ((j + 1) * 11) aj).setCells q (j * 11) bc) := ((hK9.trans (Kept.of_below hbd (fun k hk h2 => absurd h2 (by omega)))).trans (kept_setCells q aj _ _)).trans (kept_setCells q bc _ _)
      have hm := HM2.out
      have d2 : (0 : Int) ≤ ((j + 1 : Nat) : Int) := by omega
      have d3 : ((j + 1 : Nat) : Int) < (m1 : Int) := by omega
      have d4 : (0 : Int) ≤ (j : Int) := by omega
      have d5 : (j : Int) < (m1 : Int) := by omega
      obtain ⟨k, hkj⟩ : ∃ k, k = j + 1 := ⟨_, rfl⟩
      rw [← hkj] at hO7 hO6 hK6 hr1 ht1 d2 d3 ⊢
      have d6 : IntKind.i64.wrap ((k : Int) - 1) = (j : Int) := by rw [IntKind.wrap_i64]; omega
      have hL1 : (Tryz.prog.info? 42).map (·.size) = some aj.length := by rw [l2]; kernel_rfl
      have hL2 : (Tryz.prog.info? 42).map (·.size) = some bc.length := by rw [l1]; kernel_rfl
      have ht2' : w9.drew.there q (j * 11) bc.length := by rw [l1]; exact ht2
      have ht1' : w9.drew.there q (k * 11) aj.length := by rw [l2]; exact ht1
      have HT1 := Lib.hid ht1'
      have HT2 := Lib.hid (World.there_setCells ht2' q (k * 11) aj)
      have HR1 := Lib.hid hr1
      have HR2 := Lib.hid hr2
      have HL1 := Lib.hid hL1
      have HL2 := Lib.hid hL2
      have HO6 := Lib.hid hO6
      clear hO6
      have HK6 := Lib.hid hK6
      clear hK6
      have HKJ := Lib.hid hkj
      clear hkj
      clear hO9 hK9 HA h9 h0 hlt9 hjb hjl hlj haj e1 e2 hO8 hr1 hr2 ht1 ht1' ht2 ht2' l1 l2 hll hO7 hm hL1 hL2 HTV
      go_upto_region 5 with (fail)
      refine wp_region_held_drew (S := (fun _ => True)) (by kernel_rfl) (trivial) (fun hHeld => ?_)
      refine wpAnyH_take (i := 0) (v := ?v22) (gA rfl) (by kernel_rfl) (by kernel_rfl) (by kernel_rfl) (fun _ _ _ h => h) (Or.inl ⟨rfl, ?y22⟩) (by assumption) ?_
      case y22 => (intro w hSw; (try dsimp only at hSw); go_simp <;> with_reducible rfl)
      simp only [Act.put, List.setIfInBounds_toArray, List.set_cons_zero, List.set_cons_succ]
      refine wpAnyH_take (i := 1) (v := ?v23) (gA rfl) (by kernel_rfl) (by kernel_rfl) (by kernel_rfl) (fun _ _ _ h => h) (Or.inl ⟨rfl, ?y23⟩) (by assumption) ?_
      case y23 => (intro w hSw; (try dsimp only at hSw); go_simp <;> with_reducible rfl)
      simp only [Act.put, List.setIfInBounds_toArray, List.set_cons_zero, List.set_cons_succ]
      refine wpAnyH_take (i := 2) (v := ?v24) (gA rfl) (by kernel_rfl) (by kernel_rfl) (by kernel_rfl) (fun _ _ _ h => h) (Or.inl ⟨rfl, ?y24⟩) (by assumption) ?_
      case y24 => (intro w hSw; (try dsimp only at hSw); go_simp <;> with_reducible rfl)
      simp only [Act.put, List.setIfInBounds_toArray, List.set_cons_zero, List.set_cons_succ]
      refine wpAnyH_take (i := 3) (v := ?v25) (gA rfl) (by kernel_rfl) (by kernel_rfl) (by kernel_rfl) (fun _ _ _ h => h) (Or.inl ⟨rfl, ?y25⟩) (by assumption) ?_
      case y25 => (intro w hSw; (try dsimp only at hSw); go_simp <;> with_reducible rfl)
      simp only [Act.put, List.setIfInBounds_toArray, List.set_cons_zero, List.set_cons_succ]
      refine wpAnyH_take (i := 4) (v := ?v26) (gA rfl) (by kernel_rfl) (by kernel_rfl) (by kernel_rfl) (fun _ _ _ h => h) (Or.inl ⟨rfl, ?y26⟩) (by assumption) ?_
      case y26 => (intro w hSw; (try dsimp only at hSw); go_simp <;> with_reducible rfl)
      simp only [Act.put, List.setIfInBounds_toArray, List.set_cons_zero, List.set_cons_succ]
      refine wpAnyH_take (i := 5) (v := ?v27) (gA rfl) (by kernel_rfl) (by kernel_rfl) (by kernel_rfl) (fun _ _ _ h => h) (Or.inl ⟨rfl, ?y27⟩) (by assumption) ?_
      case y27 => (intro w hSw; (try dsimp only at hSw); go_simp <;> with_reducible rfl)
      simp only [Act.put, List.setIfInBounds_toArray, List.set_cons_zero, List.set_cons_succ]
      refine wpAnyH_take (i := 6) (v := ?v28) (gA rfl) (by kernel_rfl) (by kernel_rfl) (by kernel_rfl) (fun _ _ _ h => h) (Or.inl ⟨rfl, ?y28⟩) (by assumption) ?_
      case y28 => (intro w hSw; (try dsimp only at hSw); go_simp <;> with_reducible rfl)
      simp only [Act.put, List.setIfInBounds_toArray, List.set_cons_zero, List.set_cons_succ]
      refine wpAnyH_take (i := 7) (v := ?v29) (gA rfl) (by kernel_rfl) (by kernel_rfl) (by kernel_rfl) (fun _ _ _ h => h) (Or.inl ⟨rfl, ?y29⟩) (by assumption) ?_
      case y29 => (intro w hSw; (try dsimp only at hSw); go_simp <;> with_reducible rfl)
      simp only [Act.put, List.setIfInBounds_toArray, List.set_cons_zero, List.set_cons_succ]
      refine wpAnyH_take (i := 8) (v := ?v30) (gA rfl) (by kernel_rfl) (by kernel_rfl) (by kernel_rfl) (fun _ _ _ h => h) (Or.inl ⟨rfl, ?y30⟩) (by assumption) ?_
      case y30 => (intro w hSw; (try dsimp only at hSw); go_simp <;> with_reducible rfl)
      simp only [Act.put, List.setIfInBounds_toArray, List.set_cons_zero, List.set_cons_succ]
      refine wpAnyH_take (i := 10) (v := ?v31) (gA rfl) (by kernel_rfl) (by kernel_rfl) (by kernel_rfl) (fun _ _ _ h => h) (Or.inl ⟨rfl, ?y31⟩) (by assumption) ?_
      case y31 => (intro w hSw; (try dsimp only at hSw); go_simp <;> with_reducible rfl)
      simp only [Act.put, List.setIfInBounds_toArray, List.set_cons_zero, List.set_cons_succ]
      refine wpAnyH_take (i := 11) (v := ?v32) (gA rfl) (by kernel_rfl) (by kernel_rfl) (by kernel_rfl) (fun _ _ _ h => h) (Or.inl ⟨rfl, ?y32⟩) (by assumption) ?_
      case y32 => (intro w hSw; (try dsimp only at hSw); go_simp <;> with_reducible rfl)
      simp only [Act.put, List.setIfInBounds_toArray, List.set_cons_zero, List.set_cons_succ]
      refine wpAnyH_take (i := 12) (v := ?v33) (gA rfl) (by kernel_rfl) (by kernel_rfl) (by kernel_rfl) (fun _ _ _ h => h) (Or.inl ⟨rfl, ?y33⟩) (by assumption) ?_
      case y33 => (intro w hSw; (try dsimp only at hSw); go_simp <;> with_reducible rfl)
      simp only [Act.put, List.setIfInBounds_toArray, List.set_cons_zero, List.set_cons_succ]
      refine wpAnyH_ready (rs := [9, 13]) (by kernel_rfl) (by simp) ?_
      refine AllReadyH.cons (gA rfl) (fun K hK => ?_) ?m_9
      case m_9 =>
        refine AllReadyH.cons (gA rfl) (fun K hK => ?_) AllReadyH.nil
        (refine step_load_mid rfl 42 (.tmp 47) rfl q (k * 11) rfl bc _ HR1.out Tryz.underlying42 (by kernel_rfl) HL2.out ?_)
        refine hK.out _ _ ?_ (fun hHeld => ?_)
        · exact trivial
        clear hK K
        try simp only [Act.put, List.setIfInBounds_toArray, List.set_cons_zero, List.set_cons_succ]
        refine wpAnyH_ready (rs := [9]) (by kernel_rfl) (by simp) ?_
        refine AllReadyH.cons (gA rfl) (fun K hK => ?_) AllReadyH.nil
        (refine step_load_mid rfl 42 (.tmp 43) rfl q (j * 11) rfl aj _ HR2.out Tryz.underlying42 (by kernel_rfl) HL1.out ?_)
        refine hK.out _ _ ?_ (fun hHeld => ?_)
        · exact trivial
        clear hK K
        try simp only [Act.put, List.setIfInBounds_toArray, List.set_cons_zero, List.set_cons_succ]
        refine wpAnyH_take (i := 14) (v := ?v34) (gA rfl) (by kernel_rfl) (by kernel_rfl) (by kernel_rfl) (fun _ _ _ h => h) (Or.inl ⟨rfl, ?y34⟩) (by assumption) ?_
        case y34 => (intro w hSw; (try dsimp only at hSw); go_simp <;> with_reducible rfl)
        simp only [Act.put, List.setIfInBounds_toArray, List.set_cons_zero, List.set_cons_succ]
        refine wpAnyH_ready (rs := [15]) (by kernel_rfl) (by simp) (AllReadyH.cons (gA rfl) (fun K hK => ?_) AllReadyH.nil)
        (refine step_store_mid rfl 42 (.tmp 49) (.tmp 44) rfl q (k * 11) aj rfl rfl HT1.out HL1.out o2 ?_)
        refine hK.out _ _ ?_ (fun hHeld => ?_)
        · exact trivial
        clear hK K
        try simp only [Act.put, List.setIfInBounds_toArray, List.set_cons_zero, List.set_cons_succ]
        refine wpAnyH_take (i := 16) (v := ?v36) (gA rfl) (by kernel_rfl) (by kernel_rfl) (by kernel_rfl) (fun _ _ _ h => h) (Or.inl ⟨rfl, ?y36⟩) (by assumption) ?_
        case y36 => (intro w hSw; (try dsimp only at hSw); go_simp <;> with_reducible rfl)
        simp only [Act.put, List.setIfInBounds_toArray, List.set_cons_zero, List.set_cons_succ]
        refine wpAnyH_ready (rs := [17]) (by kernel_rfl) (by simp) (AllReadyH.cons (gA rfl) (fun K hK => ?_) AllReadyH.nil)
        (refine step_store_mid rfl 42 (.tmp 50) (.tmp 48) rfl q (j * 11) bc rfl rfl HT2.out HL2.out o1 ?_)
        refine hK.out _ _ ?_ (fun hHeld => ?_)
        · exact trivial
        clear hK K
        try simp only [Act.put, List.setIfInBounds_toArray, List.set_cons_zero, List.set_cons_succ]
        refine wpAnyH_done (by kernel_rfl) ?_ _
        go_wp2_with fail
        go_roundg j
        case measure => have := HKJ.out; omega
        case rel => exact ⟨j, _, by have := HKJ.out; omega, Nat.le_refl _, by first | rfl | go_num, HO6.out, HA2, HK6.out⟩
      (refine step_load_mid rfl 42 (.tmp 43) rfl q (j * 11) rfl aj _ HR2.out Tryz.underlying42 (by kernel_rfl) HL1.out ?_)
      refine hK.out _ _ ?_ (fun hHeld => ?_)
      · exact trivial
      clear hK K
      try simp only [Act.put, List.setIfInBounds_toArray, List.set_cons_zero, List.set_cons_succ]
      refine wpAnyH_ready (rs := [13]) (by kernel_rfl) (by simp) ?_
      refine AllReadyH.cons (gA rfl) (fun K hK => ?_) AllReadyH.nil
      (refine step_load_mid rfl 42 (.tmp 47) rfl q (k * 11) rfl bc _ HR1.out Tryz.underlying42 (by kernel_rfl) HL2.out ?_)
      refine hK.out _ _ ?_ (fun hHeld => ?_)
      · exact trivial
      clear hK K
      try simp only [Act.put, List.setIfInBounds_toArray, List.set_cons_zero, List.set_cons_succ]
      refine wpAnyH_take (i := 14) (v := ?v38) (gA rfl) (by kernel_rfl) (by kernel_rfl) (by kernel_rfl) (fun _ _ _ h => h) (Or.inl ⟨rfl, ?y38⟩) (by assumption) ?_
      case y38 => (intro w hSw; (try dsimp only at hSw); go_simp <;> with_reducible rfl)
      simp only [Act.put, List.setIfInBounds_toArray, List.set_cons_zero, List.set_cons_succ]
      refine wpAnyH_ready (rs := [15]) (by kernel_rfl) (by simp) (AllReadyH.cons (gA rfl) (fun K hK => ?_) AllReadyH.nil)
      (refine step_store_mid rfl 42 (.tmp 49) (.tmp 44) rfl q (k * 11) aj rfl rfl HT1.out HL1.out o2 ?_)
      refine hK.out _ _ ?_ (fun hHeld => ?_)
      · exact trivial
      clear hK K
      try simp only [Act.put, List.setIfInBounds_toArray, List.set_cons_zero, List.set_cons_succ]
      refine wpAnyH_take (i := 16) (v := ?v40) (gA rfl) (by kernel_rfl) (by kernel_rfl) (by kernel_rfl) (fun _ _ _ h => h) (Or.inl ⟨rfl, ?y40⟩) (by assumption) ?_
      case y40 => (intro w hSw; (try dsimp only at hSw); go_simp <;> with_reducible rfl)
      simp only [Act.put, List.setIfInBounds_toArray, List.set_cons_zero, List.set_cons_succ]
      refine wpAnyH_ready (rs := [17]) (by kernel_rfl) (by simp) (AllReadyH.cons (gA rfl) (fun K hK => ?_) AllReadyH.nil)
      (refine step_store_mid rfl 42 (.tmp 50) (.tmp 48) rfl q (j * 11) bc rfl rfl HT2.out HL2.out o1 ?_)
      refine hK.out _ _ ?_ (fun hHeld => ?_)
      · exact trivial
      clear hK K
      try simp only [Act.put, List.setIfInBounds_toArray, List.set_cons_zero, List.set_cons_succ]
      refine wpAnyH_done (by kernel_rfl) ?_ _
      go_wp2_with fail
      go_roundg j
      case measure => have := HKJ.out; omega
      case rel => exact ⟨j, _, by have := HKJ.out; omega, Nat.le_refl _, by first | rfl | go_num, HO6.out, HA2, HK6.out⟩
end Go.Proofs.YtlablioefblmkaaGreat
