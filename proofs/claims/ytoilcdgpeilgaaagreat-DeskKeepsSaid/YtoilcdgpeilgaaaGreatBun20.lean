/-
  Words, laws and contracts: StockP.
-/
import Derived.Test.YtoilcdgpeilgaaaGreatBun19
set_option linter.unusedSimpArgs false
set_option linter.unusedVariables false
namespace Go.Proofs.YtoilcdgpeilgaaaGreat
open Go.RowKit Go.Shelf
structure FixO (w : World) (base : Nat) (x : Sai) (p : SaiV) : Prop where
  cats : ∃ xs, Own catO 2 184 w base (.slice p.A p.n p.cap) x.ship.cats xs
  cabs : ∃ xs, Own cabC 4 76 w base (.slice p.B p.m p.cap2) x.ship.cabs xs
  leg : ∃ xs, Own rowO 1 47 w base (.slice p.D p.nd p.cd) x.fares.leg xs
  bands : ∃ xs, Own bandC 2 186 w base (.slice p.E p.ne p.ce) x.fares.bands xs
  a : InI x.fares.alone
  t : InI x.fares.third
  d : InI x.fares.down
theorem FixO.keep {w w' : World} {base : Nat} {x : Sai} {p : SaiV} (h : FixO w base x p) (hk : ∀ b, base ≤ b → b < w.heap.size → w'.heap[b]? = w.heap[b]?) : FixO w' base x p := by
  obtain ⟨xs1, h1⟩ := h.cats
  obtain ⟨xs2, h2⟩ := h.cabs
  obtain ⟨xs3, h3⟩ := h.leg
  obtain ⟨xs4, h4⟩ := h.bands
  exact ⟨⟨xs1, h1.keep catO_good hk⟩, ⟨xs2, h2.keep cabC_good hk⟩, ⟨xs3, h3.keep rowO_good hk⟩, ⟨xs4, h4.keep bandC_good hk⟩, h.a, h.t, h.d⟩
def SaiW (w0 : World) (b0 : Nat) (w : World) (base : Nat) (x : Sai) (p : SaiV) : Prop :=
  base ≤ b0 ∧ b0 ≤ w0.heap.size ∧ w0.heap.size ≤ w.heap.size ∧ (∀ k, b0 ≤ k → k < w0.heap.size → w.heap[k]? = w0.heap[k]?) ∧ FixO w0 b0 x p ∧ ∃ xs, Own bkgO 11 37 w w0.heap.size (.slice p.C p.nb p.cb) x.bks xs
def SaiO (w : World) (base : Nat) (x : Sai) (p : SaiV) : Prop := ∃ (w0 : World) (b0 : Nat), SaiW w0 b0 w base x p
section
variable {w w' : World} {base : Nat} {x : Sai} {p : SaiV}
theorem SaiO.mono {base' : Nat} (h : SaiO w base x p) (hb : base' ≤ base) : SaiO w base' x p := by
  obtain ⟨w0, b0, h1, r⟩ := h
  exact ⟨w0, b0, Nat.le_trans hb h1, r⟩
theorem SaiO.keep (h : SaiO w base x p) (hs : w.heap.size ≤ w'.heap.size) (hk : ∀ b, base ≤ b → b < w.heap.size → w'.heap[b]? = w.heap[b]?) : SaiO w' base x p := by
  obtain ⟨w0, b0, h1, h2, h3, h4, h5, xs, h6⟩ := h
  exact ⟨w0, b0, h1, h2, Nat.le_trans h3 hs, fun k hk0 hkl => (hk k (by omega) (by omega)).trans (h4 k hk0 hkl), h5, xs, h6.keep bkgO_good fun b hb hlt => hk b (by omega) hlt⟩
theorem SaiO.bel (h : SaiO w base x p) (hb : Below w.heap.size w w') : SaiO w' base x p := h.keep hb.size fun b _ hlt => hb.block b hlt
theorem SaiO.kept {S : Nat → Prop} (h : SaiO w base x p) (hk : Kept S w w') (hS : ∀ k, base ≤ k → ¬ S k) : SaiO w' base x p := h.keep hk.size fun b hb hlt => hk.block b hlt (hS b hb)
theorem Own.slAll {α : Type} {c c' : Cod α} {size : Nat} {e : TypeId} {v : Value} {l : List α} {xs : List Value} {A : Option Addr} {n cap : Nat} (h : Own c size e w base v l xs) (hg : Good c) (hg' : Good c') (hs : 0 < size) (hc : ∀ {w S x cs}, c w S x cs → c' w S x cs) (hv : v = .slice A n cap) : Sl c' size w All A n cap l := by
  obtain ⟨A', n', cap', hv', hsl⟩ := h.sl hg
  rw [hv'] at hv
  simp only [Value.slice.injEq] at hv
  obtain ⟨rfl, rfl, rfl⟩ := hv
  exact (hsl.mono_cod fun x cs h => hc h).all hg' hs
theorem SaiO.sai (h : SaiO w base x p) : SaiR w x p := by
  obtain ⟨w0, b0, h1, h2, h3, h4, h5, xs, h6⟩ := h
  have h5 := h5.keep (w' := w) h4
  obtain ⟨xs1, k1⟩ := h5.cats
  obtain ⟨xs2, k2⟩ := h5.cabs
  obtain ⟨xs3, k3⟩ := h5.leg
  obtain ⟨xs4, k4⟩ := h5.bands
  exact ⟨k1.slAll catO_good catC_good (by omega) (fun h => catO_catC h) rfl, k2.slAll cabC_good cabC_good (by omega) (fun h => h) rfl,
    ⟨k3.slAll rowO_good (slC_good intC_good (by omega)) (by omega) (fun h => rowO_slC h) rfl, k4.slAll bandC_good bandC_good (by omega) (fun h => h) rfl, h5.a, h5.t, h5.d⟩,
    h6.slAll bkgO_good bkgC_good (by omega) (fun h => bkgO_bkgC h) rfl⟩
end
theorem bkg_lit {w5 w6 : World} {base : Nat} {v : Value} {l : List Bkg} {xs xs6 : List Value} {b : Bkg} {A5 : Option Addr} {n5 c5 : Nat} (hO : Own bkgO 11 37 w5 base v l xs) (h5 : base ≤ w5.heap.size) (hs : w5.heap.size ≤ w6.heap.size)
    (hO6 : Own entryC 3 57 w6 w5.heap.size (.slice A5 n5 c5) b.fol xs6) (hI : BkIn b) :
    Sl bkgO 11 (w6.alloc (.cells (bkgA b (.slice A5 n5 c5)) 37)) (Beside base v) (some ⟨w6.heap.size, 0, none⟩) 1 1 [b] := by
  have hne : ∀ k, w5.heap.size ≤ k → some k ≠ v.ownBlock := fun k hk e => by have := (hO.lt k e.symm).2; omega
  exact Sl.lit1 w6 (Beside base v) 37 b (bkgA b (.slice A5 n5 c5)).toList ⟨_, rfl, ⟨xs6, (hO6.bel (bel1 w6 _)).mono entryC_good (Nat.zero_le _), fun k hk => ⟨by have := (hO6.lt k hk).1; omega, hne k (hO6.lt k hk).1⟩⟩, hI⟩ ⟨by omega, hne _ hs⟩
theorem kset (w : World) (q : Nat) (l : List (Nat × Value)) : Kept (fun k => k = q) w (l.foldl (fun w p => w.setCell ⟨q, p.1, none⟩ p.2) w) := by
  have : ∀ (l : List (Nat × Value)) (u : World), Kept (fun k => k = q) w u → Kept (fun k => k = q) w (l.foldl (fun w p => w.setCell ⟨q, p.1, none⟩ p.2) u) := by
    intro l
    induction l with
    | nil => exact fun u h => h
    | cons x l ih => exact fun u h => ih _ (h.setCell (p := ⟨q, x.1, none⟩) (.inl rfl) x.2)
  exact this l w (Kept.refl _ _)
set_option maxRecDepth 100000 in
set_option maxHeartbeats 16000000 in
theorem stockOwn_any (x : Sai) (p : SaiV) (w : World) (h : SaiR w x p) (ho : OkSai x) :
    Calls Tryz.prog 118 #[.agg (saiA x p)] w fun e w' => ∃ p', e = .returned (.agg (saiA x p')) ∧ SaiO w' w.heap.size x p' ∧ Below w.heap.size w w' := by
  obtain ⟨A, n, cap, B, m, cap2, D, nd, cd, E, ne, ce, C, nb, cb⟩ := p
  have hl : Sl bkgC 11 w All C nb cb x.bks := h.bks
  have hc : Sl catC 2 w All A n cap x.ship.cats := h.cats
  have hd : Sl cabC 4 w All B m cap2 x.ship.cabs := h.cabs
  have hf : FareR w D nd cd x.fares E ne ce := h.fares
  have hfo := fare_ok ho.fares
  have hn5 : n ≤ 1000 := by have := ho.bs.ship.cats5; rw [hc.len] at this; omega
  have hm12 : m ≤ 1000 := by have := ho.bs.ship.cabs12; rw [hd.len] at this; omega
  have hnb : nb ≤ 16 := by have := ho.bs.len; rwa [hl.len] at this
  have hnd : nd ≤ 1000 := by have h1 := hfo.len; have h2 := hfo.cr; have := hf.leg.len; omega
  have hne : ne ≤ 1000 := by have := hfo.four; have := hf.bands.len; omega
  have HSO := Lib.hid (fun W h1 h2 => shipOwn_any x.ship A n cap B m cap2 W h1 h2 hn5 hm12 (fun c hc => by have := ho.bs.ship.ok.few c hc; omega))
  have HFO := Lib.hid (fun W h1 => fareOwn_any x.fares D nd cd E ne ce W h1 hnd hne (fun c hc => by have := hfo.lens c hc; have := hfo.mr; omega))
  have HFOL := Lib.hid (fun b (hb : b ∈ x.bks) => check_len (ho.bs.bk b hb).fol)
  have HIN := Lib.hid (show InI x.fares.alone ∧ InI x.fares.third ∧ InI x.fares.down from ⟨hf.a, hf.t, hf.d⟩)
  have HLN := Lib.hid hl.len
  have HL := Lib.hid hl
  have HC := Lib.hid hc
  have HD := Lib.hid hd
  have HF := Lib.hid hf
  clear h hl hc hd hf hfo ho
  go_enter Tryz.func118, Tryz.ntmps118
  go_upto_region 0 with (fail)
  go_cut [1, 2] (fun p p2 wx => ∃ g z, p = .pointer (some ⟨g, 0, none⟩) ∧ p2 = .pointer (some ⟨z, 0, none⟩) ∧ w.heap.size ≤ g ∧ w.heap.size ≤ z ∧ g ≠ z ∧ Blk wx g (saiA x ⟨A, n, cap, B, m, cap2, D, nd, cd, E, ne, ce, C, nb, cb⟩) 32 ∧ Blk wx z #[.int .i64 0, .int .i64 0, .slice none 0 0, .slice none 0 0, .slice none 0 0, .int .i64 0, .int .i64 0, .slice none 0 0, .int .i64 0, .int .i64 0, .int .i64 0, .slice none 0 0, .bool false] 32 ∧ Below w.heap.size w wx)
  case first => as_aux_lemma =>
    go_wp2_with fail
    go_meet
    exact ⟨_, _, rfl, rfl, Nat.le_refl _, by omega, by omega, blk2_0 _ _ _, blk2_1 _ _ _, bel2 _ _ _⟩
  obtain ⟨g, z, rfl, rfl, hg, hz, hgz, hG, hZ, hb⟩ := hcut
  obtain ⟨W1, hW1⟩ : ∃ V, V = wc := ⟨_, rfl⟩
  subst hW1
  have hsz1 := hb.size
  go_upto_region 1 with (fail)
  go_cut [3] (fun p wx => ∃ q, p = .pointer (some ⟨q, 0, none⟩) ∧ W1.heap.size ≤ q ∧ Blk wx q (saiA x ⟨A, n, cap, B, m, cap2, D, nd, cd, E, ne, ce, C, nb, cb⟩) 32 ∧ Below W1.heap.size W1 wx)
  case first => as_aux_lemma =>
    go_wp2_with (first | (refine wpList_load_row rfl 32 (.tmp 1) rfl g rfl 32 _ (0, 0) _ hG Tryz.underlying32 rfl (by kernel_rfl) ?_) | (refine wpList_store_row rfl 32 (.tmp 3) (.tmp 6) rfl W1.heap.size (saiA x ⟨A, n, cap, B, m, cap2, D, nd, cd, E, ne, ce, C, nb, cb⟩) rfl rfl 32 _ (Blk.new W1 #[.int .i64 0, .int .i64 0, .slice none 0 0, .slice none 0 0, .slice none 0 0, .int .i64 0, .int .i64 0, .slice none 0 0, .int .i64 0, .int .i64 0, .int .i64 0, .slice none 0 0, .bool false] 32) (by kernel_rfl) rfl (by simp [Value.oneCell']) ?_))
    go_meet
    exact ⟨_, rfl, Nat.le_refl _, (Blk.new _ _ _).row _, below_setRow (bel1 _ _) (Nat.le_refl _) _⟩
  obtain ⟨q, rfl, hq, hQ, hb2⟩ := hcut
  have hgl := hG.lt
  have hzl := hZ.lt
  have hql := hQ.lt
  replace hG := hG.bel hb2
  replace hZ := hZ.bel hb2
  replace hb := hb.trans (hb2.mono hb.size)
  have hsz := hb2.size
  clear hb2
  obtain ⟨W2, hW2⟩ : ∃ V, V = wc := ⟨_, rfl⟩
  subst hW2
  have HG := Lib.hid hG
  clear hG
  have HZ := Lib.hid hZ
  clear hZ
  have HQ := Lib.hid hQ
  clear hQ
  have HB := Lib.hid hb
  clear hb
  have HSG := Lib.hid (show ∀ X, Below W2.heap.size W2 X → (fun w' => w'.cell? ⟨g, 0, none⟩ = some (.int .i64 x.ship.legs) ∧ w'.cell? ⟨g, 1, none⟩ = some (.int .i64 x.ship.souls) ∧ w'.cell? ⟨g, 2, none⟩ = some (.slice A n cap) ∧ w'.cell? ⟨g, 3, none⟩ = some (.slice B m cap2) ∧ w'.cell? ⟨g, 4, none⟩ = some (.slice D nd cd) ∧ w'.cell? ⟨g, 5, none⟩ = some (.int .i64 x.fares.alone) ∧ w'.cell? ⟨g, 6, none⟩ = some (.int .i64 x.fares.third) ∧ w'.cell? ⟨g, 7, none⟩ = some (.slice E ne ce) ∧ w'.cell? ⟨g, 8, none⟩ = some (.int .i64 x.fares.down)) X from fun X hX => ⟨(HG.out.bel hX).cell rfl, (HG.out.bel hX).cell rfl, (HG.out.bel hX).cell rfl, (HG.out.bel hX).cell rfl, (HG.out.bel hX).cell rfl, (HG.out.bel hX).cell rfl, (HG.out.bel hX).cell rfl, (HG.out.bel hX).cell rfl, (HG.out.bel hX).cell rfl⟩)
  go_upto_region 2 with (fail)
  go_cut [3] (fun p wx => p = .pointer (some ⟨q, 0, none⟩) ∧ ∃ A1 n1 c1 B1 m1 d1 D1 nd1 cd1 E1 ne1 ce1, Blk wx q (saiA x ⟨A1, n1, c1, B1, m1, d1, D1, nd1, cd1, E1, ne1, ce1, none, 0, 0⟩) 32 ∧ FixO wx W2.heap.size x ⟨A1, n1, c1, B1, m1, d1, D1, nd1, cd1, E1, ne1, ce1, none, 0, 0⟩ ∧ Kept (fun k => k = q) W2 wx)
  case first => as_aux_lemma =>
    have hbx : Below W2.heap.size W2 W2.drew := (Below.refl _ W2).drew
    have HT := Lib.hid (fun X (hX : Below W2.heap.size W2 X) => HB.out.trans (hX.mono HB.out.size))
    refine wp_region_held_drew (S := (fun w' => w'.cell? ⟨g, 0, none⟩ = some (.int .i64 x.ship.legs) ∧ w'.cell? ⟨g, 1, none⟩ = some (.int .i64 x.ship.souls) ∧ w'.cell? ⟨g, 2, none⟩ = some (.slice A n cap) ∧ w'.cell? ⟨g, 3, none⟩ = some (.slice B m cap2) ∧ w'.cell? ⟨g, 4, none⟩ = some (.slice D nd cd) ∧ w'.cell? ⟨g, 5, none⟩ = some (.int .i64 x.fares.alone) ∧ w'.cell? ⟨g, 6, none⟩ = some (.int .i64 x.fares.third) ∧ w'.cell? ⟨g, 7, none⟩ = some (.slice E ne ce) ∧ w'.cell? ⟨g, 8, none⟩ = some (.int .i64 x.fares.down))) (by kernel_rfl) (HSG.out _ hbx) (fun hHeld => ?_)
    refine wpAnyH_take (i := 0) (v := ?v9) (gA rfl) (by kernel_rfl) (by kernel_rfl) (by kernel_rfl) (fun _ _ _ h => h) (Or.inl ⟨rfl, ?y9⟩) (by assumption) ?_
    case y9 => (intro w hSw; (try dsimp only at hSw); go_simp <;> with_reducible rfl)
    simp only [Act.put, List.setIfInBounds_toArray, List.set_cons_zero, List.set_cons_succ]
    refine wpAnyH_take (i := 1) (v := ?v10) (gA rfl) (by kernel_rfl) (by kernel_rfl) (by kernel_rfl) (fun _ _ _ h => h) (Or.inl ⟨rfl, ?y10⟩) (by assumption) ?_
    case y10 => (intro w hSw; (try dsimp only at hSw); go_simp <;> with_reducible rfl)
    simp only [Act.put, List.setIfInBounds_toArray, List.set_cons_zero, List.set_cons_succ]
    refine wpAnyH_take (i := 3) (v := ?v11) (gA rfl) (by kernel_rfl) (by kernel_rfl) (by kernel_rfl) (fun _ _ _ h => h) (Or.inl ⟨rfl, ?y11⟩) (by assumption) ?_
    case y11 => (intro w hSw; (try dsimp only at hSw); go_simp <;> with_reducible rfl)
    simp only [Act.put, List.setIfInBounds_toArray, List.set_cons_zero, List.set_cons_succ]
    refine wpAnyH_take (i := 4) (v := ?v12) (gA rfl) (by kernel_rfl) (by kernel_rfl) (by kernel_rfl) (fun _ _ _ h => h) (Or.inl ⟨rfl, ?y12⟩) (by assumption) ?_
    case y12 => (intro w hSw; (try dsimp only at hSw); go_simp <;> with_reducible rfl)
    simp only [Act.put, List.setIfInBounds_toArray, List.set_cons_zero, List.set_cons_succ]
    refine wpAnyH_ready (rs := [2]) (by kernel_rfl) (by simp) (AllReadyH.cons (gA rfl) (fun K hK => ?_) AllReadyH.nil)
    go_simp
    (go_at_call 201; refine (HSO.out _ (HC.out.bel (HT.out _ hbx)) (HD.out.bel (HT.out _ hbx))).mono ?_; rintro e w4 ⟨A1, n1, c1, B1, m1, d1, xs1, xs2, rfl, hO1, hO2, hb4⟩; have hs4 := hbx.size; replace hO1 := hO1.mono catO_good hs4; replace hO2 := hO2.mono cabC_good hs4; replace hbx := hbx.trans (hb4.mono hbx.size); have H1 := Lib.hid hO1; have H2 := Lib.hid hO2; clear hO1 hO2 hb4 hs4)
    go_wp2_with fail
    refine hK.out _ _ ?_ (fun hHeld => ?_)
    · exact HSG.out _ hbx
    clear hK K
    try simp only [Act.put, List.setIfInBounds_toArray, List.set_cons_zero, List.set_cons_succ]
    refine wpAnyH_take (i := 6) (v := ?v14) (gA rfl) (by kernel_rfl) (by kernel_rfl) (by kernel_rfl) (fun _ _ _ h => h) (Or.inl ⟨rfl, ?y14⟩) (by assumption) ?_
    case y14 => (intro w hSw; (try dsimp only at hSw); go_simp <;> with_reducible rfl)
    simp only [Act.put, List.setIfInBounds_toArray, List.set_cons_zero, List.set_cons_succ]
    refine wpAnyH_ready (rs := [5]) (by kernel_rfl) (by simp) (AllReadyH.cons (gA rfl) (fun K hK => ?_) AllReadyH.nil)
    go_simp
    (go_at_call 202; refine (HFO.out _ (HF.out.below (HT.out _ hbx))).mono ?_; rintro e w5 ⟨D1, nd1, cd1, E1, ne1, ce1, xs3, xs4, rfl, hO3, hO4, hb5⟩; have hs4 := hbx.size; replace hO3 := hO3.mono rowO_good hs4; replace hO4 := hO4.mono bandC_good hs4; have H1b := Lib.hid (H1.out.bel hb5); have H2b := Lib.hid (H2.out.bel hb5); replace hbx := hbx.trans (hb5.mono hbx.size); have H3 := Lib.hid hO3; have H4 := Lib.hid hO4; clear hO3 hO4 hb5 hs4)
    go_wp2_with fail
    refine hK.out _ _ ?_ (fun hHeld => ?_)
    · exact HSG.out _ hbx
    clear hK K
    try simp only [Act.put, List.setIfInBounds_toArray, List.set_cons_zero, List.set_cons_succ]
    have hQ5 := HQ.out.bel hbx
    have hG5 := HG.out.bel hbx
    have q0 : w5.cell? ⟨q, 0, none⟩ = some (.int .i64 x.ship.legs) := hQ5.cell rfl
    have q1 : w5.cell? ⟨q, 1, none⟩ = some (.int .i64 x.ship.souls) := hQ5.cell rfl
    have q2 : w5.cell? ⟨q, 2, none⟩ = some (.slice A n cap) := hQ5.cell rfl
    have q3 : w5.cell? ⟨q, 3, none⟩ = some (.slice B m cap2) := hQ5.cell rfl
    have q4 : w5.cell? ⟨q, 4, none⟩ = some (.slice D nd cd) := hQ5.cell rfl
    have q5 : w5.cell? ⟨q, 5, none⟩ = some (.int .i64 x.fares.alone) := hQ5.cell rfl
    have q6 : w5.cell? ⟨q, 6, none⟩ = some (.int .i64 x.fares.third) := hQ5.cell rfl
    have q7 : w5.cell? ⟨q, 7, none⟩ = some (.slice E ne ce) := hQ5.cell rfl
    have q8 : w5.cell? ⟨q, 8, none⟩ = some (.int .i64 x.fares.down) := hQ5.cell rfl
    have q11 : w5.cell? ⟨q, 11, none⟩ = some (.slice C nb cb) := hQ5.cell rfl
    have f0 := hQ5.free 0
    have f1 := hQ5.free 1
    have f2 := hQ5.free 2
    have f3 := hQ5.free 3
    have f4 := hQ5.free 4
    have f5 := hQ5.free 5
    have f6 := hQ5.free 6
    have f7 := hQ5.free 7
    have f8 := hQ5.free 8
    have f11 := hQ5.free 11
    have HSG2 := Lib.hid (show ∀ X, Blk X g (saiA x ⟨A, n, cap, B, m, cap2, D, nd, cd, E, ne, ce, C, nb, cb⟩) 32 → (fun w' => w'.cell? ⟨g, 0, none⟩ = some (.int .i64 x.ship.legs) ∧ w'.cell? ⟨g, 1, none⟩ = some (.int .i64 x.ship.souls) ∧ w'.cell? ⟨g, 2, none⟩ = some (.slice A n cap) ∧ w'.cell? ⟨g, 3, none⟩ = some (.slice B m cap2) ∧ w'.cell? ⟨g, 4, none⟩ = some (.slice D nd cd) ∧ w'.cell? ⟨g, 5, none⟩ = some (.int .i64 x.fares.alone) ∧ w'.cell? ⟨g, 6, none⟩ = some (.int .i64 x.fares.third) ∧ w'.cell? ⟨g, 7, none⟩ = some (.slice E ne ce) ∧ w'.cell? ⟨g, 8, none⟩ = some (.int .i64 x.fares.down)) X from fun X hX => ⟨hX.cell rfl, hX.cell rfl, hX.cell rfl, hX.cell rfl, hX.cell rfl, hX.cell rfl, hX.cell rfl, hX.cell rfl, hX.cell rfl⟩)
    have hgq : ¬ g = q := by omega
    have HBX := Lib.hid hbx
    have HQ5 := Lib.hid hQ5
    have HG5 := Lib.hid hG5
    clear hQ5 hG5
    refine wpAnyH_ready (rs := [7]) (by kernel_rfl) (by simp) (AllReadyH.cons (gA rfl) (fun K hK => ?_) AllReadyH.nil)
    go_simp
    refine hK.out _ _ ?_ (fun hHeld => ?_)
    · exact HSG2.out _ (HG5.out.kept (show Kept (fun k => k = q) w5 ((((w5.setCell ⟨q, 0, none⟩ (.int .i64 x.ship.legs)).setCell ⟨q, 1, none⟩ (.int .i64 x.ship.souls)).setCell ⟨q, 2, none⟩ (.slice A1 n1 c1)).setCell ⟨q, 3, none⟩ (.slice B1 m1 d1)) from kset w5 q [(0, .int .i64 x.ship.legs), (1, .int .i64 x.ship.souls), (2, .slice A1 n1 c1), (3, .slice B1 m1 d1)]) hgq)
    clear hK K
    try simp only [Act.put, List.setIfInBounds_toArray, List.set_cons_zero, List.set_cons_succ]
    have hQ7 : Blk ((((w5.setCell ⟨q, 0, none⟩ (.int .i64 x.ship.legs)).setCell ⟨q, 1, none⟩ (.int .i64 x.ship.souls)).setCell ⟨q, 2, none⟩ (.slice A1 n1 c1)).setCell ⟨q, 3, none⟩ (.slice B1 m1 d1)) q #[.int .i64 x.ship.legs, .int .i64 x.ship.souls, .slice A1 n1 c1, .slice B1 m1 d1, .slice D nd cd, .int .i64 x.fares.alone, .int .i64 x.fares.third, .slice E ne ce, .int .i64 x.fares.down, .int .i64 x.day, .int .i64 x.leaves, .slice C nb cb, .bool x.closed] 32 := (((HQ5.out.set (j := 0) _).set (j := 1) _).set (j := 2) _).set (j := 3) _
    have hK7 : Kept (fun k => k = q) w5 ((((w5.setCell ⟨q, 0, none⟩ (.int .i64 x.ship.legs)).setCell ⟨q, 1, none⟩ (.int .i64 x.ship.souls)).setCell ⟨q, 2, none⟩ (.slice A1 n1 c1)).setCell ⟨q, 3, none⟩ (.slice B1 m1 d1)) := kset w5 q [(0, .int .i64 x.ship.legs), (1, .int .i64 x.ship.souls), (2, .slice A1 n1 c1), (3, .slice B1 m1 d1)]
    clear q0 q1 q2 q3 q4 q5 q6 q7 q8 q11 f0 f1 f2 f3 f4 f5 f6 f7 f8 f11 hHeld
    obtain ⟨w7, hw7⟩ : ∃ V, V = ((((w5.setCell ⟨q, 0, none⟩ (.int .i64 x.ship.legs)).setCell ⟨q, 1, none⟩ (.int .i64 x.ship.souls)).setCell ⟨q, 2, none⟩ (.slice A1 n1 c1)).setCell ⟨q, 3, none⟩ (.slice B1 m1 d1)) := ⟨_, rfl⟩
    rw [← hw7] at hQ7 hK7 ⊢
    clear hw7
    have hG7 := HG5.out.kept hK7 hgq
    have hHeld := HSG2.out _ hG7
    have q4 : w7.cell? ⟨q, 4, none⟩ = some (.slice D nd cd) := hQ7.cell rfl
    have q5 : w7.cell? ⟨q, 5, none⟩ = some (.int .i64 x.fares.alone) := hQ7.cell rfl
    have q6 : w7.cell? ⟨q, 6, none⟩ = some (.int .i64 x.fares.third) := hQ7.cell rfl
    have q7 : w7.cell? ⟨q, 7, none⟩ = some (.slice E ne ce) := hQ7.cell rfl
    have q8 : w7.cell? ⟨q, 8, none⟩ = some (.int .i64 x.fares.down) := hQ7.cell rfl
    have f4 := hQ7.free 4
    have f5 := hQ7.free 5
    have f6 := hQ7.free 6
    have f7 := hQ7.free 7
    have f8 := hQ7.free 8
    have HQ7 := Lib.hid hQ7
    have HK7 := Lib.hid hK7
    have HG7 := Lib.hid hG7
    clear hQ7 hK7 hG7
    refine wpAnyH_take (i := 8) (v := ?v17) (gA rfl) (by kernel_rfl) (by kernel_rfl) (by kernel_rfl) (fun _ _ _ h => h) (Or.inl ⟨rfl, ?y17⟩) (by assumption) ?_
    case y17 => (intro w hSw; (try dsimp only at hSw); go_simp <;> with_reducible rfl)
    simp only [Act.put, List.setIfInBounds_toArray, List.set_cons_zero, List.set_cons_succ]
    refine wpAnyH_ready (rs := [9]) (by kernel_rfl) (by simp) (AllReadyH.cons (gA rfl) (fun K hK => ?_) AllReadyH.nil)
    go_simp
    refine hK.out _ _ ?_ (fun hHeld => ?_)
    · exact HSG2.out _ (HG7.out.kept (show Kept (fun k => k = q) w7 (((((w7.setCell ⟨q, 4, none⟩ (.slice D1 nd1 cd1)).setCell ⟨q, 5, none⟩ (.int .i64 x.fares.alone)).setCell ⟨q, 6, none⟩ (.int .i64 x.fares.third)).setCell ⟨q, 7, none⟩ (.slice E1 ne1 ce1)).setCell ⟨q, 8, none⟩ (.int .i64 x.fares.down)) from kset w7 q [(4, .slice D1 nd1 cd1), (5, .int .i64 x.fares.alone), (6, .int .i64 x.fares.third), (7, .slice E1 ne1 ce1), (8, .int .i64 x.fares.down)]) hgq)
    clear hK K
    try simp only [Act.put, List.setIfInBounds_toArray, List.set_cons_zero, List.set_cons_succ]
    have hQ9 : Blk (((((w7.setCell ⟨q, 4, none⟩ (.slice D1 nd1 cd1)).setCell ⟨q, 5, none⟩ (.int .i64 x.fares.alone)).setCell ⟨q, 6, none⟩ (.int .i64 x.fares.third)).setCell ⟨q, 7, none⟩ (.slice E1 ne1 ce1)).setCell ⟨q, 8, none⟩ (.int .i64 x.fares.down)) q #[.int .i64 x.ship.legs, .int .i64 x.ship.souls, .slice A1 n1 c1, .slice B1 m1 d1, .slice D1 nd1 cd1, .int .i64 x.fares.alone, .int .i64 x.fares.third, .slice E1 ne1 ce1, .int .i64 x.fares.down, .int .i64 x.day, .int .i64 x.leaves, .slice C nb cb, .bool x.closed] 32 := ((((HQ7.out.set (j := 4) _).set (j := 5) _).set (j := 6) _).set (j := 7) _).set (j := 8) _
    have hK9 : Kept (fun k => k = q) w7 (((((w7.setCell ⟨q, 4, none⟩ (.slice D1 nd1 cd1)).setCell ⟨q, 5, none⟩ (.int .i64 x.fares.alone)).setCell ⟨q, 6, none⟩ (.int .i64 x.fares.third)).setCell ⟨q, 7, none⟩ (.slice E1 ne1 ce1)).setCell ⟨q, 8, none⟩ (.int .i64 x.fares.down)) := kset w7 q [(4, .slice D1 nd1 cd1), (5, .int .i64 x.fares.alone), (6, .int .i64 x.fares.third), (7, .slice E1 ne1 ce1), (8, .int .i64 x.fares.down)]
    clear q4 q5 q6 q7 q8 f4 f5 f6 f7 f8 hHeld
    obtain ⟨w9, hw9⟩ : ∃ V, V = (((((w7.setCell ⟨q, 4, none⟩ (.slice D1 nd1 cd1)).setCell ⟨q, 5, none⟩ (.int .i64 x.fares.alone)).setCell ⟨q, 6, none⟩ (.int .i64 x.fares.third)).setCell ⟨q, 7, none⟩ (.slice E1 ne1 ce1)).setCell ⟨q, 8, none⟩ (.int .i64 x.fares.down)) := ⟨_, rfl⟩
    rw [← hw9] at hQ9 hK9 ⊢
    clear hw9
    have hG9 := HG7.out.kept hK9 hgq
    have hHeld := HSG2.out _ hG9
    have q11 : w9.cell? ⟨q, 11, none⟩ = some (.slice C nb cb) := hQ9.cell rfl
    have f11 := hQ9.free 11
    have HQ9 := Lib.hid hQ9
    have HK9 := Lib.hid hK9
    have HG9 := Lib.hid hG9
    clear hQ9 hK9 hG9
    refine wpAnyH_take (i := 10) (v := ?v19) (gA rfl) (by kernel_rfl) (by kernel_rfl) (by kernel_rfl) (fun _ _ _ h => h) (Or.inl ⟨rfl, ?y19⟩) (by assumption) ?_
    case y19 => (intro w hSw; (try dsimp only at hSw); go_simp <;> with_reducible rfl)
    simp only [Act.put, List.setIfInBounds_toArray, List.set_cons_zero, List.set_cons_succ]
    refine wpAnyH_ready (rs := [11]) (by kernel_rfl) (by simp) (AllReadyH.cons (gA rfl) (fun K hK => ?_) AllReadyH.nil)
    go_simp
    refine hK.out _ _ ?_ (fun hHeld => ?_)
    · exact HSG2.out _ (HG9.out.kept ((Kept.refl (fun k => k = q) w9).setCell (p := ⟨q, 11, none⟩) (.inl rfl) (.slice none 0 0)) hgq)
    clear hK K
    try simp only [Act.put, List.setIfInBounds_toArray, List.set_cons_zero, List.set_cons_succ]
    refine wpAnyH_done (by kernel_rfl) ?_ _
    go_wp2_with fail
    go_meet
    have hKE : Kept (fun k => k = q) w5 (w9.setCell ⟨q, 11, none⟩ (.slice none 0 0)) := (HK7.out.trans HK9.out).setCell (p := ⟨q, 11, none⟩) (.inl rfl) (.slice none 0 0)
    refine ⟨rfl, A1, n1, c1, B1, m1, d1, D1, nd1, cd1, E1, ne1, ce1, HQ9.out.set (j := 11) _, ?_, ?_⟩
    · exact FixO.keep (w := w5) ⟨⟨xs1, H1b.out⟩, ⟨xs2, H2b.out⟩, ⟨xs3, H3.out⟩, ⟨xs4, H4.out⟩, HIN.out.1, HIN.out.2.1, HIN.out.2.2⟩ fun b hb hlt => hKE.block b hlt (by omega)
    · exact (Kept.of_below HBX.out (fun k hk h2 => by omega)).trans hKE
  obtain ⟨rfl, A1, n1, c1, B1, m1, d1, D1, nd1, cd1, E1, ne1, ce1, hQ, hFX, hK⟩ := hcut
  obtain ⟨W3, hW3⟩ : ∃ V, V = wc := ⟨_, rfl⟩
  subst hW3
  have hG := HG.out.kept hK (by omega)
  have hZ := HZ.out.kept hK (by omega)
  have hb := HB.out.trans (hK.below (B := w.heap.size) HB.out.size (fun k hk => by omega))
  have hsz3 : W2.heap.size ≤ W3.heap.size := hK.size
  have g11 : W3.cell? ⟨g, 11, none⟩ = some (.slice C nb cb) := hG.cell rfl
  have HFX := Lib.hid hFX
  clear hFX
  have HQ3 := Lib.hid hQ
  clear hQ
  have HZ3 := Lib.hid hZ
  clear hZ
  have HB3 := Lib.hid hb
  clear hb
  clear hG hK HG HZ HQ HB HSG
  go_wp2_with fail
  go_loopg [19] nb (fun gk i wr => ∃ (k : Nat) (C1 : Option Addr) (nb1 cb1 : Nat) (xs1 : List Value), k ≤ nb ∧ nb - k ≤ gk ∧ i = .int .i64 k ∧ Blk wr q (saiA x ⟨A1, n1, c1, B1, m1, d1, D1, nd1, cd1, E1, ne1, ce1, C1, nb1, cb1⟩) 32 ∧ Own bkgO 11 37 wr W3.heap.size (.slice C1 nb1 cb1) (x.bks.take k) xs1 ∧ Kept (fun k => k = q ∨ W3.heap.size ≤ k) W3 wr)
  case atStart => exact ⟨0, none, 0, 0, [], Nat.zero_le _, by omega, rfl, HQ3.out, Own.nil _ _ _ _ _, Kept.refl _ _⟩
  case round =>
    clear g11
    obtain ⟨k, C1, nb1, cb1, xs1, hk, hgk, rfl, hQ, hO1, hK⟩ := hrel
    have hws := hK.size
    have hb := HB3.out.trans (hK.below (B := w.heap.size) HB3.out.size (fun k hk => by omega))
    by_cases hlt : k < nb
    · skip
      obtain ⟨ab, off, ⟨id, kind, state, gst, lev, cab, cat, frm, upto, til, fol⟩, A3, n3, c3, hA, hx, hF, hI, hcel⟩ := (HL.out.bel hb).bkg hlt
      subst hA
      simp only at hF
      have y0 : wr.cell? ⟨ab, off + k * 11, none⟩ = some (.int .i64 id) := hcel 0 _ rfl
      have y1 : wr.cell? ⟨ab, off + k * 11 + 1, none⟩ = some (.int .i64 kind) := hcel 1 _ rfl
      have y2 : wr.cell? ⟨ab, off + k * 11 + 2, none⟩ = some (.int .i64 state) := hcel 2 _ rfl
      have y3 : wr.cell? ⟨ab, off + k * 11 + 3, none⟩ = some (.int .i64 gst) := hcel 3 _ rfl
      have y4 : wr.cell? ⟨ab, off + k * 11 + 4, none⟩ = some (.bool lev) := hcel 4 _ rfl
      have y5 : wr.cell? ⟨ab, off + k * 11 + 5, none⟩ = some (.int .i64 cab) := hcel 5 _ rfl
      have y6 : wr.cell? ⟨ab, off + k * 11 + 6, none⟩ = some (.int .i64 cat) := hcel 6 _ rfl
      have y7 : wr.cell? ⟨ab, off + k * 11 + 7, none⟩ = some (.int .i64 frm) := hcel 7 _ rfl
      have y8 : wr.cell? ⟨ab, off + k * 11 + 8, none⟩ = some (.int .i64 upto) := hcel 8 _ rfl
      have y9 : wr.cell? ⟨ab, off + k * 11 + 9, none⟩ = some (.int .i64 til) := hcel 9 _ rfl
      have y10 : wr.cell? ⟨ab, off + k * 11 + 10, none⟩ = some (.slice A3 n3 c3) := hcel 10 _ rfl
      clear hcel
      go_upto_region 5 with (fail)
      go_cut [5] (fun p1 wx => ∃ y, p1 = .pointer (some ⟨y, 0, none⟩) ∧ wr.heap.size ≤ y ∧ Blk wx y (bkgA ⟨id, kind, state, gst, lev, cab, cat, frm, upto, til, fol⟩ (.slice A3 n3 c3)) 37 ∧ Below wr.heap.size wr wx)
      case first => as_aux_lemma =>
        go_wp2_with fail
        go_meet
        exact ⟨_, rfl, Nat.le_refl _, blk1 _ _, bel1 _ _⟩
      obtain ⟨y, rfl, hy, hY, hby⟩ := hcut
      clear y0 y1 y2 y3 y4 y5 y6 y7 y8 y9 y10
      have hl1 := hO1.lt
      have hyq : y ≠ q := by omega
      have hy1 : some y ≠ (Value.slice C1 nb1 cb1).ownBlock := fun e => by have := (hl1 y e.symm).2; omega
      have hq1 : some q ≠ (Value.slice C1 nb1 cb1).ownBlock := fun e => by have := (hl1 q e.symm).1; omega
      replace hQ := hQ.bel hby
      replace hO1 := hO1.bel hby
      replace hF := hF.bel hby
      replace hK := hK.trans (Kept.of_below hby (fun k hk h2 => by omega))
      have hws5 : W3.heap.size ≤ wc.heap.size := by have := hby.size; omega
      obtain ⟨W5, hW5⟩ : ∃ V, V = wc := ⟨_, rfl⟩
      subst hW5
      have hfl := HFOL.out _ (List.mem_of_getElem? hx)
      have hn3 := hF.len
      simp only at hfl
      have HBO := Lib.hid (fun X (hX : Below W5.heap.size W5 X) => bookOwn_any ⟨id, kind, state, gst, lev, cab, cat, frm, upto, til, fol⟩ A3 n3 c3 X (hF.bel hX) (by omega))
      have HSS := Lib.hid (show ∀ X, Below W5.heap.size W5 X → (fun w' => w'.cell? ⟨y, 0, none⟩ = some (.int .i64 id) ∧ w'.cell? ⟨y, 1, none⟩ = some (.int .i64 kind) ∧ w'.cell? ⟨y, 2, none⟩ = some (.int .i64 state) ∧ w'.cell? ⟨y, 3, none⟩ = some (.int .i64 gst) ∧ w'.cell? ⟨y, 4, none⟩ = some (.bool lev) ∧ w'.cell? ⟨y, 5, none⟩ = some (.int .i64 cab) ∧ w'.cell? ⟨y, 6, none⟩ = some (.int .i64 cat) ∧ w'.cell? ⟨y, 7, none⟩ = some (.int .i64 frm) ∧ w'.cell? ⟨y, 8, none⟩ = some (.int .i64 upto) ∧ w'.cell? ⟨y, 9, none⟩ = some (.int .i64 til) ∧ w'.cell? ⟨y, 10, none⟩ = some (.slice A3 n3 c3)) X from fun X hX => ⟨(hY.bel hX).cell rfl, (hY.bel hX).cell rfl, (hY.bel hX).cell rfl, (hY.bel hX).cell rfl, (hY.bel hX).cell rfl, (hY.bel hX).cell rfl, (hY.bel hX).cell rfl, (hY.bel hX).cell rfl, (hY.bel hX).cell rfl, (hY.bel hX).cell rfl, (hY.bel hX).cell rfl⟩)
      have l1 : W5.cell? ⟨q, 11, none⟩ = some (.slice C1 nb1 cb1) := hQ.cell rfl
      have hby1 : ((x.bks.take k).length + 1) * 104 ≤ 140737488355328 := by rw [List.length_take]; omega
      have HTK := Lib.hid (take_snoc hx)
      have HQ5 := Lib.hid hQ
      clear hQ
      have HO1 := Lib.hid hO1
      clear hO1
      have HK5 := Lib.hid hK
      clear hK
      have HY5 := Lib.hid hY
      clear hY
      have HII := Lib.hid hI
      clear hI
      have hbx : Below W5.heap.size W5 W5.drew := (Below.refl _ W5).drew
      clear hx hF hby hl1 hn3 hfl hb
      go_upto_region 6 with (fail)
      refine wp_region_held_drew (S := (fun w' => w'.cell? ⟨y, 0, none⟩ = some (.int .i64 id) ∧ w'.cell? ⟨y, 1, none⟩ = some (.int .i64 kind) ∧ w'.cell? ⟨y, 2, none⟩ = some (.int .i64 state) ∧ w'.cell? ⟨y, 3, none⟩ = some (.int .i64 gst) ∧ w'.cell? ⟨y, 4, none⟩ = some (.bool lev) ∧ w'.cell? ⟨y, 5, none⟩ = some (.int .i64 cab) ∧ w'.cell? ⟨y, 6, none⟩ = some (.int .i64 cat) ∧ w'.cell? ⟨y, 7, none⟩ = some (.int .i64 frm) ∧ w'.cell? ⟨y, 8, none⟩ = some (.int .i64 upto) ∧ w'.cell? ⟨y, 9, none⟩ = some (.int .i64 til) ∧ w'.cell? ⟨y, 10, none⟩ = some (.slice A3 n3 c3))) (by kernel_rfl) (HSS.out _ hbx) (fun hHeld => ?_)
      refine wpAnyH_take (i := 0) (v := ?v21) (gA rfl) (by kernel_rfl) (by kernel_rfl) (by kernel_rfl) (fun _ _ _ h => h) (Or.inl ⟨rfl, ?y21⟩) (by assumption) ?_
      case y21 => (intro w hSw; (try dsimp only at hSw); go_simp <;> with_reducible rfl)
      simp only [Act.put, List.setIfInBounds_toArray, List.set_cons_zero, List.set_cons_succ]
      refine wpAnyH_take (i := 2) (v := ?v22) (gA rfl) (by kernel_rfl) (by kernel_rfl) (by kernel_rfl) (fun _ _ _ h => h) (Or.inl ⟨rfl, ?y22⟩) (by assumption) ?_
      case y22 => (intro w hSw; (try dsimp only at hSw); go_simp <;> with_reducible rfl)
      simp only [Act.put, List.setIfInBounds_toArray, List.set_cons_zero, List.set_cons_succ]
      refine wpAnyH_ready (rs := [1, 3]) (by kernel_rfl) (by simp) ?_
      refine AllReadyH.cons (gA rfl) (fun K hK => ?_) ?m_1
      case m_1 =>
        refine AllReadyH.cons (gA rfl) (fun K hK => ?_) AllReadyH.nil
        go_simp
        (go_at_call 203; refine (HBO.out _ hbx).mono ?_; rintro e w6 ⟨v6, xs6, rfl, hO6, hb6⟩; obtain ⟨A5, n5, c5, rfl, _⟩ := hO6.sl entryC_good; replace hbx := hbx.trans (hb6.mono hbx.size); have l2 := cellB hbx l1)
        go_wp2_with fail
        refine hK.out _ _ ?_ (fun hHeld => ?_)
        · exact HSS.out _ hbx
        clear hK K
        try simp only [Act.put, List.setIfInBounds_toArray, List.set_cons_zero, List.set_cons_succ]
        refine wpAnyH_ready (rs := [1, 4]) (by kernel_rfl) (by simp) ?_
        refine AllReadyH.cons (gA rfl) (fun K hK => ?_) ?m_3
        case m_3 =>
          refine AllReadyH.cons (gA rfl) (fun K hK => ?_) AllReadyH.nil
          go_simp
          refine hK.out _ _ ?_ (fun hHeld => ?_)
          · exact HSS.out _ (hbx.alloc hbx.size (.cells #[.int .i64 id, .int .i64 kind, .int .i64 state, .int .i64 gst, .bool lev, .int .i64 cab, .int .i64 cat, .int .i64 frm, .int .i64 upto, .int .i64 til, .slice A5 n5 c5] 37))
          clear hK K
          try simp only [Act.put, List.setIfInBounds_toArray, List.set_cons_zero, List.set_cons_succ]
          (have hs6 := hbx.size; replace hbx := hbx.alloc hbx.size (.cells #[.int .i64 id, .int .i64 kind, .int .i64 state, .int .i64 gst, .bool lev, .int .i64 cab, .int .i64 cat, .int .i64 frm, .int .i64 upto, .int .i64 til, .slice A5 n5 c5] 37); have l3 := cellB hbx l1)
          refine wpAnyH_ready (rs := [1]) (by kernel_rfl) (by simp) ?_
          refine AllReadyH.cons (gA rfl) (fun K hK => ?_) AllReadyH.nil
          go_simp
          refine hK.out _ _ ?_ (fun hHeld => ?_)
          · exact HSS.out _ hbx
          clear hK K
          try simp only [Act.put, List.setIfInBounds_toArray, List.set_cons_zero, List.set_cons_succ]
          refine wpAnyH_ready (rs := [5]) (by kernel_rfl) (by simp) (AllReadyH.cons (gA rfl) (fun K hK => ?_) AllReadyH.nil)
          (have hOq := HO1.out.bel hbx; have hSq := bkg_lit (b := ⟨id, kind, state, gst, lev, cab, cat, frm, upto, til, fol⟩) HO1.out hws5 hs6 hO6 HII.out; have hsq := Nat.le_trans hws5 hbx.size; refine step_app (t := 30) (e := 37) (bytes := 104) (base := W3.heap.size) (c := bkgO) (l := x.bks.take k) (xs := xs1) (l2 := [⟨id, kind, state, gst, lev, cab, cat, frm, upto, til, fol⟩]) (S := Beside W3.heap.size (.slice C1 nb1 cb1)) rfl (.tmp 24) (.tmp 27) rfl bok_elem bkgO_good rfl rfl hOq hSq (fun _ _ h => h) hby1 (by omega) hsq ?_; intro v' w7 xs' hown' hg' hat'; obtain ⟨A8, n8, c8, rfl, _⟩ := hown'.sl bkgO_good; have hY7 := (HY5.out.bel hbx).grown hg' hy1; have hQ7 := (HQ5.out.bel hbx).grown hg' hq1; have m2 : w7.cell? ⟨q, 11, none⟩ = some (.slice C1 nb1 cb1) := hQ7.cell rfl; have mf : w7.frozen? ⟨q, 11, none⟩ = false := hQ7.free 11)
          refine hK.out _ _ ?_ (fun hHeld => ?_)
          · exact ⟨hY7.cell rfl, hY7.cell rfl, hY7.cell rfl, hY7.cell rfl, hY7.cell rfl, hY7.cell rfl, hY7.cell rfl, hY7.cell rfl, hY7.cell rfl, hY7.cell rfl, hY7.cell rfl⟩
          clear hK K
          try simp only [Act.put, List.setIfInBounds_toArray, List.set_cons_zero, List.set_cons_succ]
          refine wpAnyH_take (i := 6) (v := ?v24) (gA rfl) (by kernel_rfl) (by kernel_rfl) (by kernel_rfl) (fun _ _ _ h => h) (Or.inl ⟨rfl, ?y24⟩) (by assumption) ?_
          case y24 => (intro w hSw; (try dsimp only at hSw); go_simp <;> with_reducible rfl)
          simp only [Act.put, List.setIfInBounds_toArray, List.set_cons_zero, List.set_cons_succ]
          have hY8 := hY7.other (p := ⟨q, 11, none⟩) (fun e => hyq e.symm) (.slice A8 n8 c8)
          refine wpAnyH_ready (rs := [7]) (by kernel_rfl) (by simp) (AllReadyH.cons (gA rfl) (fun K hK => ?_) AllReadyH.nil)
          go_simp
          refine hK.out _ _ ?_ (fun hHeld => ?_)
          · exact ⟨hY8.cell rfl, hY8.cell rfl, hY8.cell rfl, hY8.cell rfl, hY8.cell rfl, hY8.cell rfl, hY8.cell rfl, hY8.cell rfl, hY8.cell rfl, hY8.cell rfl, hY8.cell rfl⟩
          clear hK K
          try simp only [Act.put, List.setIfInBounds_toArray, List.set_cons_zero, List.set_cons_succ]
          have hKq : Kept (fun k => k = q) w7 (w7.setCell ⟨q, 11, none⟩ (.slice A8 n8 c8)) := (Kept.refl (fun k => k = q) w7).setCell (p := ⟨q, 11, none⟩) (.inl rfl) _
          have p1 := hown'.kept bkgO_good hKq (fun k hk => by omega)
          have p6 := hQ7.set (j := 11) (.slice A8 n8 c8)
          have hKg : Kept (fun k => W3.heap.size ≤ k) (w6.alloc (.cells #[.int .i64 id, .int .i64 kind, .int .i64 state, .int .i64 gst, .bool lev, .int .i64 cab, .int .i64 cat, .int .i64 frm, .int .i64 upto, .int .i64 til, .slice A5 n5 c5] 37)) w7 := ⟨hg'.os, hg'.tape, hg'.output, hg'.size, fun j hj hn => hg'.block j hj (fun e => hn (hOq.lt j e.symm).1)⟩
          have p2 : Kept (fun k => k = q ∨ W3.heap.size ≤ k) W3 (w7.setCell ⟨q, 11, none⟩ (.slice A8 n8 c8)) := ((HK5.out.trans (Kept.of_below hbx (fun j hj h2 => .inr (by omega)))).trans (hKg.mono fun j _ hj => .inr hj)).trans (hKq.mono fun j _ hj => .inl hj)
          rw [← HTK.out] at p1
          clear hOq hSq hown' hY7 hQ7 m2 mf hKq hg' hat' hO6 hb6 hKg hY8
          refine wpAnyH_done (by kernel_rfl) ?_ _
          go_wp2_with fail
          go_roundg (nb - (k + 1))
          case measure => omega
          case rel => exact ⟨k + 1, A8, n8, c8, xs', by omega, by omega, by go_num, p6, p1, p2⟩
        go_simp
        refine hK.out _ _ ?_ (fun hHeld => ?_)
        · exact HSS.out _ hbx
        clear hK K
        try simp only [Act.put, List.setIfInBounds_toArray, List.set_cons_zero, List.set_cons_succ]
        refine wpAnyH_ready (rs := [4]) (by kernel_rfl) (by simp) ?_
        refine AllReadyH.cons (gA rfl) (fun K hK => ?_) AllReadyH.nil
        go_simp
        refine hK.out _ _ ?_ (fun hHeld => ?_)
        · exact HSS.out _ (hbx.alloc hbx.size (.cells #[.int .i64 id, .int .i64 kind, .int .i64 state, .int .i64 gst, .bool lev, .int .i64 cab, .int .i64 cat, .int .i64 frm, .int .i64 upto, .int .i64 til, .slice A5 n5 c5] 37))
        clear hK K
        try simp only [Act.put, List.setIfInBounds_toArray, List.set_cons_zero, List.set_cons_succ]
        (have hs6 := hbx.size; replace hbx := hbx.alloc hbx.size (.cells #[.int .i64 id, .int .i64 kind, .int .i64 state, .int .i64 gst, .bool lev, .int .i64 cab, .int .i64 cat, .int .i64 frm, .int .i64 upto, .int .i64 til, .slice A5 n5 c5] 37); have l3 := cellB hbx l1)
        refine wpAnyH_ready (rs := [5]) (by kernel_rfl) (by simp) (AllReadyH.cons (gA rfl) (fun K hK => ?_) AllReadyH.nil)
        (have hOq := HO1.out.bel hbx; have hSq := bkg_lit (b := ⟨id, kind, state, gst, lev, cab, cat, frm, upto, til, fol⟩) HO1.out hws5 hs6 hO6 HII.out; have hsq := Nat.le_trans hws5 hbx.size; refine step_app (t := 30) (e := 37) (bytes := 104) (base := W3.heap.size) (c := bkgO) (l := x.bks.take k) (xs := xs1) (l2 := [⟨id, kind, state, gst, lev, cab, cat, frm, upto, til, fol⟩]) (S := Beside W3.heap.size (.slice C1 nb1 cb1)) rfl (.tmp 24) (.tmp 27) rfl bok_elem bkgO_good rfl rfl hOq hSq (fun _ _ h => h) hby1 (by omega) hsq ?_; intro v' w7 xs' hown' hg' hat'; obtain ⟨A8, n8, c8, rfl, _⟩ := hown'.sl bkgO_good; have hY7 := (HY5.out.bel hbx).grown hg' hy1; have hQ7 := (HQ5.out.bel hbx).grown hg' hq1; have m2 : w7.cell? ⟨q, 11, none⟩ = some (.slice C1 nb1 cb1) := hQ7.cell rfl; have mf : w7.frozen? ⟨q, 11, none⟩ = false := hQ7.free 11)
        refine hK.out _ _ ?_ (fun hHeld => ?_)
        · exact ⟨hY7.cell rfl, hY7.cell rfl, hY7.cell rfl, hY7.cell rfl, hY7.cell rfl, hY7.cell rfl, hY7.cell rfl, hY7.cell rfl, hY7.cell rfl, hY7.cell rfl, hY7.cell rfl⟩
        clear hK K
        try simp only [Act.put, List.setIfInBounds_toArray, List.set_cons_zero, List.set_cons_succ]
        refine wpAnyH_take (i := 6) (v := ?v27) (gA rfl) (by kernel_rfl) (by kernel_rfl) (by kernel_rfl) (fun _ _ _ h => h) (Or.inl ⟨rfl, ?y27⟩) (by assumption) ?_
        case y27 => (intro w hSw; (try dsimp only at hSw); go_simp <;> with_reducible rfl)
        simp only [Act.put, List.setIfInBounds_toArray, List.set_cons_zero, List.set_cons_succ]
        have hY8 := hY7.other (p := ⟨q, 11, none⟩) (fun e => hyq e.symm) (.slice A8 n8 c8)
        refine wpAnyH_ready (rs := [7]) (by kernel_rfl) (by simp) (AllReadyH.cons (gA rfl) (fun K hK => ?_) AllReadyH.nil)
        go_simp
        refine hK.out _ _ ?_ (fun hHeld => ?_)
        · exact ⟨hY8.cell rfl, hY8.cell rfl, hY8.cell rfl, hY8.cell rfl, hY8.cell rfl, hY8.cell rfl, hY8.cell rfl, hY8.cell rfl, hY8.cell rfl, hY8.cell rfl, hY8.cell rfl⟩
        clear hK K
        try simp only [Act.put, List.setIfInBounds_toArray, List.set_cons_zero, List.set_cons_succ]
        have hKq : Kept (fun k => k = q) w7 (w7.setCell ⟨q, 11, none⟩ (.slice A8 n8 c8)) := (Kept.refl (fun k => k = q) w7).setCell (p := ⟨q, 11, none⟩) (.inl rfl) _
        have p1 := hown'.kept bkgO_good hKq (fun k hk => by omega)
        have p6 := hQ7.set (j := 11) (.slice A8 n8 c8)
        have hKg : Kept (fun k => W3.heap.size ≤ k) (w6.alloc (.cells #[.int .i64 id, .int .i64 kind, .int .i64 state, .int .i64 gst, .bool lev, .int .i64 cab, .int .i64 cat, .int .i64 frm, .int .i64 upto, .int .i64 til, .slice A5 n5 c5] 37)) w7 := ⟨hg'.os, hg'.tape, hg'.output, hg'.size, fun j hj hn => hg'.block j hj (fun e => hn (hOq.lt j e.symm).1)⟩
        have p2 : Kept (fun k => k = q ∨ W3.heap.size ≤ k) W3 (w7.setCell ⟨q, 11, none⟩ (.slice A8 n8 c8)) := ((HK5.out.trans (Kept.of_below hbx (fun j hj h2 => .inr (by omega)))).trans (hKg.mono fun j _ hj => .inr hj)).trans (hKq.mono fun j _ hj => .inl hj)
        rw [← HTK.out] at p1
        clear hOq hSq hown' hY7 hQ7 m2 mf hKq hg' hat' hO6 hb6 hKg hY8
        refine wpAnyH_done (by kernel_rfl) ?_ _
        go_wp2_with fail
        go_roundg (nb - (k + 1))
        case measure => omega
        case rel => exact ⟨k + 1, A8, n8, c8, xs', by omega, by omega, by go_num, p6, p1, p2⟩
      go_simp
      refine hK.out _ _ ?_ (fun hHeld => ?_)
      · exact HSS.out _ hbx
      clear hK K
      try simp only [Act.put, List.setIfInBounds_toArray, List.set_cons_zero, List.set_cons_succ]
      refine wpAnyH_ready (rs := [3]) (by kernel_rfl) (by simp) ?_
      refine AllReadyH.cons (gA rfl) (fun K hK => ?_) AllReadyH.nil
      go_simp
      (go_at_call 203; refine (HBO.out _ hbx).mono ?_; rintro e w6 ⟨v6, xs6, rfl, hO6, hb6⟩; obtain ⟨A5, n5, c5, rfl, _⟩ := hO6.sl entryC_good; replace hbx := hbx.trans (hb6.mono hbx.size); have l2 := cellB hbx l1)
      go_wp2_with fail
      refine hK.out _ _ ?_ (fun hHeld => ?_)
      · exact HSS.out _ hbx
      clear hK K
      try simp only [Act.put, List.setIfInBounds_toArray, List.set_cons_zero, List.set_cons_succ]
      refine wpAnyH_ready (rs := [4]) (by kernel_rfl) (by simp) ?_
      refine AllReadyH.cons (gA rfl) (fun K hK => ?_) AllReadyH.nil
      go_simp
      refine hK.out _ _ ?_ (fun hHeld => ?_)
      · exact HSS.out _ (hbx.alloc hbx.size (.cells #[.int .i64 id, .int .i64 kind, .int .i64 state, .int .i64 gst, .bool lev, .int .i64 cab, .int .i64 cat, .int .i64 frm, .int .i64 upto, .int .i64 til, .slice A5 n5 c5] 37))
      clear hK K
      try simp only [Act.put, List.setIfInBounds_toArray, List.set_cons_zero, List.set_cons_succ]
      (have hs6 := hbx.size; replace hbx := hbx.alloc hbx.size (.cells #[.int .i64 id, .int .i64 kind, .int .i64 state, .int .i64 gst, .bool lev, .int .i64 cab, .int .i64 cat, .int .i64 frm, .int .i64 upto, .int .i64 til, .slice A5 n5 c5] 37); have l3 := cellB hbx l1)
      refine wpAnyH_ready (rs := [5]) (by kernel_rfl) (by simp) (AllReadyH.cons (gA rfl) (fun K hK => ?_) AllReadyH.nil)
      (have hOq := HO1.out.bel hbx; have hSq := bkg_lit (b := ⟨id, kind, state, gst, lev, cab, cat, frm, upto, til, fol⟩) HO1.out hws5 hs6 hO6 HII.out; have hsq := Nat.le_trans hws5 hbx.size; refine step_app (t := 30) (e := 37) (bytes := 104) (base := W3.heap.size) (c := bkgO) (l := x.bks.take k) (xs := xs1) (l2 := [⟨id, kind, state, gst, lev, cab, cat, frm, upto, til, fol⟩]) (S := Beside W3.heap.size (.slice C1 nb1 cb1)) rfl (.tmp 24) (.tmp 27) rfl bok_elem bkgO_good rfl rfl hOq hSq (fun _ _ h => h) hby1 (by omega) hsq ?_; intro v' w7 xs' hown' hg' hat'; obtain ⟨A8, n8, c8, rfl, _⟩ := hown'.sl bkgO_good; have hY7 := (HY5.out.bel hbx).grown hg' hy1; have hQ7 := (HQ5.out.bel hbx).grown hg' hq1; have m2 : w7.cell? ⟨q, 11, none⟩ = some (.slice C1 nb1 cb1) := hQ7.cell rfl; have mf : w7.frozen? ⟨q, 11, none⟩ = false := hQ7.free 11)
      refine hK.out _ _ ?_ (fun hHeld => ?_)
      · exact ⟨hY7.cell rfl, hY7.cell rfl, hY7.cell rfl, hY7.cell rfl, hY7.cell rfl, hY7.cell rfl, hY7.cell rfl, hY7.cell rfl, hY7.cell rfl, hY7.cell rfl, hY7.cell rfl⟩
      clear hK K
      try simp only [Act.put, List.setIfInBounds_toArray, List.set_cons_zero, List.set_cons_succ]
      refine wpAnyH_take (i := 6) (v := ?v30) (gA rfl) (by kernel_rfl) (by kernel_rfl) (by kernel_rfl) (fun _ _ _ h => h) (Or.inl ⟨rfl, ?y30⟩) (by assumption) ?_
      case y30 => (intro w hSw; (try dsimp only at hSw); go_simp <;> with_reducible rfl)
      simp only [Act.put, List.setIfInBounds_toArray, List.set_cons_zero, List.set_cons_succ]
      have hY8 := hY7.other (p := ⟨q, 11, none⟩) (fun e => hyq e.symm) (.slice A8 n8 c8)
      refine wpAnyH_ready (rs := [7]) (by kernel_rfl) (by simp) (AllReadyH.cons (gA rfl) (fun K hK => ?_) AllReadyH.nil)
      go_simp
      refine hK.out _ _ ?_ (fun hHeld => ?_)
      · exact ⟨hY8.cell rfl, hY8.cell rfl, hY8.cell rfl, hY8.cell rfl, hY8.cell rfl, hY8.cell rfl, hY8.cell rfl, hY8.cell rfl, hY8.cell rfl, hY8.cell rfl, hY8.cell rfl⟩
      clear hK K
      try simp only [Act.put, List.setIfInBounds_toArray, List.set_cons_zero, List.set_cons_succ]
      have hKq : Kept (fun k => k = q) w7 (w7.setCell ⟨q, 11, none⟩ (.slice A8 n8 c8)) := (Kept.refl (fun k => k = q) w7).setCell (p := ⟨q, 11, none⟩) (.inl rfl) _
      have p1 := hown'.kept bkgO_good hKq (fun k hk => by omega)
      have p6 := hQ7.set (j := 11) (.slice A8 n8 c8)
      have hKg : Kept (fun k => W3.heap.size ≤ k) (w6.alloc (.cells #[.int .i64 id, .int .i64 kind, .int .i64 state, .int .i64 gst, .bool lev, .int .i64 cab, .int .i64 cat, .int .i64 frm, .int .i64 upto, .int .i64 til, .slice A5 n5 c5] 37)) w7 := ⟨hg'.os, hg'.tape, hg'.output, hg'.size, fun j hj hn => hg'.block j hj (fun e => hn (hOq.lt j e.symm).1)⟩
      have p2 : Kept (fun k => k = q ∨ W3.heap.size ≤ k) W3 (w7.setCell ⟨q, 11, none⟩ (.slice A8 n8 c8)) := ((HK5.out.trans (Kept.of_below hbx (fun j hj h2 => .inr (by omega)))).trans (hKg.mono fun j _ hj => .inr hj)).trans (hKq.mono fun j _ hj => .inl hj)
      rw [← HTK.out] at p1
      clear hOq hSq hown' hY7 hQ7 m2 mf hKq hg' hat' hO6 hb6 hKg hY8
      refine wpAnyH_done (by kernel_rfl) ?_ _
      go_wp2_with fail
      go_roundg (nb - (k + 1))
      case measure => omega
      case rel => exact ⟨k + 1, A8, n8, c8, xs', by omega, by omega, by go_num, p6, p1, p2⟩
    · obtain rfl : k = nb := by omega
      rw [List.take_of_length_le (Nat.le_of_eq HLN.out)] at hO1
      have hzn : z < W3.heap.size := by omega
      have hzq : z ≠ q := by omega
      have hqn : q < W3.heap.size := by omega
      have hZ := HZ3.out.kept hK (by omega)
      have HQ5 := Lib.hid hQ
      clear hQ
      have HO1 := Lib.hid hO1
      clear hO1
      have HK5 := Lib.hid hK
      clear hK
      have HZ5 := Lib.hid hZ
      clear hZ
      have HB5 := Lib.hid hb
      clear hb
      go_wp2_with (first | (refine wpList_load_row rfl 32 (.tmp 3) rfl q rfl 32 _ (0, 0) _ HQ5.out Tryz.underlying32 rfl (by kernel_rfl) ?_) | (refine wpList_store_row rfl 32 (.tmp 2) (.tmp 31) rfl z (saiA x ⟨A1, n1, c1, B1, m1, d1, D1, nd1, cd1, E1, ne1, ce1, C1, nb1, cb1⟩) rfl rfl 32 _ HZ5.out (by kernel_rfl) rfl (by simp [Value.oneCell']) ?_))
      refine bodyPost_ret (v := .agg (saiA x ⟨A1, n1, c1, B1, m1, d1, D1, nd1, cd1, E1, ne1, ce1, C1, nb1, cb1⟩)) ((HZ5.out.row _).ret (k := 2) (by kernel_rfl) rfl Tryz.underlying32 (by kernel_rfl) (by kernel_rfl)) rfl ?_
      have hKz : Kept (fun k => k = z) wr (wr.setRow z (saiA x ⟨A1, n1, c1, B1, m1, d1, D1, nd1, cd1, E1, ne1, ce1, C1, nb1, cb1⟩)) := (Kept.refl (fun k => k = z) wr).setRow (.inl rfl) _
      refine ⟨⟨A1, n1, c1, B1, m1, d1, D1, nd1, cd1, E1, ne1, ce1, C1, nb1, cb1⟩, rfl, ⟨W3, W2.heap.size, Nat.le_trans hsz1 hsz, hsz3, Nat.le_trans hws hKz.size, fun j hj hl => ?_, ?_, xs1, HO1.out.kept bkgO_good hKz (fun j hj => by omega)⟩, HB5.out.trans (hKz.below HB5.out.size (fun k hk => by omega))⟩
      · exact (hKz.block j (Nat.lt_of_lt_of_le hl hws) (by omega)).trans (HK5.out.block j hl (by omega))
      · have := HFX.out
        exact ⟨this.cats, this.cabs, this.leg, this.bands, this.a, this.t, this.d⟩
end Go.Proofs.YtoilcdgpeilgaaaGreat
