/-
  Words, laws and contracts: StockR, StockW, StockX, StockU.
-/
import Derived.Test.YtoilcdgpeilgaaaGreatBun21
import Derived.BigQuiet
set_option linter.unusedSimpArgs false
set_option linter.unusedVariables false
namespace Go.Proofs.YtoilcdgpeilgaaaGreat
open Go.RowKit Go.Shelf
def avC {α : Type} (G : Nat → Prop) (c : Cod α) : Cod α := fun w S x cs => c w (fun k => S k ∧ ¬ G k) x cs
section
variable {α : Type} {c : Cod α} {size : Nat} {e : TypeId} {w w' : World} {base : Nat} {v : Value} {l : List α} {xs : List Value} {G : Nat → Prop}
theorem avC_good (hg : Good c) : Good (avC G c) := ⟨fun h hk => hg.keep h fun b hS hlt => ⟨(hk b hS.1 hlt).1, (hk b hS.1 hlt).2, hS.2⟩, fun h => hg.one h⟩
instance avK [k : CodK c size] : CodK (avC G c) size := ⟨avC_good k.good, k.pos⟩
theorem Own.avoid (h : Own c size e w base v l xs) (hg : Good c) (hG : ∀ k, k < w.heap.size → ¬ G k) : Own (avC G c) size e w base v l xs :=
  ⟨h.row, fun i x hx => by
    obtain ⟨cs, hc, r⟩ := h.el i x hx
    exact ⟨cs, hg.keep hc fun b hS hlt => ⟨rfl, hS, hG b hlt⟩, r⟩⟩
theorem Own.unav (h : Own (avC G c) size e w base v l xs) (hg : Good c) : Own c size e w base v l xs :=
  ⟨h.row, fun i x hx => by
    obtain ⟨cs, hc, r⟩ := h.el i x hx
    exact ⟨cs, hg.keep hc fun b hS hlt => ⟨rfl, hS.1⟩, r⟩⟩
theorem Own.keptX {S : Nat → Prop} (h : Own (avC G c) size e w base v l xs) (hg : Good c) (hk : Kept S w w') (hS : ∀ k, S k → G k) (hv : ∀ k, v.ownBlock = some k → ¬ S k) : Own (avC G c) size e w' base v l xs := by
  refine ⟨⟨h.row.1, ?_⟩, fun i x hx => ?_⟩
  · rcases h.row.2 with h0 | ⟨g, cap, cur, hv', hb, hgg, r⟩
    · exact .inl h0
    · exact .inr ⟨g, cap, cur, hv', hb, (hk.block g (Array.getElem?_eq_some_iff.1 hgg).1 (hv g (by rw [hv']; rfl))).trans hgg, r⟩
  · obtain ⟨cs, hc, r⟩ := h.el i x hx
    exact ⟨cs, hg.keep hc fun b hS' hlt => ⟨hk.block b hlt (fun hb => hS'.2 (hS b hb)), hS'⟩, r⟩
end
theorem Own.neTy {α : Type} {c : Cod α} {size : Nat} {e t : TypeId} {w : World} {base : Nat} {v : Value} {l : List α} {xs : List Value} {k : Nat} {cs : Array Value} (h : Own c size e w base v l xs) (hB : Blk w k cs t) (hte : t ≠ e) : v.ownBlock ≠ some k := by
  intro hv
  rcases h.row.2 with ⟨rfl, _⟩ | ⟨g, cap, cur, rfl, _, hgg, _⟩
  · simp [Value.ownBlock] at hv
  · obtain rfl : g = k := by simpa [Value.ownBlock] using hv
    have hB' : w.heap[g]? = some (.cells cs t (0, 0)) := hB
    rw [hgg] at hB'
    simp only [Option.some.injEq, Obj.cells.injEq] at hB'
    exact hte hB'.2.1.symm
theorem Kept.thn {S T : Nat → Prop} {a b c : World} (h : Kept S a b) (k : Kept T b c) (hT : ∀ i, i < a.heap.size → T i → S i) : Kept S a c :=
  ⟨k.os.trans h.os, k.tape.trans h.tape, k.output.trans h.output, Nat.le_trans h.size k.size, fun i hi hS => (k.block i (Nat.lt_of_lt_of_le hi h.size) (fun ht => hS (hT i hi ht))).trans (h.block i hi hS)⟩
def insS (l : List Bkg) (b : Bkg) : List Bkg := l.take (posI l b.id) ++ b :: l.drop (posI l b.id)
def withS (x : Sai) (b : Bkg) : Sai := { x with bks := insS x.bks b }
set_option maxRecDepth 100000 in
set_option maxHeartbeats 16000000 in
theorem stockWithW_any (w0 : World) (b0 : Nat) (x : Sai) (p : SaiV) (b : Bkg) (A3 : Option Addr) (n3 c3 : Nat) (base : Nat) (w : World) (ho : SaiW w0 b0 w base x p) (hbs : base ≤ w.heap.size) (hr : Rise x.bks) (hid : ∀ b ∈ x.bks, 1 ≤ b.id ∧ b.id ≤ 999999) (h16 : x.bks.length ≤ 16)
    (hf : Sl entryC 3 w All A3 n3 c3 b.fol) (hn3 : n3 ≤ 1000000000) (hI : BkIn b) (hb1 : 1 ≤ b.id ∧ b.id ≤ 999999) :
    Calls Tryz.prog 165 #[.agg (saiA x p), .agg (bkgA b (.slice A3 n3 c3))] w fun e w' => ∃ p', e = .returned (.agg (saiA (withS x b) p')) ∧ SaiW w0 b0 w' base (withS x b) p' ∧ Below base w w' ∧ Kept (fun k => (Value.slice p.C p.nb p.cb).ownBlock = some k) w w' := by
  obtain ⟨A, n, cap, B, m, cap2, D, nd, cd, E, ne, ce, C, nb, cb⟩ := p
  obtain ⟨id, kind, state, gst, lev, cab, cat, frm, upto, til, fol⟩ := b
  simp only at hf hb1
  obtain ⟨k1, k2, k3, k4, k5, xs0, k6⟩ := ho
  simp only at k6
  obtain ⟨base', hbase'⟩ : ∃ q, q = w0.heap.size := ⟨_, rfl⟩
  rw [← hbase'] at k2 k3 k4 k6
  have HPL := Lib.hid (fun W hl => Place_any x ⟨A, n, cap, B, m, cap2, D, nd, cd, E, ne, ce, C, nb, cb⟩ id W hl hr hid h16 (.of (by omega) (by omega)))
  have hsm : SmallN id := ⟨by omega, by omega⟩
  obtain ⟨w00, hw00⟩ : ∃ V, V = w := ⟨_, rfl⟩
  have HF := Lib.hid hf
  clear hf
  have HK4 := Lib.hid k4
  clear k4
  have HK5 := Lib.hid k5
  clear k5
  have HBASE := Lib.hid hbase'
  clear hbase'
  have HLL := Lib.hid h16
  have HII := Lib.hid hI
  have HRR := Lib.hid (show posI x.bks id ≤ x.bks.length from List.findIdx_le_length)
  clear hr hid hI hw00 w00
  go_enter Tryz.func165, Tryz.ntmps165
  go_upto_region 0 with (fail)
  go_cut [2, 3, 4] (fun p p2 p3 wx => ∃ g h z, p = .pointer (some ⟨g, 0, none⟩) ∧ p2 = .pointer (some ⟨h, 0, none⟩) ∧ p3 = .pointer (some ⟨z, 0, none⟩) ∧ w.heap.size ≤ g ∧ w.heap.size ≤ h ∧ w.heap.size ≤ z ∧ g ≠ h ∧ g ≠ z ∧ h ≠ z ∧ Blk wx g (saiA x ⟨A, n, cap, B, m, cap2, D, nd, cd, E, ne, ce, C, nb, cb⟩) 32 ∧ Blk wx h (bkgA ⟨id, kind, state, gst, lev, cab, cat, frm, upto, til, fol⟩ (.slice A3 n3 c3)) 37 ∧ Blk wx z #[.int .i64 0, .int .i64 0, .slice none 0 0, .slice none 0 0, .slice none 0 0, .int .i64 0, .int .i64 0, .slice none 0 0, .int .i64 0, .int .i64 0, .int .i64 0, .slice none 0 0, .bool false] 32 ∧ Below w.heap.size w wx)
  case first => as_aux_lemma =>
    go_wp2_with fail
    go_meet
    exact ⟨_, _, _, rfl, rfl, rfl, Nat.le_refl _, by omega, by omega, by omega, by omega, by omega, blk3_0 _ _ _ _, blk3_1 _ _ _ _, blk3_2 _ _ _ _, bel3 _ _ _ _⟩
  obtain ⟨g, h, z, rfl, rfl, rfl, hg, hh, hz, hgh, hgz, hhz, hG, hH, hZ, hb⟩ := hcut
  have hown := (k6.avoid bkgO_good (G := (fun k => k = g ∨ k = h ∨ k = z)) (fun k hk => by omega)).bel hb
  have hl0 := hown.lt
  have HOL := Lib.hid (fun k (hk : (Value.slice C nb cb).ownBlock = some k) => (show k < w.heap.size from (k6.lt k hk).2))
  have HOL2 := Lib.hid (fun k (hk : (Value.slice C nb cb).ownBlock = some k) => (show base' ≤ k from (k6.lt k hk).1))
  have HSL := Lib.hid (show Sl bkgC 11 wc All C nb cb x.bks from (hown.unav bkgO_good).slAll bkgO_good bkgC_good (by omega) (fun h => bkgO_bkgC h) rfl)
  have s0 : wc.cell? ⟨g, 0, none⟩ = some (.int .i64 x.ship.legs) := hG.cell rfl
  have s1 : wc.cell? ⟨g, 1, none⟩ = some (.int .i64 x.ship.souls) := hG.cell rfl
  have s2 : wc.cell? ⟨g, 2, none⟩ = some (.slice A n cap) := hG.cell rfl
  have s3 : wc.cell? ⟨g, 3, none⟩ = some (.slice B m cap2) := hG.cell rfl
  have s4 : wc.cell? ⟨g, 4, none⟩ = some (.slice D nd cd) := hG.cell rfl
  have s5 : wc.cell? ⟨g, 5, none⟩ = some (.int .i64 x.fares.alone) := hG.cell rfl
  have s6 : wc.cell? ⟨g, 6, none⟩ = some (.int .i64 x.fares.third) := hG.cell rfl
  have s7 : wc.cell? ⟨g, 7, none⟩ = some (.slice E ne ce) := hG.cell rfl
  have s8 : wc.cell? ⟨g, 8, none⟩ = some (.int .i64 x.fares.down) := hG.cell rfl
  have s9 : wc.cell? ⟨g, 9, none⟩ = some (.int .i64 x.day) := hG.cell rfl
  have s10 : wc.cell? ⟨g, 10, none⟩ = some (.int .i64 x.leaves) := hG.cell rfl
  have s11 : wc.cell? ⟨g, 11, none⟩ = some (.slice C nb cb) := hG.cell rfl
  have s12 : wc.cell? ⟨g, 12, none⟩ = some (.bool x.closed) := hG.cell rfl
  have z0 : wc.cell? ⟨h, 0, none⟩ = some (.int .i64 id) := hH.cell rfl
  have HCALL := Lib.hid (HPL.out wc HSL.out)
  have HG := Lib.hid hG
  clear hG
  have HH := Lib.hid hH
  clear hH
  have HZ := Lib.hid hZ
  clear hZ
  have HO := Lib.hid hown
  clear hown
  have hwcs := hb.size
  have HB := Lib.hid hb
  clear hl0 k6 hb
  go_wp2_with fail
  refine HCALL.out.mono ?_
  rintro e w2 ⟨i, rfl, hi, hp, hb2⟩
  obtain rfl : i = posI x.bks id := hp hsm
  obtain ⟨i, hie⟩ : ∃ i, i = posI x.bks id := ⟨_, rfl⟩
  rw [← hie] at hi ⊢
  have HIE := Lib.hid hie
  clear hie
  have HILE := Lib.hid hi
  clear hi
  have hG := HG.out.bel hb2
  have hH := HH.out.bel hb2
  have hZ := HZ.out.bel hb2
  have hO := HO.out.bel hb2
  have hbw := HB.out.trans (hb2.mono HB.out.size)
  clear s0 s1 s2 s3 s4 s5 s6 s7 s8 s9 s10 s11 s12 z0 HCALL hp HG HH HZ HO HB hb2 hwcs HPL HSL hsm
  obtain ⟨W2, hW2⟩ : ∃ V, V = w2 := ⟨_, rfl⟩
  subst hW2
  have hsz2 := hbw.size
  have HSS := Lib.hid (show ∀ X, Blk X h (bkgA ⟨id, kind, state, gst, lev, cab, cat, frm, upto, til, fol⟩ (.slice A3 n3 c3)) 37 → (fun w' => w'.cell? ⟨h, 0, none⟩ = some (.int .i64 id) ∧ w'.cell? ⟨h, 1, none⟩ = some (.int .i64 kind) ∧ w'.cell? ⟨h, 2, none⟩ = some (.int .i64 state) ∧ w'.cell? ⟨h, 3, none⟩ = some (.int .i64 gst) ∧ w'.cell? ⟨h, 4, none⟩ = some (.bool lev) ∧ w'.cell? ⟨h, 5, none⟩ = some (.int .i64 cab) ∧ w'.cell? ⟨h, 6, none⟩ = some (.int .i64 cat) ∧ w'.cell? ⟨h, 7, none⟩ = some (.int .i64 frm) ∧ w'.cell? ⟨h, 8, none⟩ = some (.int .i64 upto) ∧ w'.cell? ⟨h, 9, none⟩ = some (.int .i64 til) ∧ w'.cell? ⟨h, 10, none⟩ = some (.slice A3 n3 c3)) X from fun X hX => ⟨hX.cell rfl, hX.cell rfl, hX.cell rfl, hX.cell rfl, hX.cell rfl, hX.cell rfl, hX.cell rfl, hX.cell rfl, hX.cell rfl, hX.cell rfl, hX.cell rfl⟩)
  have HBO := Lib.hid (fun X (hX : Below W2.heap.size W2 X) => bookOwn_any ⟨id, kind, state, gst, lev, cab, cat, frm, upto, til, fol⟩ A3 n3 c3 X (HF.out.bel (hbw.trans (hX.mono hbw.size))) hn3)
  have l1 : W2.cell? ⟨g, 11, none⟩ = some (.slice C nb cb) := hG.cell rfl
  have hlt2 : base' ≤ W2.heap.size := by omega
  have HG2 := Lib.hid hG
  clear hG
  have HH2 := Lib.hid hH
  clear hH
  have HZ2 := Lib.hid hZ
  clear hZ
  have HO2 := Lib.hid hO
  clear hO
  have HBW := Lib.hid hbw
  clear hbw
  go_upto_region 2 with (fail)
  go_cut [2] (fun q wx => q = .pointer (some ⟨g, 0, none⟩) ∧ ∃ C1 nb1 cb1 xs1, Blk wx g (saiA (withS x ⟨id, kind, state, gst, lev, cab, cat, frm, upto, til, fol⟩) ⟨A, n, cap, B, m, cap2, D, nd, cd, E, ne, ce, C1, nb1, cb1⟩) 32 ∧ Own (avC (fun k => k = g ∨ k = h ∨ k = z) bkgO) 11 37 wx base' (.slice C1 nb1 cb1) (insS x.bks ⟨id, kind, state, gst, lev, cab, cat, frm, upto, til, fol⟩) xs1 ∧ Blk wx z #[.int .i64 0, .int .i64 0, .slice none 0 0, .slice none 0 0, .slice none 0 0, .int .i64 0, .int .i64 0, .slice none 0 0, .int .i64 0, .int .i64 0, .int .i64 0, .slice none 0 0, .bool false] 32 ∧ Kept (fun k => (Value.slice C nb cb).ownBlock = some k) w wx)
  case first =>
    have hbx : Below W2.heap.size W2 W2.drew := (Below.refl _ W2).drew
    refine wp_region_held_drew (S := (fun w' => w'.cell? ⟨h, 0, none⟩ = some (.int .i64 id) ∧ w'.cell? ⟨h, 1, none⟩ = some (.int .i64 kind) ∧ w'.cell? ⟨h, 2, none⟩ = some (.int .i64 state) ∧ w'.cell? ⟨h, 3, none⟩ = some (.int .i64 gst) ∧ w'.cell? ⟨h, 4, none⟩ = some (.bool lev) ∧ w'.cell? ⟨h, 5, none⟩ = some (.int .i64 cab) ∧ w'.cell? ⟨h, 6, none⟩ = some (.int .i64 cat) ∧ w'.cell? ⟨h, 7, none⟩ = some (.int .i64 frm) ∧ w'.cell? ⟨h, 8, none⟩ = some (.int .i64 upto) ∧ w'.cell? ⟨h, 9, none⟩ = some (.int .i64 til) ∧ w'.cell? ⟨h, 10, none⟩ = some (.slice A3 n3 c3))) (by kernel_rfl) (HSS.out _ (HH2.out.bel hbx)) (fun hHeld => ?_)
    refine wpAnyH_take (i := 0) (v := ?v9) (gA rfl) (by kernel_rfl) (by kernel_rfl) (by kernel_rfl) (fun _ _ _ h => h) (Or.inl ⟨rfl, ?y9⟩) (by assumption) ?_
    case y9 => (intro w hSw; (try dsimp only at hSw); go_simp <;> with_reducible rfl)
    simp only [Act.put, List.setIfInBounds_toArray, List.set_cons_zero, List.set_cons_succ]
    refine wpAnyH_take (i := 2) (v := ?v10) (gA rfl) (by kernel_rfl) (by kernel_rfl) (by kernel_rfl) (fun _ _ _ h => h) (Or.inl ⟨rfl, ?y10⟩) (by assumption) ?_
    case y10 => (intro w hSw; (try dsimp only at hSw); go_simp <;> with_reducible rfl)
    simp only [Act.put, List.setIfInBounds_toArray, List.set_cons_zero, List.set_cons_succ]
    refine wpAnyH_take (i := 3) (v := ?v11) (gA rfl) (by kernel_rfl) (by kernel_rfl) (by kernel_rfl) (fun _ _ _ h => h) (Or.inl ⟨rfl, ?y11⟩) (by assumption) ?_
    case y11 => (intro w hSw; (try dsimp only at hSw); go_simp <;> with_reducible rfl)
    simp only [Act.put, List.setIfInBounds_toArray, List.set_cons_zero, List.set_cons_succ]
    refine wpAnyH_ready (rs := [1, 4]) (by kernel_rfl) (by simp) ?_
    refine AllReadyH.cons (gA rfl) (fun K hK => ?_) ?m_1
    case m_1 =>
      refine AllReadyH.cons (gA rfl) (fun K hK => ?_) AllReadyH.nil
      go_simp
      (go_at_call 203; refine (HBO.out _ hbx).mono ?_; rintro e w6 ⟨v6, xs6, rfl, hO6, hb6⟩; obtain ⟨A5, n5, c5, rfl, _⟩ := hO6.sl entryC_good; replace hbx := hbx.trans (hb6.mono hbx.size); have l2 := cellB hbx l1)
      go_wp2_with fail
      refine hK.out _ _ ?_ (fun hHeld => ?_)
      · exact HSS.out _ (HH2.out.bel hbx)
      clear hK K
      try simp only [Act.put, List.setIfInBounds_toArray, List.set_cons_zero, List.set_cons_succ]
      refine wpAnyH_ready (rs := [1, 5]) (by kernel_rfl) (by simp) ?_
      refine AllReadyH.cons (gA rfl) (fun K hK => ?_) ?m_3
      case m_3 =>
        refine AllReadyH.cons (gA rfl) (fun K hK => ?_) AllReadyH.nil
        go_simp
        refine hK.out _ _ ?_ (fun hHeld => ?_)
        · exact HSS.out _ (HH2.out.bel (hbx.alloc hbx.size (.cells #[.int .i64 id, .int .i64 kind, .int .i64 state, .int .i64 gst, .bool lev, .int .i64 cab, .int .i64 cat, .int .i64 frm, .int .i64 upto, .int .i64 til, .slice A5 n5 c5] 37)))
        clear hK K
        try simp only [Act.put, List.setIfInBounds_toArray, List.set_cons_zero, List.set_cons_succ]
        (have hs6 := hbx.size; replace hbx := hbx.alloc hbx.size (.cells #[.int .i64 id, .int .i64 kind, .int .i64 state, .int .i64 gst, .bool lev, .int .i64 cab, .int .i64 cat, .int .i64 frm, .int .i64 upto, .int .i64 til, .slice A5 n5 c5] 37); have l3 := cellB hbx l1)
        refine wpAnyH_ready (rs := [1]) (by kernel_rfl) (by simp) ?_
        refine AllReadyH.cons (gA rfl) (fun K hK => ?_) AllReadyH.nil
        go_simp
        refine hK.out _ _ ?_ (fun hHeld => ?_)
        · exact HSS.out _ (HH2.out.bel hbx)
        clear hK K
        try simp only [Act.put, List.setIfInBounds_toArray, List.set_cons_zero, List.set_cons_succ]
        have hOq := HO2.out.bel hbx
        have hnv' : ∀ k, w.heap.size ≤ k → ¬ ((Value.slice C nb cb).ownBlock = some k) := fun k hk e => by have := HOL.out k e; omega
        have hnv : ∀ k, W2.heap.size ≤ k → some k ≠ (Value.slice C nb cb).ownBlock := fun k hk e => by have := HOL.out k e.symm; omega
        have hgl2 := HG2.out.lt
        have hhl2 := HH2.out.lt
        have hzl2 := HZ2.out.lt
        have hbc : avC (fun k => k = g ∨ k = h ∨ k = z) bkgO (w6.alloc (.cells #[.int .i64 id, .int .i64 kind, .int .i64 state, .int .i64 gst, .bool lev, .int .i64 cab, .int .i64 cat, .int .i64 frm, .int .i64 upto, .int .i64 til, .slice A5 n5 c5] 37)) (Beside base' (.slice C nb cb)) ⟨id, kind, state, gst, lev, cab, cat, frm, upto, til, fol⟩ (bkgA ⟨id, kind, state, gst, lev, cab, cat, frm, upto, til, fol⟩ (.slice A5 n5 c5)).toList := ⟨_, rfl, ⟨xs6, (hO6.bel (bel1 w6 _)).mono entryC_good (Nat.zero_le _), fun k hk => by
          have h1 := (hO6.lt k hk).1
          have h2 : W2.heap.size ≤ k := h1
          exact ⟨⟨by omega, hnv k h2⟩, by omega⟩⟩, HII.out⟩
        have hVq : Blk (w6.alloc (.cells #[.int .i64 id, .int .i64 kind, .int .i64 state, .int .i64 gst, .bool lev, .int .i64 cab, .int .i64 cat, .int .i64 frm, .int .i64 upto, .int .i64 til, .slice A5 n5 c5] 37)) w6.heap.size (bkgA ⟨id, kind, state, gst, lev, cab, cat, frm, upto, til, fol⟩ (.slice A5 n5 c5)).toList.toArray 37 := Blk.new w6 _ _
        have hINS := Lib.hid (Insert_bkg (avC_good bkgO_good) hOq HILE.out (by have := HLL.out; omega) (by have := hbx.size; omega) hVq rfl hbc ⟨by omega, hnv _ hs6⟩)
        clear hOq hbc hVq
        refine wpAnyH_ready (rs := [6]) (by kernel_rfl) (by simp) (AllReadyH.cons (gA rfl) (fun K hK => ?_) AllReadyH.nil)
        go_simp
        (go_at_call 230; refine hINS.out.mono ?_; rintro e w7 ⟨C1, nb1, cb1, xs1, rfl, hO7, hK7⟩; have hH7 := (HH2.out.bel hbx).kept hK7 (hnv' h hh); have hG7 := (HG2.out.bel hbx).kept hK7 (hnv' g hg); have hZ7 := (HZ2.out.bel hbx).kept hK7 (hnv' z hz); have m2 : w7.cell? ⟨g, 11, none⟩ = some (.slice C nb cb) := hG7.cell rfl; have mf := hG7.free 11)
        go_wp2_with fail
        refine hK.out _ _ ?_ (fun hHeld => ?_)
        · exact HSS.out _ hH7
        clear hK K
        try simp only [Act.put, List.setIfInBounds_toArray, List.set_cons_zero, List.set_cons_succ]
        refine wpAnyH_take (i := 7) (v := ?v13) (gA rfl) (by kernel_rfl) (by kernel_rfl) (by kernel_rfl) (fun _ _ _ h => h) (Or.inl ⟨rfl, ?y13⟩) (by assumption) ?_
        case y13 => (intro w hSw; (try dsimp only at hSw); go_simp <;> with_reducible rfl)
        simp only [Act.put, List.setIfInBounds_toArray, List.set_cons_zero, List.set_cons_succ]
        refine wpAnyH_ready (rs := [8]) (by kernel_rfl) (by simp) (AllReadyH.cons (gA rfl) (fun K hK => ?_) AllReadyH.nil)
        go_simp
        refine hK.out _ _ ?_ (fun hHeld => ?_)
        · exact HSS.out _ (hH7.other (p := ⟨g, 11, none⟩) hgh _)
        clear hK K
        try simp only [Act.put, List.setIfInBounds_toArray, List.set_cons_zero, List.set_cons_succ]
        have hKg : Kept (fun k => k = g) w7 (w7.setCell ⟨g, 11, none⟩ (.slice C1 nb1 cb1)) := (Kept.refl (fun k => k = g) w7).setCell (p := ⟨g, 11, none⟩) (.inl rfl) _
        have hvg := hO7.neTy hG7 (by decide)
        have p2 := hG7.set (j := 11) (.slice C1 nb1 cb1)
        have p3 := hZ7.kept hKg (fun e => hgz e.symm)
        have p1 : Own (avC (fun k => k = g ∨ k = h ∨ k = z) bkgO) 11 37 (w7.setCell ⟨g, 11, none⟩ (.slice C1 nb1 cb1)) base' (.slice C1 nb1 cb1) (x.bks.take i ++ ⟨id, kind, state, gst, lev, cab, cat, frm, upto, til, fol⟩ :: x.bks.drop i) xs1 := hO7.keptX bkgO_good hKg (fun k hk => .inl hk) (fun k hk e => hvg (by rw [hk, e]))
        have p4 : Kept (fun k => (Value.slice C nb cb).ownBlock = some k) w (w7.setCell ⟨g, 11, none⟩ (.slice C1 nb1 cb1)) := ((Kept.of_below (HBW.out.trans (hbx.mono HBW.out.size)) (fun k hk h2 => by omega)).thn hK7 (fun k _ hk => hk)).thn hKg (fun k hk hk2 => by omega)
        clear hO7 hK7 hH7 hG7 hZ7 m2 mf hKg hvg
        refine wpAnyH_done (by kernel_rfl) ?_ _
        go_wp2_with fail
        go_meet
        exact ⟨rfl, C1, nb1, cb1, xs1, p2, by rw [HIE.out] at p1; exact p1, p3, p4⟩
      go_simp
      refine hK.out _ _ ?_ (fun hHeld => ?_)
      · exact HSS.out _ (HH2.out.bel hbx)
      clear hK K
      try simp only [Act.put, List.setIfInBounds_toArray, List.set_cons_zero, List.set_cons_succ]
      refine wpAnyH_ready (rs := [5]) (by kernel_rfl) (by simp) ?_
      refine AllReadyH.cons (gA rfl) (fun K hK => ?_) AllReadyH.nil
      go_simp
      refine hK.out _ _ ?_ (fun hHeld => ?_)
      · exact HSS.out _ (HH2.out.bel (hbx.alloc hbx.size (.cells #[.int .i64 id, .int .i64 kind, .int .i64 state, .int .i64 gst, .bool lev, .int .i64 cab, .int .i64 cat, .int .i64 frm, .int .i64 upto, .int .i64 til, .slice A5 n5 c5] 37)))
      clear hK K
      try simp only [Act.put, List.setIfInBounds_toArray, List.set_cons_zero, List.set_cons_succ]
      (have hs6 := hbx.size; replace hbx := hbx.alloc hbx.size (.cells #[.int .i64 id, .int .i64 kind, .int .i64 state, .int .i64 gst, .bool lev, .int .i64 cab, .int .i64 cat, .int .i64 frm, .int .i64 upto, .int .i64 til, .slice A5 n5 c5] 37); have l3 := cellB hbx l1)
      have hOq := HO2.out.bel hbx
      have hnv' : ∀ k, w.heap.size ≤ k → ¬ ((Value.slice C nb cb).ownBlock = some k) := fun k hk e => by have := HOL.out k e; omega
      have hnv : ∀ k, W2.heap.size ≤ k → some k ≠ (Value.slice C nb cb).ownBlock := fun k hk e => by have := HOL.out k e.symm; omega
      have hgl2 := HG2.out.lt
      have hhl2 := HH2.out.lt
      have hzl2 := HZ2.out.lt
      have hbc : avC (fun k => k = g ∨ k = h ∨ k = z) bkgO (w6.alloc (.cells #[.int .i64 id, .int .i64 kind, .int .i64 state, .int .i64 gst, .bool lev, .int .i64 cab, .int .i64 cat, .int .i64 frm, .int .i64 upto, .int .i64 til, .slice A5 n5 c5] 37)) (Beside base' (.slice C nb cb)) ⟨id, kind, state, gst, lev, cab, cat, frm, upto, til, fol⟩ (bkgA ⟨id, kind, state, gst, lev, cab, cat, frm, upto, til, fol⟩ (.slice A5 n5 c5)).toList := ⟨_, rfl, ⟨xs6, (hO6.bel (bel1 w6 _)).mono entryC_good (Nat.zero_le _), fun k hk => by
        have h1 := (hO6.lt k hk).1
        have h2 : W2.heap.size ≤ k := h1
        exact ⟨⟨by omega, hnv k h2⟩, by omega⟩⟩, HII.out⟩
      have hVq : Blk (w6.alloc (.cells #[.int .i64 id, .int .i64 kind, .int .i64 state, .int .i64 gst, .bool lev, .int .i64 cab, .int .i64 cat, .int .i64 frm, .int .i64 upto, .int .i64 til, .slice A5 n5 c5] 37)) w6.heap.size (bkgA ⟨id, kind, state, gst, lev, cab, cat, frm, upto, til, fol⟩ (.slice A5 n5 c5)).toList.toArray 37 := Blk.new w6 _ _
      have hINS := Lib.hid (Insert_bkg (avC_good bkgO_good) hOq HILE.out (by have := HLL.out; omega) (by have := hbx.size; omega) hVq rfl hbc ⟨by omega, hnv _ hs6⟩)
      clear hOq hbc hVq
      refine wpAnyH_ready (rs := [6]) (by kernel_rfl) (by simp) (AllReadyH.cons (gA rfl) (fun K hK => ?_) AllReadyH.nil)
      go_simp
      (go_at_call 230; refine hINS.out.mono ?_; rintro e w7 ⟨C1, nb1, cb1, xs1, rfl, hO7, hK7⟩; have hH7 := (HH2.out.bel hbx).kept hK7 (hnv' h hh); have hG7 := (HG2.out.bel hbx).kept hK7 (hnv' g hg); have hZ7 := (HZ2.out.bel hbx).kept hK7 (hnv' z hz); have m2 : w7.cell? ⟨g, 11, none⟩ = some (.slice C nb cb) := hG7.cell rfl; have mf := hG7.free 11)
      go_wp2_with fail
      refine hK.out _ _ ?_ (fun hHeld => ?_)
      · exact HSS.out _ hH7
      clear hK K
      try simp only [Act.put, List.setIfInBounds_toArray, List.set_cons_zero, List.set_cons_succ]
      refine wpAnyH_take (i := 7) (v := ?v16) (gA rfl) (by kernel_rfl) (by kernel_rfl) (by kernel_rfl) (fun _ _ _ h => h) (Or.inl ⟨rfl, ?y16⟩) (by assumption) ?_
      case y16 => (intro w hSw; (try dsimp only at hSw); go_simp <;> with_reducible rfl)
      simp only [Act.put, List.setIfInBounds_toArray, List.set_cons_zero, List.set_cons_succ]
      refine wpAnyH_ready (rs := [8]) (by kernel_rfl) (by simp) (AllReadyH.cons (gA rfl) (fun K hK => ?_) AllReadyH.nil)
      go_simp
      refine hK.out _ _ ?_ (fun hHeld => ?_)
      · exact HSS.out _ (hH7.other (p := ⟨g, 11, none⟩) hgh _)
      clear hK K
      try simp only [Act.put, List.setIfInBounds_toArray, List.set_cons_zero, List.set_cons_succ]
      have hKg : Kept (fun k => k = g) w7 (w7.setCell ⟨g, 11, none⟩ (.slice C1 nb1 cb1)) := (Kept.refl (fun k => k = g) w7).setCell (p := ⟨g, 11, none⟩) (.inl rfl) _
      have hvg := hO7.neTy hG7 (by decide)
      have p2 := hG7.set (j := 11) (.slice C1 nb1 cb1)
      have p3 := hZ7.kept hKg (fun e => hgz e.symm)
      have p1 : Own (avC (fun k => k = g ∨ k = h ∨ k = z) bkgO) 11 37 (w7.setCell ⟨g, 11, none⟩ (.slice C1 nb1 cb1)) base' (.slice C1 nb1 cb1) (x.bks.take i ++ ⟨id, kind, state, gst, lev, cab, cat, frm, upto, til, fol⟩ :: x.bks.drop i) xs1 := hO7.keptX bkgO_good hKg (fun k hk => .inl hk) (fun k hk e => hvg (by rw [hk, e]))
      have p4 : Kept (fun k => (Value.slice C nb cb).ownBlock = some k) w (w7.setCell ⟨g, 11, none⟩ (.slice C1 nb1 cb1)) := ((Kept.of_below (HBW.out.trans (hbx.mono HBW.out.size)) (fun k hk h2 => by omega)).thn hK7 (fun k _ hk => hk)).thn hKg (fun k hk hk2 => by omega)
      clear hO7 hK7 hH7 hG7 hZ7 m2 mf hKg hvg
      refine wpAnyH_done (by kernel_rfl) ?_ _
      go_wp2_with fail
      go_meet
      exact ⟨rfl, C1, nb1, cb1, xs1, p2, by rw [HIE.out] at p1; exact p1, p3, p4⟩
    go_simp
    refine hK.out _ _ ?_ (fun hHeld => ?_)
    · exact HSS.out _ (HH2.out.bel hbx)
    clear hK K
    try simp only [Act.put, List.setIfInBounds_toArray, List.set_cons_zero, List.set_cons_succ]
    refine wpAnyH_ready (rs := [4]) (by kernel_rfl) (by simp) ?_
    refine AllReadyH.cons (gA rfl) (fun K hK => ?_) AllReadyH.nil
    go_simp
    (go_at_call 203; refine (HBO.out _ hbx).mono ?_; rintro e w6 ⟨v6, xs6, rfl, hO6, hb6⟩; obtain ⟨A5, n5, c5, rfl, _⟩ := hO6.sl entryC_good; replace hbx := hbx.trans (hb6.mono hbx.size); have l2 := cellB hbx l1)
    go_wp2_with fail
    refine hK.out _ _ ?_ (fun hHeld => ?_)
    · exact HSS.out _ (HH2.out.bel hbx)
    clear hK K
    try simp only [Act.put, List.setIfInBounds_toArray, List.set_cons_zero, List.set_cons_succ]
    refine wpAnyH_ready (rs := [5]) (by kernel_rfl) (by simp) ?_
    refine AllReadyH.cons (gA rfl) (fun K hK => ?_) AllReadyH.nil
    go_simp
    refine hK.out _ _ ?_ (fun hHeld => ?_)
    · exact HSS.out _ (HH2.out.bel (hbx.alloc hbx.size (.cells #[.int .i64 id, .int .i64 kind, .int .i64 state, .int .i64 gst, .bool lev, .int .i64 cab, .int .i64 cat, .int .i64 frm, .int .i64 upto, .int .i64 til, .slice A5 n5 c5] 37)))
    clear hK K
    try simp only [Act.put, List.setIfInBounds_toArray, List.set_cons_zero, List.set_cons_succ]
    (have hs6 := hbx.size; replace hbx := hbx.alloc hbx.size (.cells #[.int .i64 id, .int .i64 kind, .int .i64 state, .int .i64 gst, .bool lev, .int .i64 cab, .int .i64 cat, .int .i64 frm, .int .i64 upto, .int .i64 til, .slice A5 n5 c5] 37); have l3 := cellB hbx l1)
    have hOq := HO2.out.bel hbx
    have hnv' : ∀ k, w.heap.size ≤ k → ¬ ((Value.slice C nb cb).ownBlock = some k) := fun k hk e => by have := HOL.out k e; omega
    have hnv : ∀ k, W2.heap.size ≤ k → some k ≠ (Value.slice C nb cb).ownBlock := fun k hk e => by have := HOL.out k e.symm; omega
    have hgl2 := HG2.out.lt
    have hhl2 := HH2.out.lt
    have hzl2 := HZ2.out.lt
    have hbc : avC (fun k => k = g ∨ k = h ∨ k = z) bkgO (w6.alloc (.cells #[.int .i64 id, .int .i64 kind, .int .i64 state, .int .i64 gst, .bool lev, .int .i64 cab, .int .i64 cat, .int .i64 frm, .int .i64 upto, .int .i64 til, .slice A5 n5 c5] 37)) (Beside base' (.slice C nb cb)) ⟨id, kind, state, gst, lev, cab, cat, frm, upto, til, fol⟩ (bkgA ⟨id, kind, state, gst, lev, cab, cat, frm, upto, til, fol⟩ (.slice A5 n5 c5)).toList := ⟨_, rfl, ⟨xs6, (hO6.bel (bel1 w6 _)).mono entryC_good (Nat.zero_le _), fun k hk => by
      have h1 := (hO6.lt k hk).1
      have h2 : W2.heap.size ≤ k := h1
      exact ⟨⟨by omega, hnv k h2⟩, by omega⟩⟩, HII.out⟩
    have hVq : Blk (w6.alloc (.cells #[.int .i64 id, .int .i64 kind, .int .i64 state, .int .i64 gst, .bool lev, .int .i64 cab, .int .i64 cat, .int .i64 frm, .int .i64 upto, .int .i64 til, .slice A5 n5 c5] 37)) w6.heap.size (bkgA ⟨id, kind, state, gst, lev, cab, cat, frm, upto, til, fol⟩ (.slice A5 n5 c5)).toList.toArray 37 := Blk.new w6 _ _
    have hINS := Lib.hid (Insert_bkg (avC_good bkgO_good) hOq HILE.out (by have := HLL.out; omega) (by have := hbx.size; omega) hVq rfl hbc ⟨by omega, hnv _ hs6⟩)
    clear hOq hbc hVq
    refine wpAnyH_ready (rs := [6]) (by kernel_rfl) (by simp) (AllReadyH.cons (gA rfl) (fun K hK => ?_) AllReadyH.nil)
    go_simp
    (go_at_call 230; refine hINS.out.mono ?_; rintro e w7 ⟨C1, nb1, cb1, xs1, rfl, hO7, hK7⟩; have hH7 := (HH2.out.bel hbx).kept hK7 (hnv' h hh); have hG7 := (HG2.out.bel hbx).kept hK7 (hnv' g hg); have hZ7 := (HZ2.out.bel hbx).kept hK7 (hnv' z hz); have m2 : w7.cell? ⟨g, 11, none⟩ = some (.slice C nb cb) := hG7.cell rfl; have mf := hG7.free 11)
    go_wp2_with fail
    refine hK.out _ _ ?_ (fun hHeld => ?_)
    · exact HSS.out _ hH7
    clear hK K
    try simp only [Act.put, List.setIfInBounds_toArray, List.set_cons_zero, List.set_cons_succ]
    refine wpAnyH_take (i := 7) (v := ?v19) (gA rfl) (by kernel_rfl) (by kernel_rfl) (by kernel_rfl) (fun _ _ _ h => h) (Or.inl ⟨rfl, ?y19⟩) (by assumption) ?_
    case y19 => (intro w hSw; (try dsimp only at hSw); go_simp <;> with_reducible rfl)
    simp only [Act.put, List.setIfInBounds_toArray, List.set_cons_zero, List.set_cons_succ]
    refine wpAnyH_ready (rs := [8]) (by kernel_rfl) (by simp) (AllReadyH.cons (gA rfl) (fun K hK => ?_) AllReadyH.nil)
    go_simp
    refine hK.out _ _ ?_ (fun hHeld => ?_)
    · exact HSS.out _ (hH7.other (p := ⟨g, 11, none⟩) hgh _)
    clear hK K
    try simp only [Act.put, List.setIfInBounds_toArray, List.set_cons_zero, List.set_cons_succ]
    have hKg : Kept (fun k => k = g) w7 (w7.setCell ⟨g, 11, none⟩ (.slice C1 nb1 cb1)) := (Kept.refl (fun k => k = g) w7).setCell (p := ⟨g, 11, none⟩) (.inl rfl) _
    have hvg := hO7.neTy hG7 (by decide)
    have p2 := hG7.set (j := 11) (.slice C1 nb1 cb1)
    have p3 := hZ7.kept hKg (fun e => hgz e.symm)
    have p1 : Own (avC (fun k => k = g ∨ k = h ∨ k = z) bkgO) 11 37 (w7.setCell ⟨g, 11, none⟩ (.slice C1 nb1 cb1)) base' (.slice C1 nb1 cb1) (x.bks.take i ++ ⟨id, kind, state, gst, lev, cab, cat, frm, upto, til, fol⟩ :: x.bks.drop i) xs1 := hO7.keptX bkgO_good hKg (fun k hk => .inl hk) (fun k hk e => hvg (by rw [hk, e]))
    have p4 : Kept (fun k => (Value.slice C nb cb).ownBlock = some k) w (w7.setCell ⟨g, 11, none⟩ (.slice C1 nb1 cb1)) := ((Kept.of_below (HBW.out.trans (hbx.mono HBW.out.size)) (fun k hk h2 => by omega)).thn hK7 (fun k _ hk => hk)).thn hKg (fun k hk hk2 => by omega)
    clear hO7 hK7 hH7 hG7 hZ7 m2 mf hKg hvg
    refine wpAnyH_done (by kernel_rfl) ?_ _
    go_wp2_with fail
    go_meet
    exact ⟨rfl, C1, nb1, cb1, xs1, p2, by rw [HIE.out] at p1; exact p1, p3, p4⟩
  obtain ⟨rfl, C1, nb1, cb1, xs1, hG9, hO9, hZ9, hK9⟩ := hcut
  have HG9 := Lib.hid hG9
  clear hG9
  have HZ9 := Lib.hid hZ9
  clear hZ9
  have HO9 := Lib.hid hO9
  clear hO9
  have HK9 := Lib.hid hK9
  clear hK9
  go_wp2_with (first | (refine wpList_load_row rfl 32 (.tmp 2) rfl g rfl 32 _ (0, 0) _ HG9.out Tryz.underlying32 rfl (by kernel_rfl) ?_) | (refine wpList_store_row rfl 32 (.tmp 4) (.tmp 22) rfl z (saiA (withS x ⟨id, kind, state, gst, lev, cab, cat, frm, upto, til, fol⟩) ⟨A, n, cap, B, m, cap2, D, nd, cd, E, ne, ce, C1, nb1, cb1⟩) rfl rfl 32 _ HZ9.out (by kernel_rfl) rfl (by simp [Value.oneCell']) ?_))
  refine bodyPost_ret (v := .agg (saiA (withS x ⟨id, kind, state, gst, lev, cab, cat, frm, upto, til, fol⟩) ⟨A, n, cap, B, m, cap2, D, nd, cd, E, ne, ce, C1, nb1, cb1⟩)) ((HZ9.out.row _).ret (k := 4) (by kernel_rfl) rfl Tryz.underlying32 (by kernel_rfl) (by kernel_rfl)) rfl ?_
  have hKz : Kept (fun k => k = z) wc (wc.setRow z (saiA (withS x ⟨id, kind, state, gst, lev, cab, cat, frm, upto, til, fol⟩) ⟨A, n, cap, B, m, cap2, D, nd, cd, E, ne, ce, C1, nb1, cb1⟩)) := (Kept.refl (fun k => k = z) wc).setRow (.inl rfl) _
  have hvz := HO9.out.neTy HZ9.out (by decide)
  have hOE : Own bkgO 11 37 (wc.setRow z (saiA (withS x ⟨id, kind, state, gst, lev, cab, cat, frm, upto, til, fol⟩) ⟨A, n, cap, B, m, cap2, D, nd, cd, E, ne, ce, C1, nb1, cb1⟩)) base' (.slice C1 nb1 cb1) (insS x.bks ⟨id, kind, state, gst, lev, cab, cat, frm, upto, til, fol⟩) xs1 := (HO9.out.keptX bkgO_good hKz (fun k hk => .inr (.inr hk)) (fun k hk e => hvz (by rw [hk, e]))).unav bkgO_good
  have hKO : Kept (fun k => (Value.slice C nb cb).ownBlock = some k) w (wc.setRow z (saiA (withS x ⟨id, kind, state, gst, lev, cab, cat, frm, upto, til, fol⟩) ⟨A, n, cap, B, m, cap2, D, nd, cd, E, ne, ce, C1, nb1, cb1⟩)) := HK9.out.thn hKz (fun k hk hk2 => by omega)
  have hKE : Kept (fun k => base' ≤ k) w (wc.setRow z (saiA (withS x ⟨id, kind, state, gst, lev, cab, cat, frm, upto, til, fol⟩) ⟨A, n, cap, B, m, cap2, D, nd, cd, E, ne, ce, C1, nb1, cb1⟩)) := hKO.mono fun k _ hk => HOL2.out k hk
  have hbase' := HBASE.out
  subst hbase'
  refine ⟨⟨A, n, cap, B, m, cap2, D, nd, cd, E, ne, ce, C1, nb1, cb1⟩, rfl, ⟨k1, k2, Nat.le_trans k3 hKE.size, fun j hj hl => ?_, ?_, xs1, hOE⟩, hKE.below hbs (fun k hk => by omega), hKO⟩
  · exact (hKE.block j (by omega) (by omega)).trans (HK4.out j hj hl)
  · exact ⟨HK5.out.cats, HK5.out.cabs, HK5.out.leg, HK5.out.bands, HK5.out.a, HK5.out.t, HK5.out.d⟩
end Go.Proofs.YtoilcdgpeilgaaaGreat
namespace Go.Proofs.YtoilcdgpeilgaaaGreat
open Go.RowKit Go.Shelf
theorem of_all {x : Sai} (h : bksE x = 0) : ∀ (i : Nat) (b : Bkg), x.bks[i]? = some b → ofE x.ship b = 0 := by
  unfold bksE at h
  by_cases h1 : 16 < x.bks.length
  · rw [if_pos h1] at h; omega
  rw [if_neg h1] at h
  by_cases h2 : firstE (bkE1 x) x.bks.length ≠ 0
  · rw [if_pos h2] at h; exact absurd h h2
  have h2 : firstE (bkE1 x) x.bks.length = 0 := Decidable.not_not.1 h2
  intro i b hb
  have h3 := firstE_zero h2 i (List.getElem?_eq_some_iff.1 hb).1
  rw [bkE1_at hb] at h3
  by_cases h4 : ofE x.ship b ≠ 0
  · rw [if_pos h4] at h3; exact absurd h3 h4
  · exact Decidable.not_not.1 h4
theorem bks_zero {x : Sai} (h : saiE x = 0) : shipE x.ship = 0 ∧ bksE x = 0 := by
  unfold saiE at h
  by_cases h1 : shipE x.ship ≠ 0
  · rw [if_pos h1] at h; exact absurd h h1
  rw [if_neg h1] at h
  by_cases h2 : fareE x.fares x.ship.cats.length x.ship.legs ≠ 0
  · rw [if_pos h2] at h; exact absurd h h2
  rw [if_neg h2] at h
  by_cases h3 : (betB x.day 0 9999 && betB x.leaves 0 9999) = false
  · rw [if_pos h3] at h; omega
  rw [if_neg h3] at h
  by_cases h4 : bksE x ≠ 0
  · rw [if_pos h4] at h; exact absurd h h4
  · exact ⟨Decidable.not_not.1 h1, Decidable.not_not.1 h4⟩
end Go.Proofs.YtoilcdgpeilgaaaGreat
namespace Go.Proofs.YtoilcdgpeilgaaaGreat
open Go.RowKit Go.Shelf
theorem rise_pw {l : List Bkg} : Rise l ↔ l.Pairwise (fun a b => a.id < b.id) := by
  constructor
  · intro h
    exact List.pairwise_iff_getElem.2 fun i j hi hj hij => h i j _ _ hij (List.getElem?_eq_getElem hi) (List.getElem?_eq_getElem hj)
  · intro h i j a b hij ha hb
    obtain ⟨hi, rfl⟩ := List.getElem?_eq_some_iff.1 ha
    obtain ⟨hj, rfl⟩ := List.getElem?_eq_some_iff.1 hb
    exact List.pairwise_iff_getElem.1 h i j hi hj hij
end Go.Proofs.YtoilcdgpeilgaaaGreat
namespace Go.Proofs.YtoilcdgpeilgaaaGreat
open Go.RowKit Go.Shelf
set_option maxRecDepth 100000 in
set_option maxHeartbeats 2000000 in
theorem vesselS_any (w : World) : Calls Tryz.prog 128 #[] w fun e w' => ∃ A n cap B m cap2, e = .returned (.agg #[.int .i64 vesselX.legs, .int .i64 vesselX.souls, .slice A n cap, .slice B m cap2]) ∧ Sl catC 2 w' (fun b => w.heap.size ≤ b) A n cap vesselX.cats ∧ Sl cabC 4 w' (fun b => w.heap.size ≤ b) B m cap2 vesselX.cabs ∧ Below w.heap.size w w' := by
  go_enter Tryz.func128, Tryz.ntmps128
  go_wp2_with fail
  refine bodyPost_ret (v := .agg #[.int .i64 3, .int .i64 6, .slice (some ⟨w.heap.size + 1 + 1 + 1, 0, none⟩) 3 3, .slice (some ⟨w.heap.size + 1 + 1 + 1 + 1, 0, none⟩) 3 3]) (by simp [results, Tryz.results128, go_sem]) rfl ?_
  refine ⟨_, _, _, _, _, _, rfl, ?_, ?_, ?_⟩
  · refine Sl.ofBlk (l := vesselX.cats) (((Blk.new3 w _ _ _ _ _).old _)) (by decide) (by first | (show _ ≤ _; omega) | (show _ ≤ _; simp; omega)) fun i x hx => ?_
    rcases i with _ | _ | _ | i
    · obtain rfl : (⟨[73, 78], [1]⟩ : Cat) = x := by simpa [vesselX] using hx
      exact ⟨[strV [73, 78], .slice (some ⟨w.heap.size + 1, 0, none⟩) 1 1], ⟨_, _, _, rfl, Sl.ofInts [1] ((((Blk.new1 w _ _ _).old _).old _).old _) (by decide) (by first | (show _ ≤ _; omega) | (show _ ≤ _; simp; omega)) (by decide), mlen (by decide)⟩, rfl, fun j u hu => by rcases j with _ | _ | j <;> simp_all⟩
    · obtain rfl : (⟨[79, 85, 84], [2]⟩ : Cat) = x := by simpa [vesselX] using hx
      exact ⟨[strV [79, 85, 84], .slice (some ⟨w.heap.size + 1 + 1, 0, none⟩) 1 1], ⟨_, _, _, rfl, Sl.ofInts [2] (((Blk.new2 w _ _ _ _).old _).old _) (by decide) (by first | (show _ ≤ _; omega) | (show _ ≤ _; simp; omega)) (by decide), mlen (by decide)⟩, rfl, fun j u hu => by rcases j with _ | _ | j <;> simp_all⟩
    · obtain rfl : (⟨[83, 85, 73, 84, 69], []⟩ : Cat) = x := by simpa [vesselX] using hx
      exact ⟨[strV [83, 85, 73, 84, 69], .slice none 0 0], ⟨_, _, _, rfl, Sl.nil _ _ _ _, mlen (by decide)⟩, rfl, fun j u hu => by rcases j with _ | _ | j <;> simp_all⟩
    · simp [vesselX] at hx
  · refine Sl.ofBlk (l := vesselX.cabs) (Blk.new4 w _ _ _ _ _ _) (by decide) (by first | (show _ ≤ _; omega) | (show _ ≤ _; simp; omega)) fun i x hx => ?_
    rcases i with _ | _ | _ | i
    · obtain rfl : (⟨[65, 49], 0, 2, false⟩ : Cab) = x := by simpa [vesselX] using hx
      exact ⟨[strV [65, 49], .int .i64 0, .int .i64 2, .bool false], ⟨rfl, mlen (by decide), .of (by decide) (by decide), .of (by decide) (by decide)⟩, rfl, fun j u hu => by rcases j with _ | _ | _ | _ | j <;> simp_all⟩
    · obtain rfl : (⟨[66, 49], 1, 4, true⟩ : Cab) = x := by simpa [vesselX] using hx
      exact ⟨[strV [66, 49], .int .i64 1, .int .i64 4, .bool true], ⟨rfl, mlen (by decide), .of (by decide) (by decide), .of (by decide) (by decide)⟩, rfl, fun j u hu => by rcases j with _ | _ | _ | _ | j <;> simp_all⟩
    · obtain rfl : (⟨[67, 49], 2, 2, false⟩ : Cab) = x := by simpa [vesselX] using hx
      exact ⟨[strV [67, 49], .int .i64 2, .int .i64 2, .bool false], ⟨rfl, mlen (by decide), .of (by decide) (by decide), .of (by decide) (by decide)⟩, rfl, fun j u hu => by rcases j with _ | _ | _ | _ | j <;> simp_all⟩
    · simp [vesselX] at hx
  · exact ((bel3 w _ _ _).alloc (by simp; omega) _).alloc (by simp; omega) _
set_option maxRecDepth 100000 in
set_option maxHeartbeats 2000000 in
theorem tableS_any (w : World) : Calls Tryz.prog 140 #[] w fun e w' => ∃ A n cap B m cap2, e = .returned (.agg #[.slice A n cap, .int .i64 50, .int .i64 33, .slice B m cap2, .int .i64 20]) ∧ Sl (slC intC 1) 1 w' (fun b => w.heap.size ≤ b) A n cap tableX.leg ∧ Sl bandC 2 w' (fun b => w.heap.size ≤ b) B m cap2 tableX.bands ∧ Below w.heap.size w w' := by
  go_enter Tryz.func140, Tryz.ntmps140
  go_wp2_with fail
  refine bodyPost_ret (v := .agg #[.slice (some ⟨w.heap.size + 1 + 1 + 1 + 1, 0, none⟩) 3 3, .int .i64 50, .int .i64 33, .slice (some ⟨w.heap.size + 1 + 1 + 1 + 1 + 1, 0, none⟩) 2 2, .int .i64 20]) (by simp [results, Tryz.results140, go_sem]) rfl ?_
  refine ⟨_, _, _, _, _, _, rfl, ?_, ?_, ?_⟩
  · refine Sl.ofBlk (l := tableX.leg) (((Blk.new4 w _ _ _ _ _ _).old _)) (by decide) (by first | (show _ ≤ _; omega) | (show _ ≤ _; simp; omega)) fun i x hx => ?_
    rcases i with _ | _ | _ | i
    · obtain rfl : [100, 200, 301] = x := by simpa [tableX] using hx
      exact ⟨[.slice (some ⟨w.heap.size + 1, 0, none⟩) 3 3], ⟨_, _, _, rfl, Sl.ofInts [100, 200, 301] (((((Blk.new1 w _ _ _).old _).old _).old _).old _) (by decide) (by first | (show _ ≤ _; omega) | (show _ ≤ _; simp; omega)) (by decide)⟩, rfl, fun j u hu => by rcases j with _ | j <;> simp_all⟩
    · obtain rfl : [150, 250, 350] = x := by simpa [tableX] using hx
      exact ⟨[.slice (some ⟨w.heap.size + 1 + 1, 0, none⟩) 3 3], ⟨_, _, _, rfl, Sl.ofInts [150, 250, 350] ((((Blk.new2 w _ _ _ _).old _).old _).old _) (by decide) (by first | (show _ ≤ _; omega) | (show _ ≤ _; simp; omega)) (by decide)⟩, rfl, fun j u hu => by rcases j with _ | j <;> simp_all⟩
    · obtain rfl : [500, 500, 500] = x := by simpa [tableX] using hx
      exact ⟨[.slice (some ⟨w.heap.size + 1 + 1 + 1, 0, none⟩) 3 3], ⟨_, _, _, rfl, Sl.ofInts [500, 500, 500] (((Blk.new3 w _ _ _ _ _).old _).old _) (by decide) (by first | (show _ ≤ _; omega) | (show _ ≤ _; simp; omega)) (by decide)⟩, rfl, fun j u hu => by rcases j with _ | j <;> simp_all⟩
    · simp [tableX] at hx
  · refine Sl.ofBlk (l := tableX.bands) (Blk.new5 w _ _ _ _ _ _ _) (by decide) (by first | (show _ ≤ _; omega) | (show _ ≤ _; simp; omega)) fun i x hx => ?_
    rcases i with _ | _ | i
    · simp [tableX] at hx; subst hx
      exact ⟨_, ⟨rfl, .of (by decide) (by decide), .of (by decide) (by decide)⟩, rfl, fun j u hu => by rcases j with _ | _ | j <;> simp_all⟩
    · simp [tableX] at hx; subst hx
      exact ⟨_, ⟨rfl, .of (by decide) (by decide), .of (by decide) (by decide)⟩, rfl, fun j u hu => by rcases j with _ | _ | j <;> simp_all⟩
    · simp [tableX] at hx
  · exact ((bel3 w _ _ _).alloc (by simp; omega) _ |>.alloc (by simp; omega) _).alloc (by simp; omega) _
theorem Blk.neTy {w : World} {a z : Nat} {xs ys : Array Value} {t u : TypeId} (h : Blk w a xs t) (h2 : Blk w z ys u) (hne : t ≠ u) : a ≠ z := fun e => by
  subst e
  have h : w.heap[a]? = some (.cells xs t (0, 0)) := h
  have h2 : w.heap[a]? = some (.cells ys u (0, 0)) := h2
  rw [h] at h2
  simp only [Option.some.injEq, Obj.cells.injEq] at h2
  exact hne h2.2.1
theorem keptRow {n : Nat} {a w : World} (_ : Below n a w) (z : Nat) (us : Array Value) : Kept (fun k => k = z) w (w.setRow z us) := (Kept.refl (fun k => k = z) w).setRow (.inl rfl) us
end Go.Proofs.YtoilcdgpeilgaaaGreat
