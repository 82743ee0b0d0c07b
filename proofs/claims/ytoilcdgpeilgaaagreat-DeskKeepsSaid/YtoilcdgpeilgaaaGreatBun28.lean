/-
  Words, laws and contracts: DeskE, DeskF, DeskG, DeskH.
-/
import Derived.Test.YtoilcdgpeilgaaaGreatBun26
import Derived.Test.YtoilcdgpeilgaaaGreatBun27
import Derived.BigQuiet
set_option linter.unusedSimpArgs false
set_option linter.unusedVariables false
namespace Go.Proofs.YtoilcdgpeilgaaaGreat
open Go.RowKit Go.Shelf
structure Mk where
  x : Sai → Ask → Sai
  e : Sai → Ask → Int
def MadeC (P : Sai → Ask → Prop) (mk : Mk) : Prop := ∀ (x : Sai) (p : SaiV) (a : Ask) (g : Nat) (w : World), SaiR w x p → Blk w g (saiA x p) 181 → P x a →
  Calls Tryz.prog 213 #[.pointer (some ⟨g, 0, none⟩), .agg (askA a)] w fun e w' => ResS w' w.heap.size (mk.e x a) (mk.x x a) e ∧ Below w.heap.size w w'
noncomputable def mkN : Mk := ⟨fun x a => sellX x (bookD x a), fun x a => sellE x (bookD x a) 1⟩
theorem bookD_fol (x : Sai) (a : Ask) : (bookD x a).fol = [] := by unfold bookD; split <;> rfl
theorem bookD_in {x : Sai} {a : Ask} (h : AskIn a) (hl : InI x.ship.legs) : BkIn (bookD x a) := by
  obtain ⟨-, -, h2, h3, h4, h5, h6, h7, h8, -⟩ := h
  have hs : InI (stD a) := by unfold stD; split <;> exact .of (by decide) (by decide)
  unfold bookD
  split
  · exact ⟨h2, show InI 2 from .of (by decide) (by decide), hs, h3, show InI (-1) from .of (by decide) (by decide), h5, show InI 0 from .of (by decide) (by decide), hl, h8⟩
  · exact ⟨h2, show InI 1 from .of (by decide) (by decide), hs, h3, h4, h5, h6, h7, h8⟩
set_option maxRecDepth 100000 in
set_option maxHeartbeats 4000000 in
theorem madeN_any : MadeC (fun x a => a.kind = 1 ∧ BkIn (bookD x a)) mkN := by
  intro x p a g w hS hG ⟨hk, hI⟩
  show Calls _ _ _ _ fun e w' => ResS w' w.heap.size (sellE x (bookD x a) 1) (sellX x (bookD x a)) e ∧ _
  have HNA := Lib.hid (fun X hX => Named_any x p (bookD x a) none 0 0 X hX (by rw [bookD_fol]; exact Sl.nil _ _ _ _) hI)
  have HBK := Lib.hid (fun X hX => booking_any x p a g X hX)
  obtain ⟨bo, hbo⟩ : ∃ b, b = bookD x a := ⟨_, rfl⟩
  rw [← hbo] at HNA HBK ⊢
  obtain ⟨R, hR⟩ : ∃ r, r = sellE x bo 1 := ⟨_, rfl⟩
  obtain ⟨Y, hY⟩ : ∃ r, r = sellX x bo := ⟨_, rfl⟩
  rw [← hR, ← hY] at HNA ⊢
  have HS := Lib.hid hS
  have HG := Lib.hid (fun X (hX : Below w.heap.size w X) => hG.bel hX)
  have hgl := hG.lt
  clear hbo hR hY hI hS hG
  obtain ⟨A, n, cap, B, m, cap2, D, nd, cd, E, ne, ce, C, nb, cb⟩ := p
  go_enter Tryz.func213, Tryz.ntmps213
  go_upto_region 0 with (fail)
  go_cut [3, 4, 5] (fun p p2 p3 wx => ∃ c z, p = .pointer (some ⟨c, 0, none⟩) ∧ p2 = .pointer (some ⟨z, 0, none⟩) ∧ p3 = .int .i64 0 ∧ w.heap.size ≤ z ∧ w.heap.size ≤ c ∧ c ≠ z ∧ AskAt wx c a ∧ Blk wx z #[.int .i64 0, .int .i64 0, .slice none 0 0, .slice none 0 0, .slice none 0 0, .int .i64 0, .int .i64 0, .slice none 0 0, .int .i64 0, .int .i64 0, .int .i64 0, .slice none 0 0, .bool false] 32 ∧ Below w.heap.size w wx)
  case first =>
    clear HNA HBK HG HS
    go_wp2_with fail
    go_meet
    exact ⟨_, _, rfl, rfl, rfl, by omega, by omega, by omega, blk2_0 _ _ _, blk2_1 _ _ _, bel2 _ _ _⟩
  obtain ⟨c, z, rfl, rfl, rfl, hz, hc0, hcz, hC, hZ, hb⟩ := hcut
  obtain ⟨W1, hW1⟩ : ∃ V, V = wc := ⟨_, rfl⟩
  subst hW1
  have hzl := hZ.lt
  have hgz : g ≠ z := by omega
  have HK := Lib.hid (show ∀ X, Kept (fun k => k = z) W1 X → (fun w' => w'.cell? ⟨g, 0, none⟩ = some (.int .i64 x.ship.legs) ∧ w'.cell? ⟨g, 1, none⟩ = some (.int .i64 x.ship.souls) ∧ w'.cell? ⟨g, 2, none⟩ = some (.slice A n cap) ∧ w'.cell? ⟨g, 3, none⟩ = some (.slice B m cap2) ∧ w'.cell? ⟨g, 4, none⟩ = some (.slice D nd cd) ∧ w'.cell? ⟨g, 5, none⟩ = some (.int .i64 x.fares.alone) ∧ w'.cell? ⟨g, 6, none⟩ = some (.int .i64 x.fares.third) ∧ w'.cell? ⟨g, 7, none⟩ = some (.slice E ne ce) ∧ w'.cell? ⟨g, 8, none⟩ = some (.int .i64 x.fares.down) ∧ w'.cell? ⟨g, 9, none⟩ = some (.int .i64 x.day) ∧ w'.cell? ⟨g, 10, none⟩ = some (.int .i64 x.leaves) ∧ w'.cell? ⟨g, 11, none⟩ = some (.slice C nb cb) ∧ w'.cell? ⟨g, 12, none⟩ = some (.bool x.closed) ∧ w'.cell? ⟨c, 0, none⟩ = some (.int .i64 a.number) ∧ w'.cell? ⟨c, 1, none⟩ = some (.int .i64 a.kind) ∧ w'.cell? ⟨c, 2, none⟩ = some (.int .i64 a.id) ∧ w'.cell? ⟨c, 3, none⟩ = some (.int .i64 a.guests) ∧ w'.cell? ⟨c, 4, none⟩ = some (.bool a.level) ∧ w'.cell? ⟨c, 5, none⟩ = some (.int .i64 a.cabin) ∧ w'.cell? ⟨c, 6, none⟩ = some (.int .i64 a.category) ∧ w'.cell? ⟨c, 7, none⟩ = some (.int .i64 a.frm) ∧ w'.cell? ⟨c, 8, none⟩ = some (.int .i64 a.upto) ∧ w'.cell? ⟨c, 9, none⟩ = some (.int .i64 a.til) ∧ w'.cell? ⟨c, 10, none⟩ = some (.int .i64 a.amount)) X from fun X hX => by
    have hg := (HG.out _ hb).kept hX hgz
    have hc : Blk X c (askA a) 93 := Blk.kept hC hX hcz
    exact ⟨hg.cell rfl, hg.cell rfl, hg.cell rfl, hg.cell rfl, hg.cell rfl, hg.cell rfl, hg.cell rfl, hg.cell rfl, hg.cell rfl, hg.cell rfl, hg.cell rfl, hg.cell rfl, hg.cell rfl, hc.cell rfl, hc.cell rfl, hc.cell rfl, hc.cell rfl, hc.cell rfl, hc.cell rfl, hc.cell rfl, hc.cell rfl, hc.cell rfl, hc.cell rfl, hc.cell rfl⟩)
  have c1 : W1.cell? ⟨c, 1, none⟩ = some (.int .i64 a.kind) := hC.all.2.1
  have q1 : (a.kind == 1) = true := by rw [hk]; rfl
  clear hk
  have HB := Lib.hid hb
  clear hb
  have HZ := Lib.hid hZ
  clear hZ
  have hnaL := HNA.out
  have hbkL := HBK.out
  simp only [saiA] at hnaL
  simp only [askA] at hbkL
  have HNL := Lib.hid hnaL
  have HBL := Lib.hid hbkL
  clear hnaL hbkL HNA HBK
  have HT := Lib.hid (fun X (hX : Below W1.heap.size W1 X) => HB.out.trans (hX.mono HB.out.size))
  clear hC
  go_upto_region 3 with (fail)
  clear c1 q1
  have hbx : Below W1.heap.size W1 W1.drew := (Below.refl _ W1).drew
  have hkx := fun X (hX : Below W1.heap.size W1 X) => Kept.of_below (S := fun k => k = z) hX (fun k hk h => by omega)
  refine wp_region_held_drew (S := (fun w' => w'.cell? ⟨g, 0, none⟩ = some (.int .i64 x.ship.legs) ∧ w'.cell? ⟨g, 1, none⟩ = some (.int .i64 x.ship.souls) ∧ w'.cell? ⟨g, 2, none⟩ = some (.slice A n cap) ∧ w'.cell? ⟨g, 3, none⟩ = some (.slice B m cap2) ∧ w'.cell? ⟨g, 4, none⟩ = some (.slice D nd cd) ∧ w'.cell? ⟨g, 5, none⟩ = some (.int .i64 x.fares.alone) ∧ w'.cell? ⟨g, 6, none⟩ = some (.int .i64 x.fares.third) ∧ w'.cell? ⟨g, 7, none⟩ = some (.slice E ne ce) ∧ w'.cell? ⟨g, 8, none⟩ = some (.int .i64 x.fares.down) ∧ w'.cell? ⟨g, 9, none⟩ = some (.int .i64 x.day) ∧ w'.cell? ⟨g, 10, none⟩ = some (.int .i64 x.leaves) ∧ w'.cell? ⟨g, 11, none⟩ = some (.slice C nb cb) ∧ w'.cell? ⟨g, 12, none⟩ = some (.bool x.closed) ∧ w'.cell? ⟨c, 0, none⟩ = some (.int .i64 a.number) ∧ w'.cell? ⟨c, 1, none⟩ = some (.int .i64 a.kind) ∧ w'.cell? ⟨c, 2, none⟩ = some (.int .i64 a.id) ∧ w'.cell? ⟨c, 3, none⟩ = some (.int .i64 a.guests) ∧ w'.cell? ⟨c, 4, none⟩ = some (.bool a.level) ∧ w'.cell? ⟨c, 5, none⟩ = some (.int .i64 a.cabin) ∧ w'.cell? ⟨c, 6, none⟩ = some (.int .i64 a.category) ∧ w'.cell? ⟨c, 7, none⟩ = some (.int .i64 a.frm) ∧ w'.cell? ⟨c, 8, none⟩ = some (.int .i64 a.upto) ∧ w'.cell? ⟨c, 9, none⟩ = some (.int .i64 a.til) ∧ w'.cell? ⟨c, 10, none⟩ = some (.int .i64 a.amount))) (by kernel_rfl) (HK.out _ (hkx _ hbx)) (fun hHeld => ?_)
  refine wpAnyH_take (i := 0) (v := ?v1) (gA rfl) (by kernel_rfl) (by kernel_rfl) (by kernel_rfl) (fun _ _ _ h => h) (Or.inl ⟨rfl, ?y1⟩) (by assumption) ?_
  case y1 => (intro w hSw; (try dsimp only at hSw); go_simp <;> with_reducible rfl)
  simp only [Act.put, List.setIfInBounds_toArray, List.set_cons_zero, List.set_cons_succ]
  refine wpAnyH_take (i := 1) (v := ?v2) (gA rfl) (by kernel_rfl) (by kernel_rfl) (by kernel_rfl) (fun _ _ _ h => h) (Or.inl ⟨rfl, ?y2⟩) (by assumption) ?_
  case y2 => (intro w hSw; (try dsimp only at hSw); go_simp <;> with_reducible rfl)
  simp only [Act.put, List.setIfInBounds_toArray, List.set_cons_zero, List.set_cons_succ]
  refine wpAnyH_take (i := 2) (v := ?v3) (gA rfl) (by kernel_rfl) (by kernel_rfl) (by kernel_rfl) (fun _ _ _ h => h) (Or.inl ⟨rfl, ?y3⟩) (by assumption) ?_
  case y3 => (intro w hSw; (try dsimp only at hSw); go_simp <;> with_reducible rfl)
  simp only [Act.put, List.setIfInBounds_toArray, List.set_cons_zero, List.set_cons_succ]
  refine wpAnyH_take (i := 3) (v := ?v4) (gA rfl) (by kernel_rfl) (by kernel_rfl) (by kernel_rfl) (fun _ _ _ h => h) (Or.inl ⟨rfl, ?y4⟩) (by assumption) ?_
  case y4 => (intro w hSw; (try dsimp only at hSw); go_simp <;> with_reducible rfl)
  simp only [Act.put, List.setIfInBounds_toArray, List.set_cons_zero, List.set_cons_succ]
  refine wpAnyH_take (i := 4) (v := ?v5) (gA rfl) (by kernel_rfl) (by kernel_rfl) (by kernel_rfl) (fun _ _ _ h => h) (Or.inl ⟨rfl, ?y5⟩) (by assumption) ?_
  case y5 => (intro w hSw; (try dsimp only at hSw); go_simp <;> with_reducible rfl)
  simp only [Act.put, List.setIfInBounds_toArray, List.set_cons_zero, List.set_cons_succ]
  refine wpAnyH_take (i := 5) (v := ?v6) (gA rfl) (by kernel_rfl) (by kernel_rfl) (by kernel_rfl) (fun _ _ _ h => h) (Or.inl ⟨rfl, ?y6⟩) (by assumption) ?_
  case y6 => (intro w hSw; (try dsimp only at hSw); go_simp <;> with_reducible rfl)
  simp only [Act.put, List.setIfInBounds_toArray, List.set_cons_zero, List.set_cons_succ]
  refine wpAnyH_ready (rs := [6]) (by kernel_rfl) (by simp) (AllReadyH.cons (gA rfl) (fun K hK => ?_) AllReadyH.nil)
  go_simp
  (go_at_call 249; refine (HBL.out _ (HG.out _ (HT.out _ hbx))).mono ?_; rintro e w6 ⟨rfl, hb6⟩; replace hbx := hbx.trans (hb6.mono hbx.size); clear hb6)
  go_wp2_with fail
  refine hK.out _ _ ?_ (fun hHeld => ?_)
  · exact HK.out _ (hkx _ hbx)
  clear hK K
  try simp only [Act.put, List.setIfInBounds_toArray, List.set_cons_zero, List.set_cons_succ]
  refine wpAnyH_ready (rs := [7]) (by kernel_rfl) (by simp) (AllReadyH.cons (gA rfl) (fun K hK => ?_) AllReadyH.nil)
  go_simp
  (go_at_call 21; refine (HNL.out _ (HS.out.bel (HT.out _ hbx))).mono ?_; rintro e w7 ⟨⟨y, p', rfl, hy, hO⟩, hb7⟩; have hs6 := hbx.size; replace hbx := hbx.trans (hb7.mono hbx.size); have HO := Lib.hid hO; have HY := Lib.hid hy; clear hb7 hO hy)
  go_wp2_with fail
  refine hK.out _ _ ?_ (fun hHeld => ?_)
  · exact HK.out _ (hkx _ hbx)
  clear hK K
  try simp only [Act.put, List.setIfInBounds_toArray, List.set_cons_zero, List.set_cons_succ]
  refine wpAnyH_take (i := 8) (v := ?v9) (gA rfl) (by kernel_rfl) (by kernel_rfl) (by kernel_rfl) (fun _ _ _ h => h) (Or.inl ⟨rfl, ?y9⟩) (by assumption) ?_
  case y9 => (intro w hSw; (try dsimp only at hSw); go_simp <;> with_reducible rfl)
  simp only [Act.put, List.setIfInBounds_toArray, List.set_cons_zero, List.set_cons_succ]
  refine wpAnyH_take (i := 9) (v := ?v10) (gA rfl) (by kernel_rfl) (by kernel_rfl) (by kernel_rfl) (fun _ _ _ h => h) (Or.inl ⟨rfl, ?y10⟩) (by assumption) ?_
  case y10 => (intro w hSw; (try dsimp only at hSw); go_simp <;> with_reducible rfl)
  simp only [Act.put, List.setIfInBounds_toArray, List.set_cons_zero, List.set_cons_succ]
  refine wpAnyH_ready (rs := [10]) (by kernel_rfl) (by simp) (AllReadyH.cons (gA rfl) (fun K hK => ?_) AllReadyH.nil)
  (refine wp_store_row 32 (.tmp 4) (.tmp 21) rfl _ (saiA y p') rfl rfl 32 _ (HZ.out.bel hbx) (by kernel_rfl) rfl (by simp [Value.oneCell']) ?_)
  refine hK.out _ _ ?_ (fun hHeld => ?_)
  · exact HK.out _ ((hkx _ hbx).setRow (.inl rfl) _)
  clear hK K
  try simp only [Act.put, List.setIfInBounds_toArray, List.set_cons_zero, List.set_cons_succ]
  refine wpAnyH_take (i := 11) (v := ?v12) (gA rfl) (by kernel_rfl) (by kernel_rfl) (by kernel_rfl) (fun _ _ _ h => h) (Or.inl ⟨rfl, ?y12⟩) (by assumption) ?_
  case y12 => (intro w hSw; (try dsimp only at hSw); go_simp <;> with_reducible rfl)
  simp only [Act.put, List.setIfInBounds_toArray, List.set_cons_zero, List.set_cons_succ]
  refine wpAnyH_done (by kernel_rfl) ?_ _
  have hZ7 := HZ.out.bel hbx
  have hKz : Kept (fun k => k = z) _ (World.setRow _ z (saiA y p')) := (Kept.refl (fun k => k = z) w7).setRow (.inl rfl) _
  have hb7 := HT.out _ hbx
  have HKZ := Lib.hid hKz
  clear hKz
  have HB7 := Lib.hid hb7
  clear hb7
  have hsz := HB.out.size
  clear HK hkx hbx HT HB HG HS HNL HBL
  go_wp2_with fail
  refine bodyPost_ret (v := .tuple #[.agg (saiA y p'), .int .i64 R]) ((hZ7.row _).ret2 (k := 4) (u := 5) (by kernel_rfl) rfl rfl Tryz.underlying32 (by kernel_rfl) (by kernel_rfl)) rfl ?_
  exact ⟨⟨y, p', rfl, HY.out, (HO.out.kept HKZ.out (fun k hk e => by omega)).mono (by omega)⟩, HB7.out.trans (HKZ.out.below (B := w.heap.size) HB7.out.size (fun k hk e => by omega))⟩
end Go.Proofs.YtoilcdgpeilgaaaGreat
namespace Go.Proofs.YtoilcdgpeilgaaaGreat
open Go.RowKit Go.Shelf
def doX (mk : Mk) (x : Sai) (a : Ask) : Sai := if mk.e x a = 0 then mk.x x a else x
def owA (X : Sai) (t : Int) : Int := if hasId X.bks t = true then dueOf (curB X t).fol else 0
def doA (mk : Mk) (x : Sai) (a : Ask) : Ans := if mk.e x a = 0 then ⟨0, owA (mk.x x a) a.id⟩ else ⟨mk.e x a, 0⟩
def RightC (P : Sai → Ask → Prop) (mk : Mk) : Prop := ∀ x a, P x a → mk.e x a = 0 → saiE (mk.x x a) = 0
set_option maxRecDepth 100000 in
set_option maxHeartbeats 4000000 in
theorem do_any {P : Sai → Ask → Prop} {mk : Mk} (HM : MadeC P mk) (HR : RightC P mk) (x : Sai) (p : SaiV) (a : Ask) (g base : Nat) (w : World) (hO : SaiO w base x p) (hbase : base ≤ w.heap.size) (hG : Blk w g (saiA x p) 181) (hP : P x a) (ha : InI a.id) :
    Calls Tryz.prog 138 #[.pointer (some ⟨g, 0, none⟩), .agg (askA a)] w fun e w' => e = .returned (.agg (ansA (doA mk x a))) ∧ (∃ p', SaiO w' base (doX mk x a) p' ∧ Blk w' g (saiA (doX mk x a) p') 181) ∧ Kept (fun k => k = g) w w' := by
  have HMA := Lib.hid (fun X h1 h2 => HM x p a g X h1 h2 hP)
  have HRX := Lib.hid (HR x a hP)
  obtain ⟨E, hE⟩ : ∃ r, r = mk.e x a := ⟨_, rfl⟩
  obtain ⟨X, hX⟩ : ∃ r, r = mk.x x a := ⟨_, rfl⟩
  obtain ⟨AN, hAN⟩ : ∃ r, r = doA mk x a := ⟨_, rfl⟩
  obtain ⟨DX, hDX⟩ : ∃ r, r = doX mk x a := ⟨_, rfl⟩
  have HAN := Lib.hid (show AN = if E = 0 then ⟨0, owA X a.id⟩ else ⟨E, 0⟩ by rw [hAN, hE, hX]; rfl)
  have HDX := Lib.hid (show DX = if E = 0 then X else x by rw [hDX, hE, hX]; rfl)
  rw [← hAN, ← hDX]
  rw [← hE, ← hX] at HMA HRX
  have hgl := hG.lt
  have HO := Lib.hid (fun V (hV : Below w.heap.size w V) => hO.bel hV)
  have HG := Lib.hid (fun V (hV : Below w.heap.size w V) => hG.bel hV)
  clear hE hX hAN hDX hO hG HM HR hP
  go_enter Tryz.func138, Tryz.ntmps138
  go_upto_region 0 with (fail)
  go_cut [3, 4] (fun p p2 wx => ∃ c z, p = .pointer (some ⟨c, 0, none⟩) ∧ p2 = .pointer (some ⟨z, 0, none⟩) ∧ w.heap.size ≤ z ∧ w.heap.size ≤ c ∧ c ≠ z ∧ AskAt wx c a ∧ Blk wx z #[.int .i64 0, .int .i64 0] 95 ∧ Below w.heap.size w wx)
  case first =>
    clear HMA HRX HAN HDX HO HG
    go_wp2_with fail
    go_meet
    exact ⟨_, _, rfl, rfl, by omega, by omega, by omega, blk2_0 _ _ _, blk2_1 _ _ _, bel2 _ _ _⟩
  obtain ⟨c, z, rfl, rfl, hz, hc0, hcz, hC, hZ, hb⟩ := hcut
  obtain ⟨W1, hW1⟩ : ∃ V, V = wc := ⟨_, rfl⟩
  subst hW1
  have HT := Lib.hid (fun X (hX : Below W1.heap.size W1 X) => hb.trans (hX.mono hb.size))
  have HC := Lib.hid (fun X (hX : Below W1.heap.size W1 X) => show Blk X c (askA a) 93 from Blk.bel hC hX)
  have HZ := Lib.hid (fun X (hX : Below W1.heap.size W1 X) => hZ.bel hX)
  have hs1 := hb.size
  have hzl := hZ.lt
  clear hC hZ hb
  have hb : Below W1.heap.size W1 W1 := Below.refl _ _
  go_upto_region 1 with (fail)
  go_cut [5, 6] (fun q r wx => r = .int .i64 E ∧ (∃ s y p', q = .pointer (some ⟨s, 0, none⟩) ∧ W1.heap.size ≤ s ∧ Blk wx s (saiA y p') 32 ∧ y = okS E X ∧ SaiO wx W1.heap.size y p') ∧ Below W1.heap.size W1 wx)
  case first =>
    have HQ := Lib.hid (HMA.out _ ((HO.out _ (HT.out _ hb)).sai) (HG.out _ (HT.out _ hb)))
    have hc := HC.out _ hb
    clear HMA HRX HAN HDX HO HG HT HC HZ
    go_wp2_with (refine wpList_load_row rfl 93 (.tmp 3) rfl c rfl 93 _ (0, 0) _ hc Tryz.underlying93 rfl (by kernel_rfl) ?_)
    refine HQ.out.mono ?_
    rintro e w8 ⟨⟨y, p', rfl, hy, hO⟩, hb8⟩
    have HO8 := Lib.hid hO
    have HY8 := Lib.hid hy
    have HB8 := Lib.hid hb8
    clear hO hy hb8 hc
    go_wp2_with (refine wpList_store_row rfl 32 (.tmp 5) (.tmp 13) rfl w8.heap.size (saiA y p') rfl rfl 32 _ (Blk.new w8 #[.int .i64 0, .int .i64 0, .slice none 0 0, .slice none 0 0, .slice none 0 0, .int .i64 0, .int .i64 0, .slice none 0 0, .int .i64 0, .int .i64 0, .int .i64 0, .slice none 0 0, .bool false] 32) (by kernel_rfl) rfl (by simp [Value.oneCell']) ?_)
    go_meet
    have hs8 := HB8.out.size
    have hbe : Below w8.heap.size w8 ((w8.alloc (.cells #[.int .i64 0, .int .i64 0, .slice none 0 0, .slice none 0 0, .slice none 0 0, .int .i64 0, .int .i64 0, .slice none 0 0, .int .i64 0, .int .i64 0, .int .i64 0, .slice none 0 0, .bool false] 32)).setRow w8.heap.size (saiA y p')) := below_setRow (bel1 w8 _) (Nat.le_refl _) _
    exact ⟨rfl, ⟨_, y, p', rfl, hs8, (Blk.new w8 _ _).row _, HY8.out, HO8.out.bel hbe⟩, HB8.out.trans (hbe.mono HB8.out.size)⟩
  obtain ⟨rfl, ⟨s, y, p', rfl, hsl, hS, hy, hO⟩, hb2⟩ := hcut
  obtain ⟨W2, hW2⟩ : ∃ V, V = wc := ⟨_, rfl⟩
  subst hW2
  have hZ2 := HZ.out _ hb2
  have HKZ := Lib.hid (fun (u : Array Value) => show Below w.heap.size w (W2.setRow z u) from (HT.out _ hb2).trans (((Kept.refl (fun k => k = z) W2).setRow (.inl rfl) u).below (B := w.heap.size) (HT.out _ hb2).size (fun k hk e => by omega)))
  clear hb
  by_cases h0 : E = 0
  rotate_left
  · have h0' : (E != 0) = true := by simpa using h0
    obtain rfl : AN = ⟨E, 0⟩ := by rw [HAN.out, if_neg h0]
    obtain rfl : DX = x := by rw [HDX.out, if_neg h0]
    clear h0 hS hy hO HC HMA HRX
    go_wp2_with (refine wpList_store_row rfl 95 (.tmp 4) (.tmp 18) rfl z #[.int .i64 E, .int .i64 0] rfl rfl 95 _ hZ2 (by kernel_rfl) rfl (by simp [Value.oneCell']) ?_)
    refine bodyPost_ret (v := .agg #[.int .i64 E, .int .i64 0]) ((hZ2.row _).ret (k := 4) (by kernel_rfl) rfl Tryz.underlying95 (by kernel_rfl) (by kernel_rfl)) rfl ?_
    exact ⟨rfl, ⟨p, HO.out _ (HKZ.out _), HG.out _ (HKZ.out _)⟩, Kept.of_below (HKZ.out _) (fun k hk h => by omega)⟩
  subst h0
  obtain rfl : y = X := hy.trans (okS_zero _)
  have HOK := Lib.hid (sai_ok (HRX.out rfl))
  obtain rfl : DX = y := by rw [HDX.out, if_pos rfl]
  have HAN2 := Lib.hid (HAN.out.trans (if_pos rfl))
  have hG2 := HG.out _ (HT.out _ hb2)
  have hK3 : Kept (fun k => k = g) W2 (W2.setRow g (saiA DX p')) := (Kept.refl (fun k => k = g) W2).setRow (.inl rfl) _
  have hO3 := hO.kept hK3 (fun k hk e => by omega)
  have hS3 := hS.kept hK3 (by omega)
  have hC3 := (HC.out _ hb2).kept hK3 (by omega)
  have hZ3 := hZ2.kept hK3 (by omega)
  have hG3 := hG2.row (saiA DX p')
  have hk3 : Kept (fun k => k = g) w (W2.setRow g (saiA DX p')) := (Kept.of_below (HT.out _ hb2) (fun k hk h => by omega)).trans hK3
  have hs2 := hb2.size
  have hs3 : (W2.setRow g (saiA DX p')).heap.size = W2.heap.size := by simp
  have hs4 := (HT.out _ hb2).size
  clear HO HG HC HZ HT HKZ HMA HRX HDX hO hy hK3 hb2
  go_upto_region 5 with (first | (refine wpList_load_row rfl 32 (.tmp 5) rfl s rfl 32 _ (0, 0) _ hS Tryz.underlying32 rfl (by kernel_rfl) ?_) | (refine wpList_store_row rfl 32 (.tmp 22) (.tmp 20) rfl g (saiA DX p') rfl rfl 181 _ hG2 (by kernel_rfl) rfl (by simp [Value.oneCell']) ?_))
  obtain ⟨W3, hW3⟩ : ∃ V, V = W2.setRow g (saiA DX p') := ⟨_, rfl⟩
  rw [← hW3] at hO3 hS3 hC3 hZ3 hG3 hk3 hs3 ⊢
  clear hW3 hS hZ2 hG2
  have hbk := hO3.sai.bks
  have HPL := Lib.hid (Place_any DX p' a.id W3 hbk (rise_of HOK.out.bs.rise) (ids_of HOK.out) HOK.out.bs.len ha)
  have c2 : W3.cell? ⟨c, 2, none⟩ = some (.int .i64 a.id) := hC3.cell rfl
  go_wp2_with (refine wpList_load_row rfl 32 (.tmp 5) rfl s rfl 32 _ (0, 0) _ hS3 Tryz.underlying32 rfl (by kernel_rfl) ?_)
  refine HPL.out.mono ?_
  rintro e w4 ⟨i, rfl, hi, hpos, hb4⟩
  have hO4 := hO3.bel hb4
  have hS4 := hS3.bel hb4
  have hZ4 := hZ3.bel hb4
  have hG4 := hG3.bel hb4
  have hk4 : Kept (fun k => k = g) w w4 := hk3.trans (Kept.of_below hb4 (fun k hk h => by omega))
  have hs5 := hb4.size
  clear hO3 hS3 hZ3 hG3 hk3 hC3 hbk HPL c2 hb4
  obtain ⟨q, hq⟩ : ∃ q, q = hasId DX.bks a.id := ⟨_, rfl⟩
  rw [← hq]
  have HEND := Lib.hid (show ∀ V (u : Array Value), Below w4.heap.size w4 V → (∃ p', SaiO (V.setRow z u) base DX p' ∧ Blk (V.setRow z u) g (saiA DX p') 181) ∧ Kept (fun k => k = g) w (V.setRow z u) from fun V u hV => by
    have hKz : Kept (fun k => k = z) V (V.setRow z u) := (Kept.refl (fun k => k = z) V).setRow (.inl rfl) u
    have hVs := hV.size
    exact ⟨⟨p', ((hO4.bel hV).kept hKz (fun k hk e => by omega)).mono (by omega), (hG4.bel hV).kept hKz (by omega)⟩, (hk4.trans (Kept.of_below hV (fun k hk h => by omega))).setRow (.inr hz) u⟩)
  cases q
  · obtain rfl : AN = ⟨0, 0⟩ := by rw [HAN2.out]; unfold owA; rw [← hq]; rfl
    clear hq hpos hO4 hS4 hG4 hk4
    go_wp2_with (refine wpList_store_row rfl 95 (.tmp 4) (.tmp 32) rfl z #[.int .i64 0, .int .i64 0] rfl rfl 95 _ hZ4 (by kernel_rfl) rfl (by simp [Value.oneCell']) ?_)
    refine bodyPost_ret (v := .agg #[.int .i64 0, .int .i64 0]) ((hZ4.row _).ret (k := 4) (by kernel_rfl) rfl Tryz.underlying95 (by kernel_rfl) (by kernel_rfl)) rfl ?_
    exact ⟨rfl, HEND.out _ _ (Below.refl _ _)⟩
  obtain ⟨b, hb, hbi, hbl, -⟩ := idxF_has (rise_of HOK.out.bs.rise) hq.symm
  have hid := ids_of HOK.out b (List.mem_of_getElem? hb)
  obtain rfl : i = posI DX.bks a.id := hpos ⟨by omega, by omega⟩
  have hcb : curB DX a.id = b := by unfold curB; rw [List.getD_eq_getElem?_getD, hb]; rfl
  obtain ⟨du, hdu⟩ : ∃ d, d = dueOf b.fol := ⟨_, rfl⟩
  obtain rfl : AN = ⟨0, du⟩ := by rw [HAN2.out, hdu]; unfold owA; rw [← hq, if_pos rfl, hcb]
  have hfol := (HOK.out.bs.bk b (List.mem_of_getElem? hb)).fol
  obtain ⟨w0, b0, hW⟩ := hO4
  obtain ⟨gc, A3, n3, c3, hC, hg0, hgcl, hcel, -, hF, -, hnb⟩ := hW.at hb
  have HDU := Lib.hid (fun X (hX : Below w4.heap.size w4 X) => Due_any A3 n3 c3 b.fol X (hF.bel hX) (check_small hfol))
  obtain ⟨A, n, cap, B, m, cap2, D, nd, cd, E, ne, ce, C, nb, cb⟩ := p'
  simp only at hC hnb
  subst hC
  obtain ⟨k, hk⟩ : ∃ k, k = posI DX.bks a.id := ⟨_, rfl⟩
  rw [← hk] at hcel hbl ⊢
  rw [← hdu] at HDU
  have c10 : w4.cell? ⟨gc, k * 11 + 10, none⟩ = some (.slice A3 n3 c3) := hcel 10 _ rfl
  have s11 : w4.cell? ⟨s, 11, none⟩ = some (.slice (some ⟨gc, 0, none⟩) nb cb) := hS4.cell rfl
  have hkn : k < nb := by rw [← hnb]; exact hbl
  have q1 : decide ((k : Int) < (nb : Int)) = true := decide_eq_true (by omega)
  have q2 : decide ((k : Int) < 0) = false := decide_eq_false (by omega)
  clear hq hpos hS4 hG4 hk4 hb hbi hbl hid hcb hfol hW hF hcel hk hdu hnb hi
  go_wp2_with fail
  refine (HDU.out _ (Below.refl _ _)).mono ?_
  rintro e w5 ⟨rfl, hb5⟩
  have hZ5 := hZ4.bel hb5
  clear HDU c10 s11 q1 q2 hZ4
  go_wp2_with (refine wpList_store_row rfl 95 (.tmp 4) (.tmp 40) rfl z #[.int .i64 0, .int .i64 du] rfl rfl 95 _ hZ5 (by kernel_rfl) rfl (by simp [Value.oneCell']) ?_)
  refine bodyPost_ret (v := .agg #[.int .i64 0, .int .i64 du]) ((hZ5.row _).ret (k := 4) (by kernel_rfl) rfl Tryz.underlying95 (by kernel_rfl) (by kernel_rfl)) rfl ?_
  exact ⟨rfl, HEND.out _ _ hb5⟩
end Go.Proofs.YtoilcdgpeilgaaaGreat
namespace Go.Proofs.YtoilcdgpeilgaaaGreat
open Go.RowKit Go.Shelf
theorem results_cell2_tmp {fn : Func} {p q u : Tmp} {ty tz : TypeId} (h : fn.results = #[.cell p ty, .cell q tz, .tmp u]) (tmps : Array Value) (P : Program) (w : World) :
    (results fn tmps).run P w = ((asAddr (tmps.getD p undef)).run P w).andThen fun a w₁ => ((loadVar ty a).run P w₁).andThen fun x w₂ => ((asAddr (tmps.getD q undef)).run P w₂).andThen fun b w₃ => ((loadVar tz b).run P w₃).andThen fun y w₄ => .ok (.tuple #[x, y, tmps.getD u undef]) w₄ := by
  simp only [results, h]
  simp [Sem.run_bind, Result.andThen]
theorem Blk.ret22 {fn : Func} {k l u : Tmp} {ty tz t s : TypeId} (hf : fn.results = #[.cell k ty, .cell l tz, .tmp u]) {tmps : Array Value} {w : World} {g h : Nat} {cs ds : Array Value} {d d2 : TypeDesc} (hg : Blk w g cs t) (hh : Blk w h ds s) (hp : tmps.getD k undef = .pointer (some ⟨g, 0, none⟩)) (hq : tmps.getD l undef = .pointer (some ⟨h, 0, none⟩)) {e : Value} (he : tmps.getD u undef = e)
    (hu : Tryz.prog.underlying ty = some d) (hd : (match d with | .struct _ | .array _ _ => true | _ => false) = true) (hi : (Tryz.prog.info? ty).map (·.size) = some cs.size)
    (hu2 : Tryz.prog.underlying tz = some d2) (hd2 : (match d2 with | .struct _ | .array _ _ => true | _ => false) = true) (hi2 : (Tryz.prog.info? tz).map (·.size) = some ds.size) : (results fn tmps).run Tryz.prog w = .ok (.tuple #[.agg cs, .agg ds, e]) w := by
  have h1 := hg.ld hu hd hi
  have h2 := hh.ld hu2 hd2 hi2
  rw [results_cell2_tmp (p := k) (q := l) (u := u) (ty := ty) (tz := tz) hf, hp, hq, he]
  simp only [asAddr, Sem.run_pure, Result.andThen, h1, h2]
theorem rowB2 {w : World} {b z : Nat} {cs : Array Value} {t : TypeId} (h : Blk w b cs t) (hn : b ≠ z) (u : Array Value) : Blk (w.setRow z u) b cs t := h.kept ((Kept.refl (fun k => k = z) w).setRow (.inl rfl) u) hn
noncomputable def deskE (x : Sai) (a : Ask) : Int := if saiE x ≠ 0 then saiE x else codeE a
def okA (e : Int) (a : Ans) : Ans := if e = 0 then a else ⟨0, 0⟩
theorem okA_zero (a : Ans) : okA 0 a = a := rfl
theorem okA_ne {e : Int} (h : ¬ e = 0) (a : Ans) : okA e a = ⟨0, 0⟩ := if_neg h
def DoR (w' : World) (base : Nat) (E : Int) (X : Sai) (N : Ans) (e : Ending) : Prop := ∃ y p' an, e = .returned (.tuple #[.agg (saiA y p'), .agg (ansA an), .int .i64 E]) ∧ y = okS E X ∧ an = okA E N ∧ SaiO w' base y p'
set_option maxRecDepth 100000 in
set_option maxHeartbeats 4000000 in
theorem Do_any {P : Sai → Ask → Prop} {mk : Mk} (HM : MadeC P mk) (HR : RightC P mk) (x : Sai) (p : SaiV) (a : Ask) (w : World) (hS : SaiR w x p) (hP : saiE x = 0 → codeE a = 0 → P x a) (ha : InI a.id) :
    Calls Tryz.prog 59 #[.agg (saiA x p), .agg (askA a)] w fun e w' => DoR w' w.heap.size (deskE x a) (doX mk x a) (doA mk x a) e ∧ Below w.heap.size w w' := by
  have HCK := Lib.hid (fun X hX => saiCheck_any x p X hX)
  have HCC := Lib.hid (fun X => codeCheck_any a X)
  have HOW := Lib.hid (fun X h ho => stockOwn_any x p X h ho)
  have HDO := Lib.hid (fun p2 g base X h1 h2 h3 hp => do_any HM HR x p2 a g base X h1 h2 h3 hp ha)
  obtain ⟨r, hr⟩ : ∃ r, r = saiE x := ⟨_, rfl⟩
  obtain ⟨k, hk⟩ : ∃ r, r = codeE a := ⟨_, rfl⟩
  obtain ⟨R, hR⟩ : ∃ r, r = deskE x a := ⟨_, rfl⟩
  obtain ⟨DX, hDX⟩ : ∃ r, r = doX mk x a := ⟨_, rfl⟩
  obtain ⟨DA, hDA⟩ : ∃ r, r = doA mk x a := ⟨_, rfl⟩
  have HR1 := Lib.hid (show R = if r ≠ 0 then r else k by rw [hR, hr, hk]; rfl)
  have HRE := Lib.hid hr
  rw [← hr] at HCK hP
  rw [← hk] at HCC hP
  rw [← hDX, ← hDA] at HDO
  rw [← hR, ← hDX, ← hDA]
  have HP := Lib.hid hP
  have HS := Lib.hid hS
  clear hr hk hR hDX hDA hS hP
  obtain ⟨A, n, cap, B, m, cap2, D, nd, cd, E, ne, ce, C, nb, cb⟩ := p
  go_enter Tryz.func59, Tryz.ntmps59
  go_upto_region 0 with (fail)
  go_cut [2, 3, 4, 5, 6] (fun p p2 p3 p4 p5 wx => ∃ g c z q, p = .pointer (some ⟨g, 0, none⟩) ∧ p2 = .pointer (some ⟨c, 0, none⟩) ∧ p3 = .pointer (some ⟨z, 0, none⟩) ∧ p4 = .pointer (some ⟨q, 0, none⟩) ∧ p5 = .int .i64 0 ∧ w.heap.size ≤ z ∧ w.heap.size ≤ q ∧ z ≠ q ∧
    Blk wx g (saiA x ⟨A, n, cap, B, m, cap2, D, nd, cd, E, ne, ce, C, nb, cb⟩) 32 ∧ AskAt wx c a ∧ Blk wx z #[.int .i64 0, .int .i64 0, .slice none 0 0, .slice none 0 0, .slice none 0 0, .int .i64 0, .int .i64 0, .slice none 0 0, .int .i64 0, .int .i64 0, .int .i64 0, .slice none 0 0, .bool false] 32 ∧ Blk wx q #[.int .i64 0, .int .i64 0] 95 ∧ Below w.heap.size w wx)
  case first =>
    clear HCK HCC HOW HDO HR1 HRE HP HS
    go_wp2_with fail
    go_meet
    exact ⟨_, _, _, _, rfl, rfl, rfl, rfl, rfl, by omega, by omega, by omega, ((Blk.new w _ _).old _).old _ |>.old _, ((Blk.new1 w _ _ _).old _).old _, (Blk.new2 w _ _ _ _).old _, Blk.new3 w _ _ _ _ _, (bel3 _ _ _ _).alloc (by simp; omega) _⟩
  obtain ⟨g, c, z, q, rfl, rfl, rfl, rfl, rfl, hz, hq, hzq, hG, hC, hZ, hQ, hb0⟩ := hcut
  obtain ⟨W1, hW1⟩ : ∃ V, V = wc := ⟨_, rfl⟩
  subst hW1
  have HT := Lib.hid (fun X (hX : Below W1.heap.size W1 X) => hb0.trans (hX.mono hb0.size))
  have HG := Lib.hid (fun X (hX : Below W1.heap.size W1 X) => hG.bel hX)
  have HC := Lib.hid (fun X (hX : Below W1.heap.size W1 X) => show Blk X c (askA a) 93 from Blk.bel hC hX)
  have HZ := Lib.hid (fun X (hX : Below W1.heap.size W1 X) => hZ.bel hX)
  have HQ := Lib.hid (fun X (hX : Below W1.heap.size W1 X) => hQ.bel hX)
  have HSX := Lib.hid (fun X (hX : Below W1.heap.size W1 X) => HS.out.bel (HT.out X hX))
  have hzl := hZ.lt
  have hql := hQ.lt
  have hs0 := hb0.size
  have HBZ := Lib.hid (show ∀ V u u2, Below W1.heap.size W1 V → Below w.heap.size w ((V.setRow z u).setRow q u2) from fun V u u2 hX =>
    ((HT.out V hX).trans ((((Kept.refl (fun k => k = z ∨ k = q) V).setRow (.inl (.inl rfl)) u).setRow (.inl (.inr rfl)) u2).below (B := w.heap.size) (HT.out V hX).size (fun k hk e => by omega))))
  have HEND := Lib.hid (show ∀ (E' : Int) V, ¬ E' = 0 → Below W1.heap.size W1 V → DoR ((V.setRow z (saiA zeroS zeroP)).setRow q #[.int .i64 0, .int .i64 0]) w.heap.size E' DX DA (.returned (.tuple #[.agg (saiA zeroS zeroP), .agg #[.int .i64 0, .int .i64 0], .int .i64 E'])) ∧ Below w.heap.size w ((V.setRow z (saiA zeroS zeroP)).setRow q #[.int .i64 0, .int .i64 0]) from fun E' V h0 hX =>
    ⟨⟨zeroS, zeroP, ⟨0, 0⟩, rfl, (okS_ne h0 _).symm, (okA_ne h0 _).symm, zeroS_own _ _ (HBZ.out V _ _ hX).size⟩, HBZ.out V _ _ hX⟩)
  have hb : Below W1.heap.size W1 W1 := Below.refl _ _
  clear hG hC hZ hQ hb0
  have HQ1 := Lib.hid (HCK.out _ (HSX.out _ hb))
  go_upto_region 1 with (fail)
  go_wp2_with (refine wpList_load_row rfl 32 (.tmp 2) rfl g rfl 32 _ (0, 0) _ (HG.out _ hb) Tryz.underlying32 rfl (by kernel_rfl) ?_)
  refine HQ1.out.mono ?_
  rintro e w1 ⟨rfl, hb1⟩
  replace hb := hb.trans (hb1.mono hb.size)
  clear hb1 HQ1 HCK
  by_cases q0 : r = 0
  rotate_left
  · obtain rfl : R = r := by rw [HR1.out, if_pos q0]
    have q1 : (R != 0) = true := by simpa using q0
    have q2 : (R == 0) = false := by simpa using q0
    have Q0 := Lib.hid q0
    clear q0
    have hz6 := HZ.out _ hb
    have hq6 := HQ.out _ hb
    have hq7 := rowB2 hq6 (Ne.symm hzq) (saiA zeroS zeroP)
    have hz8 := rowB2 (hz6.row (saiA zeroS zeroP)) hzq #[.int .i64 0, .int .i64 0]
    go_wp2_with (first | (refine wpList_store_row rfl 32 (.tmp 4) (.tmp 18) rfl z (saiA zeroS zeroP) rfl rfl 32 _ hz6 (by kernel_rfl) rfl (by simp [Value.oneCell']) ?_) | (refine wpList_store_row rfl 95 (.tmp 5) (.tmp 19) rfl q #[.int .i64 0, .int .i64 0] rfl rfl 95 _ hq7 (by kernel_rfl) rfl (by simp [Value.oneCell']) ?_))
    refine bodyPost_ret (v := .tuple #[.agg (saiA zeroS zeroP), .agg #[.int .i64 0, .int .i64 0], .int .i64 R]) (Blk.ret22 (k := 4) (l := 5) (u := 6) (by kernel_rfl) hz8 (hq7.row #[.int .i64 0, .int .i64 0]) rfl rfl rfl Tryz.underlying32 (by kernel_rfl) (by kernel_rfl) Tryz.underlying95 (by kernel_rfl) (by kernel_rfl)) rfl ?_
    exact HEND.out _ _ Q0.out hb
  obtain rfl : R = k := by rw [HR1.out, if_neg (by rw [q0]; simp)]
  have HOK := Lib.hid (sai_ok (HRE.out.symm.trans q0))
  have HP2 := Lib.hid (HP.out q0)
  subst q0
  have hc := HC.out _ hb
  go_wp2_with (refine wpList_load_row rfl 93 (.tmp 3) rfl c rfl 93 _ (0, 0) _ hc Tryz.underlying93 rfl (by kernel_rfl) ?_)
  refine (HCC.out _).mono ?_
  rintro e w2 ⟨rfl, hb2⟩
  replace hb := hb.trans (hb2.mono hb.size)
  clear hb2 HCC hc
  by_cases q0 : R = 0
  rotate_left
  · have q1 : (R != 0) = true := by simpa using q0
    have Q0 := Lib.hid q0
    clear q0
    have hz6 := HZ.out _ hb
    have hq6 := HQ.out _ hb
    have hq7 := rowB2 hq6 (Ne.symm hzq) (saiA zeroS zeroP)
    have hz8 := rowB2 (hz6.row (saiA zeroS zeroP)) hzq #[.int .i64 0, .int .i64 0]
    go_wp2_with (first | (refine wpList_store_row rfl 32 (.tmp 4) (.tmp 18) rfl z (saiA zeroS zeroP) rfl rfl 32 _ hz6 (by kernel_rfl) rfl (by simp [Value.oneCell']) ?_) | (refine wpList_store_row rfl 95 (.tmp 5) (.tmp 19) rfl q #[.int .i64 0, .int .i64 0] rfl rfl 95 _ hq7 (by kernel_rfl) rfl (by simp [Value.oneCell']) ?_))
    refine bodyPost_ret (v := .tuple #[.agg (saiA zeroS zeroP), .agg #[.int .i64 0, .int .i64 0], .int .i64 R]) (Blk.ret22 (k := 4) (l := 5) (u := 6) (by kernel_rfl) hz8 (hq7.row #[.int .i64 0, .int .i64 0]) rfl rfl rfl Tryz.underlying32 (by kernel_rfl) (by kernel_rfl) Tryz.underlying95 (by kernel_rfl) (by kernel_rfl)) rfl ?_
    exact HEND.out _ _ Q0.out hb
  subst q0
  have HPP := Lib.hid (HP2.out rfl)
  have HQ1 := Lib.hid (HOW.out _ (HSX.out _ hb) HOK.out)
  clear HR1 HP HP2 HOW
  have hs2 := hb.size
  go_wp2_with (refine wpList_load_row rfl 32 (.tmp 2) rfl g rfl 32 _ (0, 0) _ (HG.out _ hb) Tryz.underlying32 rfl (by kernel_rfl) ?_)
  refine HQ1.out.mono ?_
  rintro e w3 ⟨p3, rfl, hO3, hb3⟩
  replace hb := hb.trans (hb3.mono hb.size)
  have hc := (HC.out _ hb).bel (bel1 w3 (.cells (saiA x p3) 181))
  have hO4 := hO3.bel (bel1 w3 (.cells (saiA x p3) 181))
  have hs3 := hb3.size
  have HDOO := Lib.hid (HDO.out p3 w3.heap.size w2.heap.size _ hO4 (by simp; omega) (Blk.new w3 (saiA x p3) 181) HPP.out)
  have HB := Lib.hid (hb.trans ((bel1 w3 (.cells (saiA x p3) 181)).mono hb.size))
  clear hO3 hO4 hb3 HQ1 HDO hb
  go_wp2_with (refine wpList_load_row rfl 93 (.tmp 3) rfl c rfl 93 _ (0, 0) _ hc Tryz.underlying93 rfl (by kernel_rfl) ?_)
  refine HDOO.out.mono ?_
  rintro e w5 ⟨rfl, ⟨p5, hO5, hG5⟩, hK5⟩
  have hsz5 : w3.heap.size < (w3.alloc (.cells (saiA x p3) 181)).heap.size := by simp
  have hb : Below W1.heap.size W1 w5 := HB.out.trans (hK5.below (B := W1.heap.size) HB.out.size (fun j hj e => by omega))
  have HB5 := Lib.hid (show w.heap.size ≤ w5.heap.size ∧ W1.heap.size ≤ w2.heap.size ∧ W1.heap.size ≤ w5.heap.size from ⟨(HT.out _ hb).size, hs2, hb.size⟩)
  clear HDOO hK5 hc HB
  go_wp2_with fail
  have hG6 := hG5.bel (bel1 w5 (.cells #[.int .i64 DA.errno, .int .i64 DA.owed] 95))
  have hO6 := hO5.bel (bel1 w5 (.cells #[.int .i64 DA.errno, .int .i64 DA.owed] 95))
  have hN6 := Blk.new w5 #[.int .i64 DA.errno, .int .i64 DA.owed] 95
  replace hb := hb.trans ((bel1 w5 (.cells #[.int .i64 DA.errno, .int .i64 DA.owed] 95)).mono hb.size)
  have hgl := hG5.lt
  have hgw : w2.heap.size ≤ w3.heap.size := hs3
  have hs5 := hO5
  clear hG5 hO5 hs5 hsz5
  obtain ⟨gk, hgk⟩ : ∃ n, n = w3.heap.size := ⟨_, rfl⟩
  obtain ⟨n5, hn5⟩ : ∃ n, n = w5.heap.size := ⟨_, rfl⟩
  obtain ⟨w6, hw6⟩ : ∃ V, V = w5.alloc (.cells #[.int .i64 DA.errno, .int .i64 DA.owed] 95) := ⟨_, rfl⟩
  rw [← hw6, ← hgk] at hG6
  rw [← hw6] at hO6 hb
  rw [← hw6, ← hn5] at hN6
  rw [← hgk, ← hn5, ← hw6]
  have hgz : gk ≠ z := by omega
  have hgq : gk ≠ q := by omega
  have hb5 := HB5.out
  have hnz : n5 ≠ z := by omega
  have hnq : n5 ≠ q := by omega
  have HK := Lib.hid (show ∀ X, Kept (fun k => k = z ∨ k = q) w6 X → (fun w' => w'.cell? ⟨gk, 0, none⟩ = some (.int .i64 DX.ship.legs) ∧ w'.cell? ⟨gk, 1, none⟩ = some (.int .i64 DX.ship.souls) ∧ w'.cell? ⟨gk, 2, none⟩ = some (.slice p5.A p5.n p5.cap) ∧ w'.cell? ⟨gk, 3, none⟩ = some (.slice p5.B p5.m p5.cap2) ∧ w'.cell? ⟨gk, 4, none⟩ = some (.slice p5.D p5.nd p5.cd) ∧ w'.cell? ⟨gk, 5, none⟩ = some (.int .i64 DX.fares.alone) ∧ w'.cell? ⟨gk, 6, none⟩ = some (.int .i64 DX.fares.third) ∧ w'.cell? ⟨gk, 7, none⟩ = some (.slice p5.E p5.ne p5.ce) ∧ w'.cell? ⟨gk, 8, none⟩ = some (.int .i64 DX.fares.down) ∧ w'.cell? ⟨gk, 9, none⟩ = some (.int .i64 DX.day) ∧ w'.cell? ⟨gk, 10, none⟩ = some (.int .i64 DX.leaves) ∧ w'.cell? ⟨gk, 11, none⟩ = some (.slice p5.C p5.nb p5.cb) ∧ w'.cell? ⟨gk, 12, none⟩ = some (.bool DX.closed) ∧ w'.cell? ⟨n5, 0, none⟩ = some (.int .i64 DA.errno) ∧ w'.cell? ⟨n5, 1, none⟩ = some (.int .i64 DA.owed)) X from fun X hX => by
    have hg := hG6.kept hX (by omega)
    have hn := hN6.kept hX (by omega)
    exact ⟨hg.cell rfl, hg.cell rfl, hg.cell rfl, hg.cell rfl, hg.cell rfl, hg.cell rfl, hg.cell rfl, hg.cell rfl, hg.cell rfl, hg.cell rfl, hg.cell rfl, hg.cell rfl, hg.cell rfl, hn.cell rfl, hn.cell rfl⟩)
  have hbd := hb.drew
  have hz6 := HZ.out _ hbd
  have hq6 := HQ.out _ hbd
  have hq7 := rowB2 hq6 (Ne.symm hzq) (saiA DX p5)
  have hz8 := rowB2 (hz6.row (saiA DX p5)) hzq (ansA DA)
  have HBB := Lib.hid (HBZ.out w6.drew (saiA DX p5) (ansA DA) hbd)
  replace hO6 := hO6.bel (Below.refl _ _).drew
  have hkd := Kept.refl (fun k => k = z ∨ k = q) w6.drew
  have hO7 := (hO6.kept ((hkd.setRow (.inl (.inl rfl)) (saiA DX p5)).setRow (.inl (.inr rfl)) (ansA DA)) (fun k hk e => by omega)).mono (show w.heap.size ≤ w2.heap.size by omega)
  have HO7 := Lib.hid hO7
  clear hO7
  have hk6 := Kept.refl (fun k => k = z ∨ k = q) w6
  clear HSX HEND HBZ HZ HQ HG HC HT hG6 hN6 hw6 hgk hn5 HB5 hb5
  refine wp_region_held_drew (S := (fun w' => w'.cell? ⟨gk, 0, none⟩ = some (.int .i64 DX.ship.legs) ∧ w'.cell? ⟨gk, 1, none⟩ = some (.int .i64 DX.ship.souls) ∧ w'.cell? ⟨gk, 2, none⟩ = some (.slice p5.A p5.n p5.cap) ∧ w'.cell? ⟨gk, 3, none⟩ = some (.slice p5.B p5.m p5.cap2) ∧ w'.cell? ⟨gk, 4, none⟩ = some (.slice p5.D p5.nd p5.cd) ∧ w'.cell? ⟨gk, 5, none⟩ = some (.int .i64 DX.fares.alone) ∧ w'.cell? ⟨gk, 6, none⟩ = some (.int .i64 DX.fares.third) ∧ w'.cell? ⟨gk, 7, none⟩ = some (.slice p5.E p5.ne p5.ce) ∧ w'.cell? ⟨gk, 8, none⟩ = some (.int .i64 DX.fares.down) ∧ w'.cell? ⟨gk, 9, none⟩ = some (.int .i64 DX.day) ∧ w'.cell? ⟨gk, 10, none⟩ = some (.int .i64 DX.leaves) ∧ w'.cell? ⟨gk, 11, none⟩ = some (.slice p5.C p5.nb p5.cb) ∧ w'.cell? ⟨gk, 12, none⟩ = some (.bool DX.closed) ∧ w'.cell? ⟨n5, 0, none⟩ = some (.int .i64 DA.errno) ∧ w'.cell? ⟨n5, 1, none⟩ = some (.int .i64 DA.owed))) (by kernel_rfl) (HK.out _ hk6.drew) (fun hHeld => ?_)
  refine wpAnyH_take (i := 0) (v := ?v1) (gA rfl) (by kernel_rfl) (by kernel_rfl) (by kernel_rfl) (fun _ _ _ h => h) (Or.inl ⟨rfl, ?y1⟩) (by assumption) ?_
  case y1 => (intro w hSw; (try dsimp only at hSw); go_simp <;> with_reducible rfl)
  simp only [Act.put, List.setIfInBounds_toArray, List.set_cons_zero, List.set_cons_succ]
  refine wpAnyH_take (i := 1) (v := ?v2) (gA rfl) (by kernel_rfl) (by kernel_rfl) (by kernel_rfl) (fun _ _ _ h => h) (Or.inl ⟨rfl, ?y2⟩) (by assumption) ?_
  case y2 => (intro w hSw; (try dsimp only at hSw); go_simp <;> with_reducible rfl)
  simp only [Act.put, List.setIfInBounds_toArray, List.set_cons_zero, List.set_cons_succ]
  refine wpAnyH_take (i := 2) (v := ?v3) (gA rfl) (by kernel_rfl) (by kernel_rfl) (by kernel_rfl) (fun _ _ _ h => h) (Or.inl ⟨rfl, ?y3⟩) (by assumption) ?_
  case y3 => (intro w hSw; (try dsimp only at hSw); go_simp <;> with_reducible rfl)
  simp only [Act.put, List.setIfInBounds_toArray, List.set_cons_zero, List.set_cons_succ]
  refine wpAnyH_take (i := 3) (v := ?v4) (gA rfl) (by kernel_rfl) (by kernel_rfl) (by kernel_rfl) (fun _ _ _ h => h) (Or.inl ⟨rfl, ?y4⟩) (by assumption) ?_
  case y4 => (intro w hSw; (try dsimp only at hSw); go_simp <;> with_reducible rfl)
  simp only [Act.put, List.setIfInBounds_toArray, List.set_cons_zero, List.set_cons_succ]
  refine wpAnyH_take (i := 4) (v := ?v5) (gA rfl) (by kernel_rfl) (by kernel_rfl) (by kernel_rfl) (fun _ _ _ h => h) (Or.inl ⟨rfl, ?y5⟩) (by assumption) ?_
  case y5 => (intro w hSw; (try dsimp only at hSw); go_simp <;> with_reducible rfl)
  simp only [Act.put, List.setIfInBounds_toArray, List.set_cons_zero, List.set_cons_succ]
  refine wpAnyH_ready (rs := [5]) (by kernel_rfl) (by simp) (AllReadyH.cons (gA rfl) (fun K hK => ?_) AllReadyH.nil)
  (refine wp_store_row 32 (.tmp 4) (.tmp 31) rfl _ (saiA DX p5) rfl rfl 32 _ hz6 (by kernel_rfl) rfl (by simp [Value.oneCell']) ?_)
  refine hK.out _ _ ?_ (fun hHeld => ?_)
  · exact HK.out _ (hk6.drew.setRow (.inl (.inl rfl)) _)
  clear hK K
  try simp only [Act.put, List.setIfInBounds_toArray, List.set_cons_zero, List.set_cons_succ]
  refine wpAnyH_ready (rs := [6]) (by kernel_rfl) (by simp) (AllReadyH.cons (gA rfl) (fun K hK => ?_) AllReadyH.nil)
  (refine wp_store_row 95 (.tmp 5) (.tmp 32) rfl _ (ansA DA) rfl rfl 95 _ hq7 (by kernel_rfl) rfl (by simp [Value.oneCell']) ?_)
  refine hK.out _ _ ?_ (fun hHeld => ?_)
  · exact HK.out _ ((hk6.drew.setRow (.inl (.inl rfl)) _).setRow (.inl (.inr rfl)) _)
  clear hK K
  try simp only [Act.put, List.setIfInBounds_toArray, List.set_cons_zero, List.set_cons_succ]
  refine wpAnyH_take (i := 7) (v := ?v8) (gA rfl) (by kernel_rfl) (by kernel_rfl) (by kernel_rfl) (fun _ _ _ h => h) (Or.inl ⟨rfl, ?y8⟩) (by assumption) ?_
  case y8 => (intro w hSw; (try dsimp only at hSw); go_simp <;> with_reducible rfl)
  simp only [Act.put, List.setIfInBounds_toArray, List.set_cons_zero, List.set_cons_succ]
  refine wpAnyH_done (by kernel_rfl) ?_ _
  clear HK hk6 hkd hO6 hbd
  go_wp2_with fail
  refine bodyPost_ret (v := .tuple #[.agg (saiA DX p5), .agg (ansA DA), .int .i64 0]) (Blk.ret22 (k := 4) (l := 5) (u := 6) (by kernel_rfl) hz8 (hq7.row (ansA DA)) rfl rfl rfl Tryz.underlying32 (by kernel_rfl) (by kernel_rfl) Tryz.underlying95 (by kernel_rfl) (by kernel_rfl)) rfl ?_
  exact ⟨⟨DX, p5, DA, rfl, (okS_zero _).symm, (okA_zero _).symm, HO7.out⟩, HBB.out⟩
end Go.Proofs.YtoilcdgpeilgaaaGreat
namespace Go.Proofs.YtoilcdgpeilgaaaGreat
open Go.RowKit Go.Shelf
def sameNo (a : Ask) (o : Don) : Bool := o.ask.number == a.number
noncomputable def opn (mk : Mk) : Sai → List Don → List Don → Sai × Int
  | x, _, [] => (x, 0)
  | x, pre, d :: l => if codeE d.ask ≠ 0 then (x, codeE d.ask) else if pre.any (sameNo d.ask) = true then (x, 6) else if doA mk x d.ask = d.ans then opn mk (doX mk x d.ask) (pre ++ [d]) l else (x, 4)
noncomputable def openE (mk : Mk) (x : Sai) (l : List Don) (wr : Int) : Int := if saiE x ≠ 0 then saiE x else if 30 < l.length then 2 else if wrB wr l.length = false then 3 else (opn mk x [] l).2
noncomputable def openX (mk : Mk) (x : Sai) (l : List Don) : Sai := (opn mk x [] l).1
theorem opn_step {mk : Mk} {y : Sai} {l : List Don} {k : Nat} {d : Don} (hk : l[k]? = some d) : opn mk y (l.take k) (l.drop k) = if codeE d.ask ≠ 0 then (y, codeE d.ask) else if (l.take k).any (sameNo d.ask) = true then (y, 6) else if doA mk y d.ask = d.ans then opn mk (doX mk y d.ask) (l.take (k + 1)) (l.drop (k + 1)) else (y, 4) := by
  obtain ⟨h, he⟩ := List.getElem?_eq_some_iff.1 hk
  rw [List.drop_eq_getElem_cons h, he, take_snoc hk]
  rfl
theorem doX_ok {P : Sai → Ask → Prop} {mk : Mk} (HR : RightC P mk) {x : Sai} {a : Ask} (h : saiE x = 0) (hP : P x a) : saiE (doX mk x a) = 0 := by
  unfold doX
  by_cases q : mk.e x a = 0
  · rw [if_pos q]; exact HR x a hP q
  · rw [if_neg q]; exact h
set_option maxRecDepth 100000 in
theorem open1_any (x : Don) (no : Int) (d : Nat) (w : World) (hd : w.cell? ⟨d, 0, none⟩ = some (.int .i64 no)) :
    Calls Tryz.prog 212 #[.agg (donA x), .pointer (some ⟨d, 0, none⟩)] w fun e w' => e = .returned (.bool (x.ask.number == no)) ∧ Below w.heap.size w w' := by
  have hdl := cell_lt hd
  unfold donA
  go_enter Tryz.func212, Tryz.ntmps212
  go_wp2_with fail
  go_ret
  exact ⟨rfl, bel1 _ _⟩
set_option maxRecDepth 100000 in
theorem step1_any (x : Don) (no : Int) (d : Nat) (w : World) (hd : w.cell? ⟨d, 0, none⟩ = some (.int .i64 no)) :
    Calls Tryz.prog 160 #[.agg (donA x), .pointer (some ⟨d, 0, none⟩)] w fun e w' => e = .returned (.bool (x.ask.number == no)) ∧ Below w.heap.size w w' := by
  have hdl := cell_lt hd
  unfold donA
  go_enter Tryz.func160, Tryz.ntmps160
  go_wp2_with fail
  go_ret
  exact ⟨rfl, bel1 _ _⟩
end Go.Proofs.YtoilcdgpeilgaaaGreat
