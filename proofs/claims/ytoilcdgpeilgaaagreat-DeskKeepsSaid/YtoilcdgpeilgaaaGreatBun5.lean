/-
  Words, laws and contracts: ShipD, ShipE, ShipF, ShipJ, ShipM.
-/
import Derived.Test.YtoilcdgpeilgaaaGreatBun2
import Derived.Test.YtoilcdgpeilgaaaGreatBun4
import Derived.Deep.CutBlock
set_option linter.unusedSimpArgs false
set_option linter.unusedVariables false
namespace Go.Proofs.YtoilcdgpeilgaaaGreat
open Go.RowKit Go.Shelf
def cabE (n : Int) (x : Cab) : Int := if betB x.cat 0 (n - 1) = false ∨ betB x.ber 1 4 = false then 3 else 0
def catNames (cats : List Cat) : List (List UInt8) := cats.map (·.name)
def cabNames (cabs : List Cab) : List (List UInt8) := cabs.map (·.name)
def catE (cats : List Cat) (k : Nat) : Int := firstE (highE cats.length (cats.getD k default).high) (cats.getD k default).high.length
def shipE (x : Shp) : Int :=
  if betB x.legs 1 7 = false ∨ betB x.souls 1 60 = false then 3 else
  if 5 < x.cats.length ∨ 12 < x.cabs.length then 2 else
  if x.cats.length = 0 ∨ x.cabs.length = 0 then 5 else
  if firstE (nmE (catNames x.cats) (catE x.cats)) x.cats.length ≠ 0 then firstE (nmE (catNames x.cats) (catE x.cats)) x.cats.length else
  if rndB (higC x.cats) x.cats.length = true then 4 else
  firstE (nmE (cabNames x.cabs) (fun k => cabE x.cats.length (x.cabs.getD k default))) x.cabs.length
def ShpAt (w : World) (g : Nat) (legs souls : Int) (A : Option Addr) (n cap : Nat) (B : Option Addr) (m cap2 : Nat) : Prop :=
  Blk w g #[.int .i64 legs, .int .i64 souls, .slice A n cap, .slice B m cap2] 25
theorem ShpAt.bel {w w' : World} {g : Nat} {legs souls : Int} {A : Option Addr} {n cap : Nat} {B : Option Addr} {m cap2 : Nat} (h : ShpAt w g legs souls A n cap B m cap2) (hb : Below w.heap.size w w') : ShpAt w' g legs souls A n cap B m cap2 := Blk.bel h hb
theorem ShpAt.all {w : World} {g : Nat} {legs souls : Int} {A : Option Addr} {n cap : Nat} {B : Option Addr} {m cap2 : Nat} (h : ShpAt w g legs souls A n cap B m cap2) :
    w.cell? ⟨g, 0, none⟩ = some (.int .i64 legs) ∧ w.cell? ⟨g, 1, none⟩ = some (.int .i64 souls) ∧ w.cell? ⟨g, 2, none⟩ = some (.slice A n cap) ∧ w.cell? ⟨g, 3, none⟩ = some (.slice B m cap2) :=
  ⟨Blk.cell h rfl, Blk.cell h rfl, Blk.cell h rfl, Blk.cell h rfl⟩
set_option maxRecDepth 100000 in
set_option maxHeartbeats 4000000 in
theorem cabin_any (legs souls : Int) (A : Option Addr) (n cap : Nat) (vc : Value) (x : Cab) (w : World) (hn : n ≤ 1000000000) (h1 : InI x.cat) (h2 : InI x.ber) :
    Calls Tryz.prog 173 #[.agg #[.int .i64 legs, .int .i64 souls, .slice A n cap, vc], .agg #[strV x.name, .int .i64 x.cat, .int .i64 x.ber, .bool x.lev]] w fun e w' => e = .returned (.int .i64 (cabE n x)) ∧ Below w.heap.size w w' := by
  obtain ⟨nm, ct, br, lv⟩ := x
  simp only at h1 h2 ⊢
  obtain ⟨r, hr⟩ : ∃ r, r = cabE n ⟨nm, ct, br, lv⟩ := ⟨_, rfl⟩
  rw [← hr]
  have HR := Lib.hid (show r = if betB ct 0 ((n : Int) - 1) = false ∨ betB br 1 4 = false then 3 else 0 from hr)
  clear hr
  have hw1 := fun W => swithin_any ct 0 ((n : Int) - 1) W
  have hw2 := fun W => swithin_any br 1 4 W
  go_enter Tryz.func173, Tryz.ntmps173
  go_upto_region 0 with (fail)
  go_cut [2, 3, 4] (fun p q _ wx => ∃ g k, p = .pointer (some ⟨g, 0, none⟩) ∧ q = .pointer (some ⟨k, 0, none⟩) ∧ Blk wx g #[.int .i64 legs, .int .i64 souls, .slice A n cap, vc] 25 ∧ Blk wx k #[strV nm, .int .i64 ct, .int .i64 br, .bool lv] 76 ∧ Below w.heap.size w wx)
  case first => as_aux_lemma =>
    go_wp2_with fail
    go_meet
    exact ⟨_, _, rfl, rfl, blk2_0 _ _ _, blk2_1 _ _ _, bel2 _ _ _⟩
  obtain ⟨g, k, rfl, rfl, hG, hK, hb⟩ := hcut
  have g2 : wc.cell? ⟨g, 2, none⟩ = some (.slice A n cap) := hG.cell rfl
  have k1 : wc.cell? ⟨k, 1, none⟩ = some (.int .i64 ct) := hK.cell rfl
  have k2 : wc.cell? ⟨k, 2, none⟩ = some (.int .i64 br) := hK.cell rfl
  cases b1 : betB ct 0 ((n : Int) - 1)
  · have hr : r = 3 := by rw [HR.out, if_pos (.inl b1)]
    subst hr
    rw [b1] at hw1
    clear b1
    go_wp2_with fail
    refine (hw1 _).mono ?_
    rintro e w9 ⟨rfl, rfl⟩
    go_wp2_with fail
    go_ret
    exact ⟨rfl, hb⟩
  · rw [b1] at hw1
    cases b2 : betB br 1 4
    · have hr : r = 3 := by rw [HR.out, if_pos (.inr b2)]
      subst hr
      rw [b2] at hw2
      clear b1 b2
      go_wp2_with fail
      refine (hw1 _).mono ?_
      rintro e w9 ⟨rfl, rfl⟩
      go_wp2_with fail
      refine (hw2 _).mono ?_
      rintro e w9 ⟨rfl, rfl⟩
      go_wp2_with fail
      go_ret
      exact ⟨rfl, hb⟩
    · have hr : r = 0 := by rw [HR.out, if_neg (by rw [b1, b2]; simp)]
      subst hr
      rw [b2] at hw2
      clear b1 b2
      go_wp2_with fail
      refine (hw1 _).mono ?_
      rintro e w9 ⟨rfl, rfl⟩
      go_wp2_with fail
      refine (hw2 _).mono ?_
      rintro e w9 ⟨rfl, rfl⟩
      go_wp2_with fail
      go_ret
      exact ⟨rfl, hb⟩
set_option maxRecDepth 100000 in
set_option maxHeartbeats 4000000 in
theorem Check1_any (legs souls : Int) (A : Option Addr) (n cap : Nat) (cats : List Cat) (B : Option Addr) (m cap2 : Nat) (g h k : Nat) (A3 : Option Addr) (c3 : Nat) (w : World) (hs : Sl catC 2 w All A n cap cats)
    (hg : ShpAt w g legs souls A n cap B m cap2) (hh : w.cell? ⟨h, 0, none⟩ = some (.slice A3 n c3)) (hk : k < n) (hn : n ≤ 1000000) :
    Calls Tryz.prog 169 #[.int .i64 (k : Int), .pointer (some ⟨g, 0, none⟩), .pointer (some ⟨h, 0, none⟩)] w fun e w' => e = .returned (.int .i64 (catE cats k)) ∧ Below w.heap.size w w' := by
  obtain ⟨b, off, x, c0, c1, rfl, hx, ⟨A2, n2, cap2', hcs, hs2, _⟩, e0, e1⟩ := hs.at2 hk
  simp only [List.cons.injEq, and_true] at hcs
  obtain ⟨rfl, rfl⟩ := hcs
  have hcat : catE cats k = firstE (highE n x.high) x.high.length := by unfold catE; rw [getD_of hx, hs.len]
  rw [hcat]
  have hhi := fun W hW => higher_any A2 n2 cap2' x.high n W (hs2.all intC_good (by omega) |>.bel (w' := W) hW) (by omega) (by omega)
  obtain ⟨r, hr⟩ : ∃ r, r = firstE (highE n x.high) x.high.length := ⟨_, rfl⟩
  rw [← hr] at hhi ⊢
  have HHI := Lib.hid hhi
  obtain ⟨g0, g1, g2, g3⟩ := hg.all
  have hk' : (k : Int) < n := by omega
  clear hhi hr hcat hs hs2 hx hg
  go_enter Tryz.func169, Tryz.ntmps169
  go_upto_region 1 with (fail)
  have hb := (Below.refl w.heap.size w).drew
  go_region_held3 (fun w' => w'.cell? ⟨g, 2, none⟩ = some (.slice (some ⟨b, off, none⟩) n cap) ∧ w'.cell? ⟨b, off + k * 2 + 1, none⟩ = some (.slice A2 n2 cap2') ∧ w'.cell? ⟨h, 0, none⟩ = some (.slice A3 n c3)) (first | exact ⟨g2, e1, hh⟩ | go_keep)
    (first | (go_at_call 170; refine (HHI.out _ hb).mono ?_; rintro e wq ⟨rfl, rfl⟩))
  all_goals go_wp2_with fail
  all_goals go_ret
  all_goals exact ⟨rfl, hb⟩
set_option maxRecDepth 100000 in
set_option maxHeartbeats 4000000 in
theorem Check2_any (legs souls : Int) (A : Option Addr) (n cap : Nat) (cabs : List Cab) (B : Option Addr) (m cap2 : Nat) (g k : Nat) (w : World) (hs : Sl cabC 4 w All B m cap2 cabs)
    (hg : ShpAt w g legs souls A n cap B m cap2) (hk : k < m) (hn : n ≤ 1000000) :
    Calls Tryz.prog 172 #[.int .i64 (k : Int), .pointer (some ⟨g, 0, none⟩)] w fun e w' => e = .returned (.int .i64 (cabE n (cabs.getD k default))) ∧ Below w.heap.size w w' := by
  obtain ⟨b, off, x, c0, c1, c2, c3, rfl, hx, ⟨hcs, _, i1, i2⟩, e0, e1, e2, e3⟩ := hs.at4 hk
  simp only [List.cons.injEq, and_true] at hcs
  obtain ⟨rfl, rfl, rfl, rfl⟩ := hcs
  rw [getD_of hx]
  have hca := fun W => cabin_any legs souls A n cap (.slice (some ⟨b, off, none⟩) m cap2) x W (by omega) i1 i2
  obtain ⟨r, hr⟩ : ∃ r, r = cabE n x := ⟨_, rfl⟩
  rw [← hr] at hca ⊢
  have HCA := Lib.hid hca
  obtain ⟨g0, g1, g2, g3⟩ := hg.all
  have hk' : (k : Int) < m := by omega
  have mv : ∀ {X : World} {p q : Nat} {v : Value}, Below w.heap.size w X → w.cell? ⟨p, q, none⟩ = some v → X.cell? ⟨p, q, none⟩ = some v := fun hX hc => (World.cell?_of_block (a := ⟨_, _, none⟩) (hX.block _ (cell_lt hc))).trans hc
  have HCEL := Lib.hid (fun X (hX : Below w.heap.size w X) => And.intro (mv hX g0) (And.intro (mv hX g1) (And.intro (mv hX g2) (And.intro (mv hX g3) (And.intro (mv hX e0) (And.intro (mv hX e1) (And.intro (mv hX e2) (mv hX e3))))))))
  clear hca hr hs hx hg mv
  go_enter Tryz.func172, Tryz.ntmps172
  go_upto_region 1 with (fail)
  have hb := (Below.refl w.heap.size w).drew
  go_region_held3 (fun w' => w'.cell? ⟨g, 0, none⟩ = some (.int .i64 legs) ∧ w'.cell? ⟨g, 1, none⟩ = some (.int .i64 souls) ∧ w'.cell? ⟨g, 2, none⟩ = some (.slice A n cap) ∧ w'.cell? ⟨g, 3, none⟩ = some (.slice (some ⟨b, off, none⟩) m cap2) ∧ w'.cell? ⟨b, off + k * 4, none⟩ = some (strV x.name) ∧ w'.cell? ⟨b, off + k * 4 + 1, none⟩ = some (.int .i64 x.cat) ∧ w'.cell? ⟨b, off + k * 4 + 2, none⟩ = some (.int .i64 x.ber) ∧ w'.cell? ⟨b, off + k * 4 + 3, none⟩ = some (.bool x.lev)) (first | exact HCEL.out _ hb | go_keep)
    (first | (go_at_call 173; refine (HCA.out _).mono ?_; rintro e wq ⟨rfl, hbq⟩; replace hb := hb.trans (hbq.mono hb.size)))
  all_goals go_wp2_with fail
  all_goals go_ret
  all_goals exact ⟨rfl, hb⟩
end Go.Proofs.YtoilcdgpeilgaaaGreat
namespace Go.Proofs.YtoilcdgpeilgaaaGreat
open Go.RowKit Go.Shelf
theorem nodup_le : ∀ (n : Nat) (l : List Int), l.Nodup → (∀ x ∈ l, 0 ≤ x ∧ x < n) → l.length ≤ n
  | 0, [], _, _ => Nat.le_refl _
  | 0, x :: l, _, h => by have := h x (by simp); omega
  | n + 1, l, hn, h => by
    have h1 := nodup_le n (l.erase (n : Int)) (hn.erase _) (fun x hx => by
      have h2 := h x (List.mem_of_mem_erase hx)
      have h3 : x ≠ (n : Int) := (List.Nodup.mem_erase_iff hn).1 hx |>.1
      omega)
    have h4 : l.length ≤ (l.erase (n : Int)).length + 1 := by rw [List.length_erase]; split <;> omega
    omega
theorem high_ok {n : Int} {l : List Int} (h : firstE (highE n l) l.length = 0) : (∀ x ∈ l, 0 ≤ x ∧ x < n) ∧ (l.length : Int) ≤ max n 0 := by
  have hk : ∀ k (hk : k < l.length), (0 ≤ l[k] ∧ l[k] < n) ∧ l[k] ∉ l.take k := fun k hk => by
    have := firstE_zero h k hk
    unfold highE at this
    rw [getD_at hk] at this
    by_cases h1 : betB l[k] 0 (n - 1) = false
    · rw [if_pos h1] at this; omega
    · rw [if_neg h1] at this
      have h2 := betB_iff.1 (by simpa using h1)
      by_cases h3 : (l.take k).contains l[k] = true
      · rw [if_pos h3] at this; omega
      · exact ⟨by omega, by simpa using h3⟩
  have hm : ∀ x ∈ l, 0 ≤ x ∧ x < n := fun x hx => by
    obtain ⟨k, hk1, rfl⟩ := List.getElem_of_mem hx
    exact (hk k hk1).1
  refine ⟨hm, ?_⟩
  have hnd : l.Nodup := by
    unfold List.Nodup
    rw [List.pairwise_iff_getElem]
    intro i j hi hj hij he
    exact (hk j hj).2 (by rw [← he]; exact List.mem_take_iff_getElem.2 ⟨i, by omega, rfl⟩)
  have := nodup_le n.toNat l hnd (fun x hx => by have := hm x hx; omega)
  omega
theorem okCats_of {cats : List Cat} {nms : List (List UInt8)} (h5 : cats.length ≤ 5) (h : firstE (nmE nms (catE cats)) cats.length = 0) : OkCats cats := by
  have hc : ∀ c ∈ cats, (∀ x ∈ c.high, 0 ≤ x ∧ x < cats.length) ∧ (c.high.length : Int) ≤ max (cats.length : Int) 0 := fun c hc => by
    obtain ⟨k, hk, rfl⟩ := List.getElem_of_mem hc
    have := firstE_zero h k hk
    unfold nmE at this
    by_cases h1 : nameB (nms.getD k []) = false
    · rw [if_pos h1] at this; omega
    · rw [if_neg h1] at this
      by_cases h2 : (nms.take k).contains (nms.getD k []) = true
      · rw [if_pos h2] at this; omega
      · rw [if_neg h2] at this
        unfold catE at this
        rw [getD_at hk] at this
        exact high_ok this
  refine ⟨h5, fun l hl x hx => ?_, fun c hcm => by have := (hc c hcm).2; omega⟩
  unfold higC at hl
  obtain ⟨c, hcm, rfl⟩ := List.mem_map.1 hl
  have := (hc c hcm).1 x hx
  simpa [higC] using this
theorem str_elem : ElemOf Tryz.prog 218 9 1 16 := .mk' Tryz.underlying218 (z := strV []) (by kernel_rfl) rfl (by omega)
theorem sl_str (w : World) (S : Nat → Prop) (x : List UInt8) (t : TypeId) (hx : x.length ≤ maxLen) (hS : S w.heap.size) : Sl strC 1 (w.alloc (.cells #[strV x] t)) S (some ⟨w.heap.size, 0, none⟩) 1 1 [x] :=
  Sl.lit1 w S t x [strV x] ⟨rfl, hx⟩ hS
theorem Blk.grown {w w' : World} {b : Nat} {cs : Array Value} {t : TypeId} {row : Option Nat} (h : Blk w b cs t) (hg : w.grownBy w' row) (hr : some b ≠ row) : Blk w' b cs t := (hg.block b h.lt hr).trans h
set_option maxRecDepth 100000 in
set_option maxHeartbeats 20000000 in
theorem shipCheck_any (x : Shp) (A : Option Addr) (n cap : Nat) (B : Option Addr) (m cap2 : Nat) (w : World) (hc : Sl catC 2 w All A n cap x.cats) (hb : Sl cabC 4 w All B m cap2 x.cabs) :
    Calls Tryz.prog 88 #[.agg #[.int .i64 x.legs, .int .i64 x.souls, .slice A n cap, .slice B m cap2]] w fun e w' => e = .returned (.int .i64 (shipE x)) ∧ Below w.heap.size w w' := by
  obtain ⟨legs, souls, cats, cabs⟩ := x
  simp only at hc hb ⊢
  have hcl := hc.len
  have hbl := hb.len
  obtain ⟨r, hr⟩ : ∃ r, r = shipE ⟨legs, souls, cats, cabs⟩ := ⟨_, rfl⟩
  rw [← hr]
  have HR := Lib.hid hr
  clear hr
  have HCL := Lib.hid hcl
  clear hcl
  have HBL := Lib.hid hbl
  clear hbl
  have HC := Lib.hid hc
  clear hc
  have HBB := Lib.hid hb
  clear hb
  go_enter Tryz.func88, Tryz.ntmps88
  go_upto_region 0 with (fail)
  go_cut [1, 2] (fun p _ wx => ∃ g, p = .pointer (some ⟨g, 0, none⟩) ∧ ShpAt wx g legs souls A n cap B m cap2 ∧ Below w.heap.size w wx)
  case first => as_aux_lemma =>
    go_wp2_with fail
    go_meet
    exact ⟨_, rfl, blk1 _ _, bel1 _ _⟩
  obtain ⟨g, rfl, hG, hb⟩ := hcut
  obtain ⟨g0, g1, g2, g3⟩ := hG.all
  have hw1 := fun W => legs_any legs W
  have hw2 := fun W => swithin_any souls 1 60 W
  unfold legsB at hw1
  cases b1 : betB legs 1 7
  · have hr : r = 3 := by rw [HR.out]; unfold shipE; rw [if_pos (.inl b1)]
    subst hr
    rw [b1] at hw1
    clear b1
    go_wp2_with fail
    refine (hw1 _).mono ?_
    rintro e w9 ⟨rfl, rfl⟩
    go_wp2_with fail
    go_ret
    exact ⟨rfl, hb⟩
  have HB1 := Lib.hid b1
  rw [b1] at hw1
  clear b1
  go_wp2_with fail
  refine (hw1 _).mono ?_
  rintro e w9 ⟨rfl, rfl⟩
  clear hw1
  cases b2 : betB souls 1 60
  · have hr : r = 3 := by rw [HR.out]; unfold shipE; rw [if_pos (.inr b2)]
    subst hr
    rw [b2] at hw2
    clear b2
    go_wp2_with fail
    refine (hw2 _).mono ?_
    rintro e w9 ⟨rfl, rfl⟩
    go_wp2_with fail
    go_ret
    exact ⟨rfl, hb⟩
  have hr2 := HR.out
  unfold shipE at hr2
  rw [if_neg (by rw [HB1.out, b2]; simp)] at hr2
  simp only [HCL.out, HBL.out] at hr2
  have HR2 := Lib.hid hr2
  clear hr2
  rw [b2] at hw2
  clear b2
  go_wp2_with fail
  refine (hw2 _).mono ?_
  rintro e w9 ⟨rfl, rfl⟩
  clear hw2
  by_cases h0 : 5 < n
  · have hr : r = 2 := by rw [HR2.out, if_pos (.inl h0)]
    subst hr
    go_wp2_with fail
    go_ret
    exact ⟨rfl, hb⟩
  by_cases h1 : 12 < m
  · have hr : r = 2 := by rw [HR2.out, if_pos (.inr h1)]
    subst hr
    go_wp2_with fail
    go_ret
    exact ⟨rfl, hb⟩
  have HR3 := Lib.hid (HR2.out.trans (if_neg (by omega)))
  by_cases h2 : n = 0
  · have hr : r = 5 := by rw [HR3.out, if_pos (.inl h2)]
    subst hr
    subst h2
    go_wp2_with fail
    go_ret
    exact ⟨rfl, hb⟩
  by_cases h3 : m = 0
  · have hr : r = 5 := by rw [HR3.out, if_pos (.inr h3)]
    subst hr
    subst h3
    go_wp2_with fail
    go_ret
    exact ⟨rfl, hb⟩
  have HR4 := Lib.hid (HR3.out.trans (if_neg (by omega)))
  have d1 : decide ((5 : Int) < (n : Int)) = false := decide_eq_false (by omega)
  have d2 : decide ((12 : Int) < (m : Int)) = false := decide_eq_false (by omega)
  have d3 : ((n : Int) == 0) = false := by simpa using h2
  have d4 : ((m : Int) == 0) = false := by simpa using h3
  go_upto_region 7 with (fail)
  go_cut [3, 4] (fun p v wx => ∃ h, p = .pointer (some ⟨h, 0, none⟩) ∧ v = .slice none 0 0 ∧ g < h ∧ w.heap.size ≤ h ∧ Blk wx h #[.slice none 0 0] 218 ∧ ShpAt wx g legs souls A n cap B m cap2 ∧ Below w.heap.size w wx)
  case first => as_aux_lemma =>
    go_wp2_with fail
    go_meet
    exact ⟨_, rfl, rfl, hG.lt, hb.size, blk1 _ _, hG.bel (bel1 _ _), hb.trans ((bel1 _ _).mono hb.size)⟩
  obtain ⟨h, rfl, rfl, hgh, hsh, hH, hG2, hb2⟩ := hcut
  clear hG hb g0 g1 g2 g3 d1 d2 d3 d4
  obtain ⟨g0, g1, g2, g3⟩ := hG2.all
  have hcl := HCL.out
  have HH := Lib.hid hH
  have HG := Lib.hid hG2
  have HB2 := Lib.hid hb2
  have hgl := Blk.lt hG2
  have hhl := Blk.lt hH
  obtain ⟨W1, hW1⟩ : ∃ W1, W1 = wc := ⟨_, rfl⟩
  subst hW1
  obtain ⟨BS, hBS⟩ : ∃ BS, BS = W1.heap.size := ⟨_, rfl⟩
  clear hH hG2 hb2
  have hhB : h < BS := by omega
  have HBS := Lib.hid hBS
  clear hBS
  go_upto_block 1 with (fail)
  go_cut [46] (fun _ wx => ∃ (v : Value) (xs : List Value), Blk wx h #[v] 218 ∧ Own strC 1 9 wx BS v (catNames cats) xs ∧ Below h W1 wx)
  case first => as_aux_lemma =>
    go_wp2_with fail
    go_loopg [46] n (fun gk i wr => ∃ (k : Nat) (v : Value) (xs : List Value), k ≤ n ∧ n - k ≤ gk ∧ i = .int .i64 k ∧ Blk wr h #[v] 218 ∧ Own strC 1 9 wr BS v ((catNames cats).take k) xs ∧ Below h W1 wr)
    case atStart => exact ⟨0, _, [], Nat.zero_le _, by omega, rfl, HH.out, by rw [List.take_zero]; exact Own.nil _ _ _ _ _, Below.refl _ _⟩
    case round =>
      obtain ⟨k, v, xs, hk, hgk, rfl, hbh, hown, hb⟩ := hrel
      by_cases hlt : k < n
      · obtain ⟨b, off, x, c0, c1, rfl, hx, ⟨A2, n2, cap2', hcs, hs2, hxl⟩, e0, e1⟩ := (HC.out.keep (w' := wr) (S' := All) catC_good (by omega) (fun q _ hq => ⟨(hb.block q (by omega)).trans (HB2.out.block q hq), trivial⟩)).at2 hlt
        simp only [List.cons.injEq, and_true] at hcs
        obtain ⟨rfl, rfl⟩ := hcs
        have HT := Lib.hid (show (catNames cats).take (k + 1) = (catNames cats).take k ++ [x.name] from take_snoc (by unfold catNames; rw [List.getElem?_map, hx]; rfl))
        have HL := Lib.hid (show ((catNames cats).take k).length = k by rw [List.length_take]; unfold catNames; rw [List.length_map]; omega)
        have HXL := Lib.hid hxl
        have hhr := hbh.lt
        have hsz0 := Lib.hid hb.size
        have hwr : BS ≤ wr.heap.size := by have := HBS.out; have := hsz0.out; omega
        have HBH := Lib.hid hbh
        have HOWN := Lib.hid hown
        clear hx hs2 hxl hbh hown
        go_upto_region 10 with (fail)
        go_cut [6] (fun p wx => ∃ q, p = .pointer (some ⟨q, 0, none⟩) ∧ Blk wx q #[strV x.name, .slice A2 n2 cap2'] 184 ∧ Below wr.heap.size wr wx)
        case first => as_aux_lemma =>
          go_wp2_with fail
          go_meet
          exact ⟨_, rfl, blk1 _ _, bel1 _ _⟩
        obtain ⟨q, rfl, hq, hb3⟩ := hcut
        have hb4 := hb.trans (hb3.mono (by omega))
        have hb5 := hb4.alloc (by have := hb3.size; omega) (.cells #[strV x.name] 9)
        have q0 : wc.cell? ⟨q, 0, none⟩ = some (strV x.name) := hq.cell rfl
        have hbh3 := HBH.out.bel hb3
        have h0 : wc.cell? ⟨h, 0, none⟩ = some v := hbh3.cell rfl
        have hOq := (HOWN.out.bel hb3).bel (bel1 wc (.cells #[strV x.name] 9))
        have hbh4 := hbh3.bel (bel1 wc (.cells #[strV x.name] 9))
        have hsq : BS ≤ (wc.alloc (.cells #[strV x.name] 9)).heap.size := by have := HBS.out; have := hb5.size; omega
        have HOQ := Lib.hid hOq
        have HB5 := Lib.hid hb5
        have HBH4 := Lib.hid hbh4
        clear hb hb3 hb4 hb5 hbh3 hOq hbh4 hq
        go_wp2_with (at_builtin; refine list_app (t := 218) (e := 9) (bytes := 16) rfl (.tmp 50) (.tmp 53) rfl str_elem strC_good rfl HOQ.out rfl (sl_str _ All x.name 9 HXL.out trivial) (fun _ _ hc => hc) (by rw [HL.out]; omega) (by omega) hsq ?_; intro v' w' xs' hown' hg' _; obtain ⟨A5, n5, c5, rfl, _⟩ := hown'.sl strC_good; have hbh' := HBH4.out.grown hg' (fun e => by have := (HOQ.out.lt h e.symm).1; omega); have hcell' : w'.cell? ⟨h, 0, none⟩ = some v := hbh'.cell rfl; have hfr' := hbh'.free 0; have HBE := Lib.hid (HB5.out.grown hg' (Nat.le_trans (by omega) hsq) (fun j hj => by have := (HOQ.out.lt j hj).1; omega)); have HBH5 := Lib.hid hbh'; have HOWN5 := Lib.hid hown'; clear hg' hbh' hown')
        go_roundg (n - (k + 1))
        case measure => omega
        case rel => exact ⟨k + 1, _, xs', by omega, by omega, by go_num, HBH5.out.set _, by rw [HT.out]; exact own_setCell_flat strC_flat HOWN5.out (fun e => by have := (HOWN5.out.lt h e).1; omega) _, HBE.out.setCell (Nat.le_refl _) _⟩
      · obtain rfl : k = n := by omega
        have HT := Lib.hid (show (catNames cats).take k = catNames cats from List.take_of_length_le (by unfold catNames; rw [List.length_map]; omega))
        rw [HT.out] at hown
        have HBH := Lib.hid hbh
        have HOWN := Lib.hid hown
        have HB := Lib.hid hb
        clear hbh hown hb
        go_wp2_with fail
        go_meet
        exact ⟨v, xs, HBH.out, HOWN.out, HB.out⟩
  obtain ⟨v, xs, hbh, hown, hb⟩ := hcut
  obtain ⟨A3, n3, c3, rfl, hs3⟩ := hown.sl strC_good
  obtain rfl : n3 = n := by rw [← hs3.len]; unfold catNames; rw [List.length_map]; exact HCL.out
  have HS3 := Lib.hid (hs3.all strC_good (by omega))
  have HB3 := Lib.hid (HB2.out.trans (hb.mono hsh))
  have HG3 := Lib.hid (show ShpAt wc g legs souls A n3 cap B m cap2 from (hb.block g hgh).trans HG.out)
  have HH3 := Lib.hid hbh
  obtain ⟨W2, hW2⟩ : ∃ W2, W2 = wc := ⟨_, rfl⟩
  subst hW2
  clear hown hs3 hbh hb HG HH HB2 g0 g1 g2 g3 hgl hhl HBS hhB
  obtain ⟨g0, g1, g2, g3⟩ := HG3.out.all
  have hbl := HBL.out
  go_upto_block 3 with (fail)
  go_cut [4, 59] (fun v _ wx => ∃ (xs : List Value), Own strC 1 9 wx W2.heap.size v (cabNames cabs) xs ∧ Below W2.heap.size W2 wx)
  case first => as_aux_lemma =>
    go_wp2_with fail
    go_loopg [4, 59] m (fun gk v i wr => ∃ (k : Nat) (xs : List Value), k ≤ m ∧ m - k ≤ gk ∧ i = .int .i64 k ∧ Own strC 1 9 wr W2.heap.size v ((cabNames cabs).take k) xs ∧ Below W2.heap.size W2 wr)
    case atStart => exact ⟨0, [], Nat.zero_le _, by omega, rfl, by rw [List.take_zero]; exact Own.nil _ _ _ _ _, Below.refl _ _⟩
    case round =>
      obtain ⟨k, xs, hk, hgk, rfl, hown, hb⟩ := hrel
      by_cases hlt : k < m
      · obtain ⟨b, off, x, c0, c1, c2, c3', rfl, hx, ⟨hcs, hxl, _, _⟩, e0, e1, e2, e3⟩ := (HBB.out.bel (HB3.out.trans (hb.mono HB3.out.size))).at4 hlt
        simp only [List.cons.injEq, and_true] at hcs
        obtain ⟨rfl, rfl, rfl, rfl⟩ := hcs
        have HT := Lib.hid (show (cabNames cabs).take (k + 1) = (cabNames cabs).take k ++ [x.name] from take_snoc (by unfold cabNames; rw [List.getElem?_map, hx]; rfl))
        have HL := Lib.hid (show ((cabNames cabs).take k).length = k by rw [List.length_take]; unfold cabNames; rw [List.length_map]; omega)
        have HXL := Lib.hid hxl
        have HOWN := Lib.hid hown
        obtain ⟨A5, n5, c5, rfl, _⟩ := hown.sl strC_good
        have hwr := hb.size
        clear hx hxl hown
        go_upto_region 15 with (fail)
        go_cut [8] (fun p wx => ∃ q, p = .pointer (some ⟨q, 0, none⟩) ∧ Blk wx q #[strV x.name, .int .i64 x.cat, .int .i64 x.ber, .bool x.lev] 76 ∧ Below wr.heap.size wr wx)
        case first => as_aux_lemma =>
          go_wp2_with fail
          go_meet
          exact ⟨_, rfl, blk1 _ _, bel1 _ _⟩
        obtain ⟨q, rfl, hq, hb3⟩ := hcut
        have hb4 := hb.trans (hb3.mono (by omega))
        have hb5 := hb4.alloc (by have := hb3.size; omega) (.cells #[strV x.name] 9)
        have q0 : wc.cell? ⟨q, 0, none⟩ = some (strV x.name) := hq.cell rfl
        have hOq := (HOWN.out.bel hb3).bel (bel1 wc (.cells #[strV x.name] 9))
        have hsq : W2.heap.size ≤ (wc.alloc (.cells #[strV x.name] 9)).heap.size := hb5.size
        have HOQ := Lib.hid hOq
        have HB5 := Lib.hid hb5
        clear hb hb3 hb4 hb5 hOq hq
        go_wp2_with (at_builtin; refine list_app (t := 218) (e := 9) (bytes := 16) rfl (.tmp 63) (.tmp 66) rfl str_elem strC_good rfl HOQ.out rfl (sl_str _ All x.name 9 HXL.out trivial) (fun _ _ hc => hc) (by rw [HL.out]; omega) (by omega) hsq ?_; intro v' w' xs' hown' hg' _; obtain ⟨A6, n6, c6, rfl, _⟩ := hown'.sl strC_good; have HBE := Lib.hid (HB5.out.grown hg' hsq (fun j hj => (HOQ.out.lt j hj).1)); have HOWN5 := Lib.hid hown'; clear hg' hown')
        go_roundg (m - (k + 1))
        case measure => omega
        case rel => exact ⟨k + 1, xs', by omega, by omega, by go_num, by rw [HT.out]; exact HOWN5.out, HBE.out⟩
      · obtain rfl : k = m := by omega
        have HT := Lib.hid (show (cabNames cabs).take k = cabNames cabs from List.take_of_length_le (by unfold cabNames; rw [List.length_map]; omega))
        rw [HT.out] at hown
        have HOWN := Lib.hid hown
        have HB := Lib.hid hb
        clear hown hb
        go_wp2_with fail
        go_meet
        exact ⟨xs, HOWN.out, HB.out⟩
  obtain ⟨xs, hown, hb⟩ := hcut
  obtain ⟨A4, n4, c4, rfl, hs4⟩ := hown.sl strC_good
  obtain rfl : n4 = m := by rw [← hs4.len]; unfold cabNames; rw [List.length_map]; exact HBL.out
  have HB4 := Lib.hid (HB3.out.trans (hb.mono HB3.out.size))
  have HS4 := Lib.hid (hs4.all strC_good (by omega))
  have HG4 := Lib.hid (HG3.out.bel hb)
  have HS5 := Lib.hid (HS3.out.bel hb)
  have hH4 := HH3.out.bel hb
  have h0c : wc.cell? ⟨h, 0, none⟩ = some (.slice A3 n3 c3) := hH4.cell rfl
  have HH4 := Lib.hid hH4
  have hcl := HCL.out
  clear hown hs4 hb hH4 HB3 HS3 HG3 HH3 g0 g1 g2 g3
  obtain ⟨W3, hW3⟩ : ∃ W3, W3 = wc := ⟨_, rfl⟩
  subst hW3
  have mv : ∀ {X : World} {p q : Nat} {v : Value}, Below W3.heap.size W3 X → W3.cell? ⟨p, q, none⟩ = some v → X.cell? ⟨p, q, none⟩ = some v := fun hX hc => (World.cell?_of_block (a := ⟨_, _, none⟩) (hX.block _ (cell_lt hc))).trans hc
  have hn1 := names_any A3 n3 c3 (catNames cats) 169 #[.pointer (some ⟨g, 0, none⟩), .pointer (some ⟨h, 0, none⟩)] (catE cats) W3 HS5.out (enters_of Tryz.func169 (by kernel_rfl) rfl)
    (fun k w1 hk hbx => by simpa using Check1_any legs souls A n3 cap cats B n4 cap2 g h k A3 c3 w1 (HC.out.bel (HB4.out.trans (hbx.mono HB4.out.size))) (HG4.out.bel hbx) (mv hbx (HH4.out.cell rfl)) hk (by omega))
  have hn2 := fun W (hX : Below W3.heap.size W3 W) => names_any A4 n4 c4 (cabNames cabs) 172 #[.pointer (some ⟨g, 0, none⟩)] (fun k => cabE n3 (cabs.getD k default)) W (HS4.out.bel hX) (enters_of Tryz.func172 (by kernel_rfl) rfl)
    (fun k w1 hk hbx => by simpa using Check2_any legs souls A n3 cap cabs B n4 cap2 g k w1 ((HBB.out.bel (HB4.out.trans (hX.mono HB4.out.size))).bel hbx) ((HG4.out.bel hX).bel hbx) hk (by omega))
  rw [show (catNames cats).length = n3 by unfold catNames; rw [List.length_map]; exact hcl] at hn1
  rw [show (cabNames cabs).length = n4 by unfold cabNames; rw [List.length_map]; exact hbl] at hn2
  obtain ⟨e1, he1⟩ : ∃ e1, e1 = firstE (nmE (catNames cats) (catE cats)) n3 := ⟨_, rfl⟩
  obtain ⟨e2, he2⟩ : ∃ e2, e2 = firstE (nmE (cabNames cabs) (fun k => cabE n3 (cabs.getD k default))) n4 := ⟨_, rfl⟩
  obtain ⟨q, hq⟩ : ∃ q, q = rndB (higC cats) n3 := ⟨_, rfl⟩
  have hr5 := HR4.out
  rw [← he1] at hn1 hr5
  rw [← he2] at hn2 hr5
  rw [← hq] at hr5
  have HOK := Lib.hid (fun (h0 : e1 = 0) => okCats_of (cats := cats) (nms := catNames cats) (by omega) (by rw [hcl, ← he1]; exact h0))
  have HRD := Lib.hid (fun W hW ho => round_any legs souls A n3 cap cats (.slice B n4 cap2) W hW ho)
  rw [← hq] at HRD
  have HN1 := Lib.hid hn1
  clear hn1
  have HN2 := Lib.hid hn2
  clear hn2
  have HR5 := Lib.hid hr5
  clear hr5
  clear HR HR2 HR3 HR4 he1 he2 hq mv hcl hbl h0 h1 h2 h3 h0c
  have h0c : W3.cell? ⟨h, 0, none⟩ = some (.slice A3 n3 c3) := HH4.out.cell rfl
  go_wp2_with fail
  refine HN1.out.mono ?_
  rintro e w5 ⟨rfl, hb5⟩
  by_cases hz : e1 = 0
  · subst hz
    obtain ⟨g0, g1, g2, g3⟩ := (HG4.out.bel hb5).all
    have hrd := HRD.out w5 (HC.out.bel (HB4.out.trans (hb5.mono HB4.out.size))) (HOK.out rfl)
    have HRND := Lib.hid hrd
    clear hrd
    have HR6 := Lib.hid (show r = if q = true then 4 else e2 from HR5.out.trans (if_neg (by simp)))
    go_wp2_with fail
    refine HRND.out.mono ?_
    rintro e w6 ⟨rfl, hb6⟩
    have hb7 := hb5.trans (hb6.mono hb5.size)
    clear g0 g1 g2 g3 hb5 hb6
    cases q
    · have hr : r = e2 := HR6.out
      subst hr
      go_wp2_with fail
      refine (HN2.out _ hb7).mono ?_
      rintro e w8 ⟨rfl, hb8⟩
      have hb9 := Lib.hid (HB4.out.trans ((hb7.trans (hb8.mono hb7.size)).mono HB4.out.size))
      clear hb8 hb7
      go_wp2_with fail
      go_ret
      exact ⟨rfl, hb9.out⟩
    · have hr : r = 4 := HR6.out
      subst hr
      have hb9 := Lib.hid (HB4.out.trans (hb7.mono HB4.out.size))
      clear hb7
      go_wp2_with fail
      go_ret
      exact ⟨rfl, hb9.out⟩
  · have hr : r = e1 := HR5.out.trans (if_pos hz)
    subst hr
    have hz' : (r == 0) = false := by simpa using hz
    have hb9 := Lib.hid (HB4.out.trans (hb5.mono HB4.out.size))
    clear hz hb5
    go_wp2_with fail
    go_ret
    exact ⟨rfl, hb9.out⟩
end Go.Proofs.YtoilcdgpeilgaaaGreat
namespace Go.Proofs.YtoilcdgpeilgaaaGreat
open Go.RowKit Go.Shelf
def srvB (C : List (List Int)) (a b : Nat) : Bool := decide (a = b) || decide (Srv C a b)
structure OkShp (x : Shp) : Prop where
  legs : betB x.legs 1 7 = true
  souls : betB x.souls 1 60 = true
  cats5 : x.cats.length ≤ 5
  cats0 : 0 < x.cats.length
  cabs12 : x.cabs.length ≤ 12
  cabs0 : 0 < x.cabs.length
  ok : OkCats x.cats
  rnd : ∀ k, ¬ Srv (higC x.cats) k k
  names : firstE (nmE (catNames x.cats) (catE x.cats)) x.cats.length = 0
  cabs : firstE (nmE (cabNames x.cabs) (fun k => cabE x.cats.length (x.cabs.getD k default))) x.cabs.length = 0
theorem higC_len (cats : List Cat) : (higC cats).length = cats.length := by unfold higC; rw [List.length_map]
theorem shp_ok {x : Shp} (h : shipE x = 0) : OkShp x := by
  unfold shipE at h
  by_cases h1 : betB x.legs 1 7 = false ∨ betB x.souls 1 60 = false
  · rw [if_pos h1] at h; omega
  rw [if_neg h1] at h
  by_cases h2 : 5 < x.cats.length ∨ 12 < x.cabs.length
  · rw [if_pos h2] at h; omega
  rw [if_neg h2] at h
  by_cases h3 : x.cats.length = 0 ∨ x.cabs.length = 0
  · rw [if_pos h3] at h; omega
  rw [if_neg h3] at h
  by_cases h4 : firstE (nmE (catNames x.cats) (catE x.cats)) x.cats.length ≠ 0
  · rw [if_pos h4] at h; exact absurd h h4
  rw [if_neg h4] at h
  by_cases h5 : rndB (higC x.cats) x.cats.length = true
  · rw [if_pos h5] at h; omega
  rw [if_neg h5] at h
  have hok := okCats_of (cats := x.cats) (nms := catNames x.cats) (by omega) (by simpa using h4)
  refine ⟨?_, ?_, by omega, by omega, by omega, by omega, hok, fun k => rndB_none hok.inC (by rw [higC_len]; simpa using h5) k, by simpa using h4, h⟩
  · cases hh : betB x.legs 1 7
    · exact absurd (.inl hh) h1
    · rfl
  · cases hh : betB x.souls 1 60
    · exact absurd (.inr hh) h1
    · rfl
set_option maxRecDepth 100000 in
set_option maxHeartbeats 4000000 in
theorem May_any (legs souls : Int) (A : Option Addr) (n cap : Nat) (cats : List Cat) (vc : Value) (a b : Nat) (w : World) (h : Sl catC 2 w All A n cap cats) (ho : OkCats cats) (ha : a < n) (hb : b < n) :
    Calls Tryz.prog 130 #[.agg #[.int .i64 legs, .int .i64 souls, .slice A n cap, vc], .int .i64 (a : Int), .int .i64 (b : Int)] w fun e w' => e = .returned (.bool (srvB (higC cats) a b)) ∧ Below w.heap.size w w' := by
  have hl := h.len
  have h5 := ho.five
  have hn5 : n ≤ 5 := by omega
  have hab := fun W hW => above_any legs souls A n cap cats vc b W hW ho hb
  have HAB := Lib.hid hab
  clear hab
  have HSL := Lib.hid h
  obtain ⟨r, hr⟩ : ∃ r, r = srvB (higC cats) a b := ⟨_, rfl⟩
  rw [← hr]
  have HR := Lib.hid hr
  clear hr
  clear h hl h5
  go_enter Tryz.func130, Tryz.ntmps130
  go_upto_region 0 with (fail)
  go_cut [3, 6] (fun p _ wx => ∃ g, p = .pointer (some ⟨g, 0, none⟩) ∧ Blk wx g #[.int .i64 legs, .int .i64 souls, .slice A n cap, vc] 25 ∧ Below w.heap.size w wx)
  case first => as_aux_lemma =>
    go_wp2_with fail
    go_meet
    exact ⟨_, rfl, blk1 _ _, bel1 _ _⟩
  obtain ⟨g, rfl, hB, hb1⟩ := hcut
  have c0 : wc.cell? ⟨g, 0, none⟩ = some (.int .i64 legs) := hB.cell rfl
  have c1 : wc.cell? ⟨g, 1, none⟩ = some (.int .i64 souls) := hB.cell rfl
  have c2 : wc.cell? ⟨g, 2, none⟩ = some (.slice A n cap) := hB.cell rfl
  have c3 : wc.cell? ⟨g, 3, none⟩ = some vc := hB.cell rfl
  by_cases he : a = b
  · subst he
    have hr : r = true := by rw [HR.out]; unfold srvB; rw [decide_eq_true rfl]; rfl
    subst hr
    go_wp2_with fail
    go_ret
    exact ⟨rfl, hb1⟩
  · have hne : ((a : Int) == (b : Int)) = false := by rw [beq_eq_false_iff_ne]; omega
    have HR2 := Lib.hid (show r = decide (Srv (higC cats) a b) by rw [HR.out]; unfold srvB; rw [decide_eq_false he]; rfl)
    have hcall := HAB.out wc (HSL.out.bel hb1)
    have HCALL := Lib.hid hcall
    clear hcall
    clear he
    go_wp2_with fail
    refine HCALL.out.mono ?_
    rintro e w2 ⟨G, m, rfl, hrow, hml, hsrv, hlow, hb3⟩
    have e0 := hrow.cell (i := a) (by omega)
    obtain ⟨v, hv⟩ : ∃ v, v = m.getD a 0 := ⟨_, rfl⟩
    rw [← hv] at e0
    have hs := hsrv a
    rw [← hv] at hs
    have hb4 := hb1.trans (hb3.mono hb1.size)
    have HS := Lib.hid hs
    clear hs
    clear hsrv hlow hrow hb3 hv
    go_wp2_with fail
    go_ret
    refine ⟨retB ?_, hb4⟩
    rw [HR2.out]
    by_cases h0 : 0 < v
    · rw [decide_eq_true h0, decide_eq_true (HS.out.1 h0)]
    · rw [decide_eq_false h0, decide_eq_false (fun h => h0 (HS.out.2 h))]
end Go.Proofs.YtoilcdgpeilgaaaGreat
namespace Go.Proofs.YtoilcdgpeilgaaaGreat
open Go.RowKit Go.Shelf
def ptrC (n : Nat) : Cod Nat := fun _ _ b cs => cs = [.slice (some ⟨b, 0, none⟩) n n]
theorem ptrC_flat (n : Nat) : Flat (ptrC n) := fun _ _ _ _ _ _ h => h
theorem ptrC_good (n : Nat) : Good (ptrC n) := .of_flat (ptrC_flat n) fun h u hu => by cases h; simp at hu; subst hu; rfl
instance ptrK (n : Nat) : CodK (ptrC n) 1 := ⟨ptrC_good n, by omega⟩
def rowV (n : Nat) (f : Nat → Bool) : Array Value := ((List.range n).map (fun b => Value.bool (f b))).toArray
theorem rowV_set {n : Nat} {f : Nat → Bool} {j : Nat} (v : Bool) : (rowV n f).set! j (.bool v) = rowV n (fun b => if b = j then v else f b) := by
  unfold rowV
  apply Array.ext'
  simp only [Array.set!_eq_setIfInBounds, List.setIfInBounds_toArray]
  apply List.ext_getElem?
  intro i
  rw [List.getElem?_set]
  simp only [List.length_map, List.length_range, List.getElem?_map]
  by_cases h : j = i
  · subst h
    by_cases hj : j < n
    · rw [if_pos rfl, if_pos hj, List.getElem?_range hj]; simp
    · rw [if_pos rfl, if_neg hj, List.getElem?_eq_none (by simpa using hj)]; rfl
  · rw [if_neg h]
    cases hr : (List.range n)[i]? with
    | none => rfl
    | some b =>
      have hb : b = i := by
        have h1 := (List.getElem?_eq_some_iff.1 hr).2
        simpa using h1.symm
      subst hb
      simp only [Option.map_some]
      rw [if_neg (fun e => h e.symm)]
theorem rowV_congr {n : Nat} {f g : Nat → Bool} (h : ∀ j, j < n → f j = g j) : rowV n f = rowV n g := by
  unfold rowV
  congr 1
  exact List.map_congr_left fun j hj => by rw [h j (List.mem_range.1 hj)]
theorem nodup_inj {l : List Nat} (h : l.Nodup) {i j x : Nat} (hi : l[i]? = some x) (hj : l[j]? = some x) : i = j := by
  have hp := List.pairwise_iff_getElem.1 h
  obtain ⟨h1, e1⟩ := List.getElem?_eq_some_iff.1 hi
  obtain ⟨h2, e2⟩ := List.getElem?_eq_some_iff.1 hj
  rcases Nat.lt_trichotomy i j with hlt | he | hlt
  · exact absurd (e1.trans e2.symm) (hp i j h1 h2 hlt)
  · exact he
  · exact absurd (e2.trans e1.symm) (hp j i h2 h1 hlt)
structure TabB (w : World) (base n : Nat) (v : Value) (bls : List Nat) (T : Nat → Nat → Bool) : Prop where
  own : ∃ xs, Own (ptrC n) 1 235 w base v bls xs
  nod : bls.Nodup
  row : ∀ (a b : Nat), bls[a]? = some b → base ≤ b ∧ some b ≠ v.ownBlock ∧ Blk w b (rowV n (T a)) 4
theorem TabB.bel {w w' : World} {base n : Nat} {v : Value} {bls : List Nat} {T : Nat → Nat → Bool} (h : TabB w base n v bls T) (hb : Below w.heap.size w w') : TabB w' base n v bls T := by
  obtain ⟨⟨xs, ho⟩, h2, h3⟩ := h
  exact ⟨⟨xs, ho.bel hb⟩, h2, fun a b hab => ⟨(h3 a b hab).1, (h3 a b hab).2.1, (h3 a b hab).2.2.bel hb⟩⟩
theorem TabB.congr {w : World} {base n : Nat} {v : Value} {bls : List Nat} {T T' : Nat → Nat → Bool} (h : TabB w base n v bls T) (ht : ∀ a j, a < bls.length → j < n → T a j = T' a j) : TabB w base n v bls T' := by
  obtain ⟨h1, h2, h3⟩ := h
  refine ⟨h1, h2, fun a b hab => ⟨(h3 a b hab).1, (h3 a b hab).2.1, ?_⟩⟩
  rw [← rowV_congr (fun j hj => ht a j (List.getElem?_eq_some_iff.1 hab).1 hj)]
  exact (h3 a b hab).2.2
theorem TabB.form {w : World} {base n : Nat} {v : Value} {bls : List Nat} {T : Nat → Nat → Bool} (h : TabB w base n v bls T) (hn : 0 < bls.length) : ∃ o cap, v = .slice (some ⟨o, 0, none⟩) bls.length cap ∧ base ≤ o ∧ o < w.heap.size ∧ bls.length ≤ cap := by
  obtain ⟨⟨xs, ho⟩, _, _⟩ := h
  rcases ho.row.2 with ⟨hv, h0⟩ | ⟨g, cap, cur, hv, hb, hg, hnc, _⟩
  · omega
  · exact ⟨g, cap, hv, hb, (Array.getElem?_eq_some_iff.1 hg).1, hnc⟩
theorem TabB.outer {w : World} {base n m cap o : Nat} {bls : List Nat} {T : Nat → Nat → Bool} (h : TabB w base n (.slice (some ⟨o, 0, none⟩) m cap) bls T) {a b : Nat} (hab : bls[a]? = some b) : w.cell? ⟨o, a, none⟩ = some (.slice (some ⟨b, 0, none⟩) n n) := by
  obtain ⟨⟨xs, ho⟩, _, _⟩ := h
  obtain ⟨A, n2, c2, he, hs⟩ := ho.sl (ptrC_good n)
  injection he with e1 e2 e3
  subst e1 e2 e3
  obtain ⟨b', off, cs, hA, _, hc, hl, hcell⟩ := hs.rd a b hab
  injection hA with hA
  injection hA with h1 h2 _
  subst h1 h2
  cases hc
  simpa using hcell 0 _ rfl
theorem TabB.free {w : World} {base n : Nat} {v : Value} {bls : List Nat} {T : Nat → Nat → Bool} (h : TabB w base n v bls T) {a b : Nat} (hab : bls[a]? = some b) (j : Nat) : w.frozen? ⟨b, j, none⟩ = false := (h.row a b hab).2.2.free j
theorem TabB.set {w : World} {base n : Nat} {v : Value} {bls : List Nat} {T : Nat → Nat → Bool} (h : TabB w base n v bls T) {i bi : Nat} (hi : bls[i]? = some bi) (j : Nat) (u : Bool) :
    TabB (w.setCell ⟨bi, j, none⟩ (.bool u)) base n v bls (fun a b => if a = i ∧ b = j then u else T a b) := by
  obtain ⟨⟨xs, ho⟩, h2, h3⟩ := h
  refine ⟨⟨xs, own_setCell_flat (ptrC_flat n) ho (fun e => (h3 i bi hi).2.1 e.symm) _⟩, h2, fun a b hab => ⟨(h3 a b hab).1, (h3 a b hab).2.1, ?_⟩⟩
  by_cases he : a = i
  · subst he
    obtain rfl : b = bi := by rw [hab] at hi; injection hi
    have := Blk.set (j := j) (h3 a b hab).2.2 (.bool u)
    rw [rowV_set] at this
    rw [rowV_congr (g := fun b => if b = j then u else T a b) (fun k _ => by simp)]
    exact this
  · have hne : bi ≠ b := fun e => he (by
      subst e
      exact nodup_inj h2 hab hi)
    rw [rowV_congr (g := T a) (fun k _ => by simp [he])]
    exact (h3 a b hab).2.2.other hne _
end Go.Proofs.YtoilcdgpeilgaaaGreat
namespace Go.Proofs.YtoilcdgpeilgaaaGreat
open Go.RowKit Go.Shelf
def vesselX : Shp := ⟨3, 6, [⟨[73, 78], [1]⟩, ⟨[79, 85, 84], [2]⟩, ⟨[83, 85, 73, 84, 69], []⟩], [⟨[65, 49], 0, 2, false⟩, ⟨[66, 49], 1, 4, true⟩, ⟨[67, 49], 2, 2, false⟩]⟩
theorem mlen {n : Nat} (h : n ≤ 1000) : n ≤ maxLen := by simp only [maxLen]; omega
theorem vessel_e : shipE vesselX = 0 := by decide
end Go.Proofs.YtoilcdgpeilgaaaGreat
