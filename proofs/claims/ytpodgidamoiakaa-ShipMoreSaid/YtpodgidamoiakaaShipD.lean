/-
  Ships: cabins; what names are asked for besides (Check$1, Check$2).
-/
import Derived.Test.YtpodgidamoiakaaShipC
namespace Go.Proofs.Ytpodgidamoiakaa
open Go.RowKit Go.Shelf

def cabE (n : Int) (x : Cab) : Int := if betB x.cat 0 (n - 1) = false ∨ betB x.ber 1 4 = false then 3 else 0
def catNames (cats : List Cat) : List (List UInt8) := cats.map (·.name)
def cabNames (cabs : List Cab) : List (List UInt8) := cabs.map (·.name)
def catE (cats : List Cat) (k : Nat) : Int := firstE (highE cats.length (cats.getD k default).high) (cats.getD k default).high.length
/-- What is wrong with a ship. -/
def shipE (x : Shp) : Int :=
  if betB x.legs 1 7 = false ∨ betB x.souls 1 60 = false then 3 else
  if 5 < x.cats.length ∨ 12 < x.cabs.length then 2 else
  if x.cats.length = 0 ∨ x.cabs.length = 0 then 5 else
  if firstE (nmE (catNames x.cats) (catE x.cats)) x.cats.length ≠ 0 then firstE (nmE (catNames x.cats) (catE x.cats)) x.cats.length else
  if rndB (higC x.cats) x.cats.length = true then 4 else
  firstE (nmE (cabNames x.cabs) (fun k => cabE x.cats.length (x.cabs.getD k default))) x.cabs.length

/-- A block that holds a ship, as its parts are. -/
def ShpAt (w : World) (g : Nat) (legs souls : Int) (A : Option Addr) (n cap : Nat) (B : Option Addr) (m cap2 : Nat) : Prop :=
  Blk w g #[.int .i64 legs, .int .i64 souls, .slice A n cap, .slice B m cap2] 25
theorem ShpAt.bel {w w' : World} {g : Nat} {legs souls : Int} {A : Option Addr} {n cap : Nat} {B : Option Addr} {m cap2 : Nat} (h : ShpAt w g legs souls A n cap B m cap2) (hb : Below w.heap.size w w') : ShpAt w' g legs souls A n cap B m cap2 := Blk.bel h hb
theorem ShpAt.all {w : World} {g : Nat} {legs souls : Int} {A : Option Addr} {n cap : Nat} {B : Option Addr} {m cap2 : Nat} (h : ShpAt w g legs souls A n cap B m cap2) :
    w.cell? ⟨g, 0, none⟩ = some (.int .i64 legs) ∧ w.cell? ⟨g, 1, none⟩ = some (.int .i64 souls) ∧ w.cell? ⟨g, 2, none⟩ = some (.slice A n cap) ∧ w.cell? ⟨g, 3, none⟩ = some (.slice B m cap2) :=
  ⟨Blk.cell h rfl, Blk.cell h rfl, Blk.cell h rfl, Blk.cell h rfl⟩

set_option maxRecDepth 100000 in
set_option maxHeartbeats 4000000 in
theorem cabin_any (legs souls : Int) (A : Option Addr) (n cap : Nat) (vc : Value) (x : Cab) (w : World) (hn : n ≤ 1000000000) (h1 : InI x.cat) (h2 : InI x.ber) :
    Calls Try.prog 58 #[.agg #[.int .i64 legs, .int .i64 souls, .slice A n cap, vc], .agg #[strV x.name, .int .i64 x.cat, .int .i64 x.ber, .bool x.lev]] w fun e w' => e = .returned (.int .i64 (cabE n x)) ∧ Below w.heap.size w w' := by
  obtain ⟨nm, ct, br, lv⟩ := x
  simp only at h1 h2 ⊢
  obtain ⟨r, hr⟩ : ∃ r, r = cabE n ⟨nm, ct, br, lv⟩ := ⟨_, rfl⟩
  rw [← hr]
  have HR := Lib.hid (show r = if betB ct 0 ((n : Int) - 1) = false ∨ betB br 1 4 = false then 3 else 0 from hr)
  clear hr
  have hw1 := fun W => swithin_any ct 0 ((n : Int) - 1) W
  have hw2 := fun W => swithin_any br 1 4 W
  go_enter Try.func58, Try.ntmps58
  go_upto_region 0 with (fail)
  go_cut [2, 3, 4] (fun p q _ wx => ∃ g k, p = .pointer (some ⟨g, 0, none⟩) ∧ q = .pointer (some ⟨k, 0, none⟩) ∧ Blk wx g #[.int .i64 legs, .int .i64 souls, .slice A n cap, vc] 25 ∧ Blk wx k #[strV nm, .int .i64 ct, .int .i64 br, .bool lv] 82 ∧ Below w.heap.size w wx)
  case first => as_aux_lemma =>
    go_wp2_with fail
    go_meet
    exact ⟨_, _, rfl, rfl, blk2_0 _ _ _, blk2_1 _ _ _, bel2 _ _ _⟩
  obtain ⟨g, k, rfl, rfl, hG, hK, hb⟩ := hcut
  have g2 : wc.cell? ⟨g, 2, none⟩ = some (.slice A n cap) := hG.cell rfl
  have k1 : wc.cell? ⟨k, 1, none⟩ = some (.int .i64 ct) := hK.cell rfl
  have k2 : wc.cell? ⟨k, 2, none⟩ = some (.int .i64 br) := hK.cell rfl
  cases b1 : betB ct 0 ((n : Int) - 1)
  · have hr : r = 3 := by rw [HR.out, if_pos (.inl b1)]
    subst hr
    rw [b1] at hw1
    clear b1
    go_wp2_with fail
    refine (hw1 _).mono ?_
    rintro e w9 ⟨rfl, rfl⟩
    go_wp2_with fail
    go_ret
    exact ⟨rfl, hb⟩
  · rw [b1] at hw1
    cases b2 : betB br 1 4
    · have hr : r = 3 := by rw [HR.out, if_pos (.inr b2)]
      subst hr
      rw [b2] at hw2
      clear b1 b2
      go_wp2_with fail
      refine (hw1 _).mono ?_
      rintro e w9 ⟨rfl, rfl⟩
      go_wp2_with fail
      refine (hw2 _).mono ?_
      rintro e w9 ⟨rfl, rfl⟩
      go_wp2_with fail
      go_ret
      exact ⟨rfl, hb⟩
    · have hr : r = 0 := by rw [HR.out, if_neg (by rw [b1, b2]; simp)]
      subst hr
      rw [b2] at hw2
      clear b1 b2
      go_wp2_with fail
      refine (hw1 _).mono ?_
      rintro e w9 ⟨rfl, rfl⟩
      go_wp2_with fail
      refine (hw2 _).mono ?_
      rintro e w9 ⟨rfl, rfl⟩
      go_wp2_with fail
      go_ret
      exact ⟨rfl, hb⟩

set_option maxRecDepth 100000 in
set_option maxHeartbeats 4000000 in
theorem Check1_any (legs souls : Int) (A : Option Addr) (n cap : Nat) (cats : List Cat) (B : Option Addr) (m cap2 : Nat) (g h k : Nat) (A3 : Option Addr) (c3 : Nat) (w : World) (hs : Sl catC 2 w All A n cap cats)
    (hg : ShpAt w g legs souls A n cap B m cap2) (hh : w.cell? ⟨h, 0, none⟩ = some (.slice A3 n c3)) (hk : k < n) (hn : n ≤ 1000000) :
    Calls Try.prog 54 #[.int .i64 (k : Int), .pointer (some ⟨g, 0, none⟩), .pointer (some ⟨h, 0, none⟩)] w fun e w' => e = .returned (.int .i64 (catE cats k)) ∧ Below w.heap.size w w' := by
  obtain ⟨b, off, x, c0, c1, rfl, hx, ⟨A2, n2, cap2', hcs, hs2, _⟩, e0, e1⟩ := hs.at2 hk
  simp only [List.cons.injEq, and_true] at hcs
  obtain ⟨rfl, rfl⟩ := hcs
  have hcat : catE cats k = firstE (highE n x.high) x.high.length := by unfold catE; rw [getD_of hx, hs.len]
  rw [hcat]
  have hhi := fun W hW => higher_any A2 n2 cap2' x.high n W (hs2.all intC_good (by omega) |>.bel (w' := W) hW) (by omega) (by omega)
  obtain ⟨r, hr⟩ : ∃ r, r = firstE (highE n x.high) x.high.length := ⟨_, rfl⟩
  rw [← hr] at hhi ⊢
  have HHI := Lib.hid hhi
  obtain ⟨g0, g1, g2, g3⟩ := hg.all
  have hk' : (k : Int) < n := by omega
  clear hhi hr hcat hs hs2 hx hg
  go_enter Try.func54, Try.ntmps54
  go_upto_region 1 with (fail)
  have hb := (Below.refl w.heap.size w).drew
  go_region_held3 (fun w' => w'.cell? ⟨g, 2, none⟩ = some (.slice (some ⟨b, off, none⟩) n cap) ∧ w'.cell? ⟨b, off + k * 2 + 1, none⟩ = some (.slice A2 n2 cap2') ∧ w'.cell? ⟨h, 0, none⟩ = some (.slice A3 n c3)) (first | exact ⟨g2, e1, hh⟩ | go_keep)
    (first | (go_at_call 55; refine (HHI.out _ hb).mono ?_; rintro e wq ⟨rfl, rfl⟩))
  all_goals go_wp2_with fail
  all_goals go_ret
  all_goals exact ⟨rfl, hb⟩

set_option maxRecDepth 100000 in
set_option maxHeartbeats 4000000 in
theorem Check2_any (legs souls : Int) (A : Option Addr) (n cap : Nat) (cabs : List Cab) (B : Option Addr) (m cap2 : Nat) (g k : Nat) (w : World) (hs : Sl cabC 4 w All B m cap2 cabs)
    (hg : ShpAt w g legs souls A n cap B m cap2) (hk : k < m) (hn : n ≤ 1000000) :
    Calls Try.prog 57 #[.int .i64 (k : Int), .pointer (some ⟨g, 0, none⟩)] w fun e w' => e = .returned (.int .i64 (cabE n (cabs.getD k default))) ∧ Below w.heap.size w w' := by
  obtain ⟨b, off, x, c0, c1, c2, c3, rfl, hx, ⟨hcs, _, i1, i2⟩, e0, e1, e2, e3⟩ := hs.at4 hk
  simp only [List.cons.injEq, and_true] at hcs
  obtain ⟨rfl, rfl, rfl, rfl⟩ := hcs
  rw [getD_of hx]
  have hca := fun W => cabin_any legs souls A n cap (.slice (some ⟨b, off, none⟩) m cap2) x W (by omega) i1 i2
  obtain ⟨r, hr⟩ : ∃ r, r = cabE n x := ⟨_, rfl⟩
  rw [← hr] at hca ⊢
  have HCA := Lib.hid hca
  obtain ⟨g0, g1, g2, g3⟩ := hg.all
  have hk' : (k : Int) < m := by omega
  have mv : ∀ {X : World} {p q : Nat} {v : Value}, Below w.heap.size w X → w.cell? ⟨p, q, none⟩ = some v → X.cell? ⟨p, q, none⟩ = some v := fun hX hc => (World.cell?_of_block (a := ⟨_, _, none⟩) (hX.block _ (cell_lt hc))).trans hc
  have HCEL := Lib.hid (fun X (hX : Below w.heap.size w X) => And.intro (mv hX g0) (And.intro (mv hX g1) (And.intro (mv hX g2) (And.intro (mv hX g3) (And.intro (mv hX e0) (And.intro (mv hX e1) (And.intro (mv hX e2) (mv hX e3))))))))
  clear hca hr hs hx hg mv
  go_enter Try.func57, Try.ntmps57
  go_upto_region 1 with (fail)
  have hb := (Below.refl w.heap.size w).drew
  go_region_held3 (fun w' => w'.cell? ⟨g, 0, none⟩ = some (.int .i64 legs) ∧ w'.cell? ⟨g, 1, none⟩ = some (.int .i64 souls) ∧ w'.cell? ⟨g, 2, none⟩ = some (.slice A n cap) ∧ w'.cell? ⟨g, 3, none⟩ = some (.slice (some ⟨b, off, none⟩) m cap2) ∧ w'.cell? ⟨b, off + k * 4, none⟩ = some (strV x.name) ∧ w'.cell? ⟨b, off + k * 4 + 1, none⟩ = some (.int .i64 x.cat) ∧ w'.cell? ⟨b, off + k * 4 + 2, none⟩ = some (.int .i64 x.ber) ∧ w'.cell? ⟨b, off + k * 4 + 3, none⟩ = some (.bool x.lev)) (first | exact HCEL.out _ hb | go_keep)
    (first | (go_at_call 58; refine (HCA.out _).mono ?_; rintro e wq ⟨rfl, hbq⟩; replace hb := hb.trans (hbq.mono hb.size)))
  all_goals go_wp2_with fail
  all_goals go_ret
  all_goals exact ⟨rfl, hb⟩
end Go.Proofs.Ytpodgidamoiakaa
