/-
  Matchings: the reference looks for somebody (grow).
-/
import Derived.Test.YtpodgidamoiakaaMatchA
namespace Go.Proofs.Ytpodgidamoiakaa
open Go.RowKit Go.Shelf

structure Edg where
  lft : Int
  rgt : Int
  deriving DecidableEq, Inhabited
def edgC : Cod Edg := fun _ _ x cs => cs = [.int .i64 x.lft, .int .i64 x.rgt] ∧ InI x.lft ∧ InI x.rgt
theorem edgC_flat : Flat edgC := fun _ _ _ _ _ _ h => h
theorem edgC_good : Good edgC := .of_flat edgC_flat fun h u hu => by obtain ⟨rfl, _⟩ := h; simp at hu; rcases hu with rfl | rfl <;> rfl
instance edgK : CodK edgC 2 := ⟨edgC_good, by omega⟩

/-- Whom each left one may have, by the edges. -/
def nbrs (l : List Edg) (d : Nat) : List Nat := (l.filter (fun x => decide (x.lft = (d : Int)))).map (fun x => x.rgt.toNat)
theorem nbrs_snoc (l : List Edg) (x : Edg) (d : Nat) : nbrs (l ++ [x]) d = if x.lft = (d : Int) then nbrs l d ++ [x.rgt.toNat] else nbrs l d := by
  unfold nbrs
  rw [List.filter_append, List.map_append]
  by_cases h : x.lft = (d : Int)
  · rw [if_pos h]; simp [h]
  · rw [if_neg h]; simp [h]
theorem nbrs_mem {l : List Edg} {x : Edg} {d r : Nat} (hx : x ∈ l) (hl : x.lft = (d : Int)) (hr : x.rgt = (r : Int)) : r ∈ nbrs l d := by
  unfold nbrs
  exact List.mem_map.2 ⟨x, List.mem_filter.2 ⟨hx, decide_eq_true hl⟩, by rw [hr]; rfl⟩

/-- Cells that hold numbers, from a block's first on. -/
def CelI (w : World) (g : Nat) (m : List Int) : Prop := ∀ i, i < m.length → w.cell? ⟨g, i, none⟩ = some (.int .i64 (m.getD i (-1))) ∧ w.frozen? ⟨g, i, none⟩ = false
theorem CelI.set {w : World} {g : Nat} {m : List Int} (h : CelI w g m) {i : Nat} (hi : i < m.length) (v : Int) : CelI (w.setCell ⟨g, i, none⟩ (.int .i64 v)) g (m.set i v) := fun j hj => by
  rw [List.length_set] at hj
  rw [getD_setI _ _ _ _ _ hi]
  refine ⟨?_, by rw [World.frozen?_setCell]; exact (h j hj).2⟩
  by_cases he : i = j
  · subst he
    rw [if_pos rfl]
    exact World.cell?_setCell_same' w _ _ (by rw [(h i hi).1]; rfl)
  · rw [if_neg he]
    exact (World.cell?_setCell_other w ⟨g, i, none⟩ ⟨g, j, none⟩ _ (fun e => he (by injection e))).trans (h j hj).1
theorem CelI.kept {w w' : World} {g : Nat} {m : List Int} (h : CelI w g m) (hb : w'.heap[g]? = w.heap[g]?) : CelI w' g m := fun j hj =>
  ⟨(World.cell?_of_block (a := ⟨g, j, none⟩) hb).trans (h j hj).1, (World.frozen?_of_block (a := ⟨g, j, none⟩) hb).trans (h j hj).2⟩

/-- What grow reads and writes: the edges (not in G, not in M), who has each right one (G), which were met (M). -/
structure GrAt (w : World) (G M : Nat) (A : Option Addr) (n cap : Nat) (R : Nat) (l : List Edg) (has : List Int) (met : List Bool) : Prop where
  sl : Sl edgC 2 w (fun b => b ≠ G ∧ b ≠ M) A n cap l
  row : CelI w G has
  mt : RowB w M met
  lh : has.length = R
  lm : met.length = R
theorem GrAt.setM {w : World} {G M : Nat} {A : Option Addr} {n cap R : Nat} {l : List Edg} {has : List Int} {met : List Bool} (h : GrAt w G M A n cap R l has met) (hGM : G ≠ M) (i : Nat) (v : Bool) :
    GrAt (w.setCell ⟨M, i, none⟩ (.bool v)) G M A n cap R l has (met.set i v) :=
  ⟨h.sl.keep edgC_good (by omega) fun b hb _ => ⟨Below.heap_setCell _ _ _ _ hb.2, hb⟩, h.row.kept (Below.heap_setCell _ _ _ _ hGM), h.mt.set _ _, h.lh, by rw [List.length_set]; exact h.lm⟩
theorem GrAt.setG {w : World} {G M : Nat} {A : Option Addr} {n cap R : Nat} {l : List Edg} {has : List Int} {met : List Bool} (h : GrAt w G M A n cap R l has met) (hGM : G ≠ M) {i : Nat} (hi : i < R) (v : Int) :
    GrAt (w.setCell ⟨G, i, none⟩ (.int .i64 v)) G M A n cap R l (has.set i v) met :=
  ⟨h.sl.keep edgC_good (by omega) fun b hb _ => ⟨Below.heap_setCell _ _ _ _ hb.1, hb⟩, h.row.set (by rw [h.lh]; exact hi) v, h.mt.other hGM _, by rw [List.length_set]; exact h.lh, h.lm⟩

set_option maxRecDepth 100000 in
set_option maxHeartbeats 4000000 in
theorem grow_any (G M cG : Nat) (A : Option Addr) (n cap R left : Nat) (l : List Edg) (hGM : G ≠ M) (hed : ∀ x ∈ l, 0 ≤ x.lft ∧ x.lft < left ∧ 0 ≤ x.rgt ∧ x.rgt < R) :
    ∀ (z : Nat) (has : List Int) (met : List Bool) (d : Nat) (w : World), GrAt w G M A n cap R l has met → unmet met ≤ z → (∀ r, r < R → has.getD r (-1) = -1 ∨ ∃ d : Nat, has.getD r (-1) = d) →
    Calls Try.prog 77 #[.slice A n cap, .slice (some ⟨G, 0, none⟩) R cG, .slice (some ⟨M, 0, none⟩) R R, .int .i64 (d : Int)] w fun e w' => ∃ (b : Bool) (has' : List Int) (met' : List Bool), e = .returned (.bool b) ∧ GrAt w' G M A n cap R l has' met' ∧ Kept (fun k => k = G ∨ k = M) w w' ∧
      (b = true → Found (nbrs l) has met has' met' d) ∧ (b = false → has' = has ∧ Failed (nbrs l) has (nbrs l d) met met') := by
  intro z
  induction z using Nat.strongRecOn with
  | _ z ih =>
    intro has met d w hA hz hhas
    have hbd2 := hA.sl.bd
    have HA0 := Lib.hid hA
    have HS2 := Lib.hid hA.sl
    have HLN := Lib.hid hA.sl.len
    have IH := Lib.hid ih
    clear ih
    have HZ := Lib.hid hz
    clear hz
    have HHAS := Lib.hid hhas
    clear hhas
    have HED := Lib.hid hed
    clear hed
    clear hA
    go_enter Try.func77, Try.ntmps77
    go_wp2_with fail
    go_loopg [9] n (fun gk iv wr => ∃ (k : Nat) (m1 : List Bool), k ≤ n ∧ n - k ≤ gk ∧ iv = .int .i64 k ∧ Failed (nbrs l) has (nbrs (l.take k) d) met m1 ∧ GrAt wr G M A n cap R l has m1 ∧ Kept (fun k => k = G ∨ k = M) w wr)
    case atStart => exact ⟨0, met, Nat.zero_le _, by omega, rfl, by rw [List.take_zero]; exact Failed.nil _ _ _, HA0.out, Kept.refl _ _⟩
    case round =>
      obtain ⟨k, m1, hk, hgk, rfl, hF, hA1, hK⟩ := hrel
      have HF := Lib.hid hF
      have HA1 := Lib.hid hA1
      have HK := Lib.hid hK
      clear hF hA1 hK
      by_cases hlt : k < n
      · obtain ⟨b2, off2, x, c0, c1, rfl, hx, ⟨hd, _, _⟩, e0, e1⟩ := HA1.out.sl.at2 hlt
        simp only [List.cons.injEq, and_true] at hd
        obtain ⟨rfl, rfl⟩ := hd
        obtain ⟨xl, xr⟩ := x
        obtain ⟨x0, x1, y0, y1⟩ := HED.out _ (List.mem_of_getElem? hx)
        simp only at x0 x1 y0 y1 e0 e1
        obtain ⟨c, rfl⟩ := Int.eq_ofNat_of_zero_le x0
        obtain ⟨r, rfl⟩ := Int.eq_ofNat_of_zero_le y0
        have hrR : r < R := by omega
        have HTS := Lib.hid (show nbrs (l.take (k + 1)) d = if (c : Int) = (d : Int) then nbrs (l.take k) d ++ [r] else nbrs (l.take k) d by rw [take_snoc hx, nbrs_snoc]; rfl)
        have HXM := Lib.hid (List.mem_of_getElem? hx)
        clear hx x0 x1 y0
        by_cases hcd : (c : Int) = (d : Int)
        · obtain rfl : c = d := by omega
          have HT := Lib.hid (HTS.out.trans (if_pos rfl))
          have HIN := Lib.hid (nbrs_mem (d := c) (r := r) HXM.out rfl rfl)
          have r0 := HA1.out.mt.cell (i := r) (by rw [HA1.out.lm]; exact hrR)
          have f0 := HA1.out.mt.free r
          obtain ⟨v, hv⟩ : ∃ v, v = m1.getD r true := ⟨_, rfl⟩
          rw [← hv] at r0
          have HV := Lib.hid hv
          clear hv hcd
          cases v
          · -- he is new
            have hA2 := Lib.hid (HA1.out.setM hGM r true)
            have hK2 := Lib.hid (HK.out.setCell (p := ⟨M, r, none⟩) (.inl (.inr rfl)) (.bool true))
            obtain ⟨W2, hW2⟩ : ∃ W2, W2 = wr.setCell ⟨M, r, none⟩ (.bool true) := ⟨_, rfl⟩
            go_upto_region 7 with (fail)
            rw [← hW2] at hA2 hK2 ⊢
            clear hW2 r0 f0 e0 e1
            obtain ⟨r0, f0⟩ := hA2.out.row r (by rw [hA2.out.lh]; exact hrR)
            rcases HHAS.out r hrR with hh | ⟨q, hh⟩
            · rw [hh] at r0
              have HN := Lib.hid (HF.out.free HV.out.symm (by rw [HA1.out.lm, HA1.out.lh]) HIN.out hh)
              have HA3 := Lib.hid (hA2.out.setG hGM hrR (c : Int))
              have HK3 := Lib.hid (hK2.out.setCell (p := ⟨G, r, none⟩) (.inl (.inl rfl)) (.int .i64 (c : Int)))
              clear hh
              go_wp2_with fail
              go_ret
              first | exact ⟨true, _, _, rfl, HA3.out, HK3.out, fun _ => HN.out, fun h => absurd h (by simp)⟩ | exact .inr ⟨rfl, _, _, HA3.out, HK3.out, HN.out⟩ | exact .inl ⟨rfl, _, _, HA3.out, HK3.out, HN.out⟩
            · rw [hh] at r0
              have hun := unmet_set m1 r HV.out.symm
              have hum : unmet m1 ≤ unmet met := unmet_mono met m1 HF.out.lenM HF.out.mono
              have hcall := IH.out (unmet (m1.set r true)) (by have := HZ.out; omega) has (m1.set r true) q W2 hA2.out (Nat.le_refl _) HHAS.out
              have HH := Lib.hid hh
              have HCALL := Lib.hid hcall
              clear hcall
              clear hh hun hum
              go_wp2_with fail
              refine HCALL.out.mono ?_
              rintro e w5 ⟨bb, has1, m2, rfl, hA5, hK5, hT5, hF5⟩
              have HK6 := Lib.hid (hK2.out.trans (hK5.mono fun k _ h => h))
              cases bb
              · obtain ⟨rfl, h6⟩ := hF5 rfl
                have HN := Lib.hid (HF.out.more HV.out.symm HH.out h6)
                have HA6 := Lib.hid hA5
                clear hA5 hK5 hT5 hF5 h6
                go_wp2_with fail
                go_roundg (n - (k + 1))
                case measure => omega
                case rel => exact ⟨k + 1, m2, by omega, by omega, by go_num, by rw [HT.out]; exact HN.out, HA6.out, HK6.out⟩
              · have HN := Lib.hid (HF.out.swap HV.out.symm (by rw [HA1.out.lm, HA1.out.lh]) HIN.out HH.out (hT5 rfl))
                obtain ⟨r0', f0'⟩ := hA5.row r (by rw [hA5.lh]; exact hrR)
                have HA6 := Lib.hid (hA5.setG hGM hrR (c : Int))
                have HK7 := Lib.hid (HK6.out.setCell (p := ⟨G, r, none⟩) (.inl (.inl rfl)) (.int .i64 (c : Int)))
                clear hA5 hK5 hT5 hF5
                go_wp2_with fail
                go_ret
                first | exact ⟨true, _, _, rfl, HA6.out, HK7.out, fun _ => HN.out, fun h => absurd h (by simp)⟩ | exact .inr ⟨rfl, _, _, HA6.out, HK7.out, HN.out⟩ | exact .inl ⟨rfl, _, _, HA6.out, HK7.out, HN.out⟩
          · have HN := Lib.hid (HF.out.skip HV.out.symm)
            go_wp2_with fail
            go_roundg (n - (k + 1))
            case measure => omega
            case rel => exact ⟨k + 1, m1, by omega, by omega, by go_num, by rw [HT.out]; exact HN.out, HA1.out, HK.out⟩
        · have HT := Lib.hid (HTS.out.trans (if_neg hcd))
          have hne : ((c : Int) != (d : Int)) = true := by simpa using hcd
          clear hcd
          go_wp2_with fail
          go_roundg (n - (k + 1))
          case measure => omega
          case rel => exact ⟨k + 1, m1, by omega, by omega, by go_num, by rw [HT.out]; exact HF.out, HA1.out, HK.out⟩
      · obtain rfl : k = n := by omega
        have HT := Lib.hid (show l.take k = l from List.take_of_length_le (by rw [HLN.out]; omega))
        go_wp2_with fail
        go_ret
        refine ⟨false, has, m1, rfl, HA1.out, HK.out, fun h => absurd h (by simp), fun _ => ⟨rfl, ?_⟩⟩
        have := HF.out
        rwa [HT.out] at this
end Go.Proofs.Ytpodgidamoiakaa
