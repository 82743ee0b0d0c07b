/-
  Matchings: data; the matcher looks for somebody (find).
-/
import Derived.Test.YtpodgidamoiakaaMatchH
import Derived.Test.YtpodgidamoiakaaBlkSet
import Derived.Test.YtpodgidamoiakaaSpanB
namespace Go.Proofs.Ytpodgidamoiakaa
open Go.RowKit Go.Shelf

theorem getDM {α : Type} {l : List α} {k : Nat} {x d : α} (h : l[k]? = some x) : l.getD k d = x := by rw [List.getD_eq_getElem?_getD, h]; rfl
theorem unmet_mono : ∀ (a b : List Bool), b.length = a.length → (∀ r, a.getD r true = true → b.getD r true = true) → unmet b ≤ unmet a
  | [], [], _, _ => Nat.le_refl _
  | [], _ :: _, h, _ => by simp at h
  | _ :: _, [], h, _ => by simp at h
  | x :: a, y :: b, h, hm => by
    have ih := unmet_mono a b (by simpa using h) (fun r hr => by simpa using hm (r + 1) (by simpa using hr))
    have h0 := hm 0
    simp only [List.getD_cons_zero] at h0
    unfold unmet at *
    rw [List.count_cons, List.count_cons]
    cases x <;> cases y <;> simp_all <;> omega
/-- A block that holds bools. -/
def RowB (w : World) (g : Nat) (m : List Bool) : Prop := Blk w g (m.map Value.bool).toArray 4
theorem RowB.cell {w : World} {g : Nat} {m : List Bool} (h : RowB w g m) {i : Nat} (hi : i < m.length) : w.cell? ⟨g, i, none⟩ = some (.bool (m.getD i true)) := by
  refine Blk.cell h ?_
  rw [List.getElem?_toArray, List.getElem?_map, List.getElem?_eq_getElem hi, List.getD_eq_getElem?_getD, List.getElem?_eq_getElem hi]; rfl
theorem RowB.set {w : World} {g : Nat} {m : List Bool} (h : RowB w g m) (i : Nat) (v : Bool) : RowB (w.setCell ⟨g, i, none⟩ (.bool v)) g (m.set i v) := by
  have := Blk.set (j := i) h (.bool v)
  unfold RowB
  rw [List.map_set]
  simpa using this
theorem RowB.other {w : World} {g : Nat} {m : List Bool} (h : RowB w g m) {p : Addr} (hp : p.block ≠ g) (u : Value) : RowB (w.setCell p u) g m := Blk.other h hp u
theorem RowI.cell' {w : World} {g : Nat} {m : List Int} {t : TypeId} (h : RowI w g m t) {i : Nat} (hi : i < m.length) : w.cell? ⟨g, i, none⟩ = some (.int .i64 (m.getD i (-1))) := by
  rw [h.cell hi, getD_at hi, getD_at hi]

/-- Whom each left one may have. -/
def rgts (rows : List (List Int)) (d : Nat) : List Nat := (rows.getD d []).map Int.toNat
/-- A matcher: its rows of right ones (not in G, not in M), who has each right one (G), which were met (M). -/
structure MtAt (w : World) (P G M : Nat) (A : Option Addr) (n cap : Nat) (R : Nat) (rows : List (List Int)) (has : List Int) (met : List Bool) : Prop where
  sl : Sl (slC intC 1) 1 w (fun b => b ≠ G ∧ b ≠ M) A n cap rows
  st : Blk w P #[.slice A n cap, .slice (some ⟨G, 0, none⟩) R R, .slice (some ⟨M, 0, none⟩) R R] 103
  row : RowI w G has 3
  mt : RowB w M met
  lh : has.length = R
  lm : met.length = R
theorem ints_good : Good (slC intC 1) := slC_good intC_good (by omega)
theorem MtAt.setM {w : World} {P G M : Nat} {A : Option Addr} {n cap R : Nat} {rows : List (List Int)} {has : List Int} {met : List Bool} (h : MtAt w P G M A n cap R rows has met) (hGM : G ≠ M) (hPM : P ≠ M) (i : Nat) (v : Bool) :
    MtAt (w.setCell ⟨M, i, none⟩ (.bool v)) P G M A n cap R rows has (met.set i v) :=
  ⟨h.sl.keep ints_good (by omega) fun b hb _ => ⟨Below.heap_setCell _ _ _ _ hb.2, hb⟩, h.st.other (fun e => hPM e.symm) _, h.row.other (fun e => hGM e.symm) _, h.mt.set _ _, h.lh, by rw [List.length_set]; exact h.lm⟩
theorem MtAt.setG {w : World} {P G M : Nat} {A : Option Addr} {n cap R : Nat} {rows : List (List Int)} {has : List Int} {met : List Bool} (h : MtAt w P G M A n cap R rows has met) (hGM : G ≠ M) (hPG : P ≠ G) (i : Nat) (v : Int) :
    MtAt (w.setCell ⟨G, i, none⟩ (.int .i64 v)) P G M A n cap R rows (has.set i v) met :=
  ⟨h.sl.keep ints_good (by omega) fun b hb _ => ⟨Below.heap_setCell _ _ _ _ hb.1, hb⟩, h.st.other (fun e => hPG e.symm) _, h.row.set _ _, h.mt.other hGM _, by rw [List.length_set]; exact h.lh, h.lm⟩

set_option maxRecDepth 100000 in
set_option maxHeartbeats 4000000 in
theorem find_any (P G M : Nat) (A : Option Addr) (n cap R : Nat) (rows : List (List Int)) (hGM : G ≠ M) (hPG : P ≠ G) (hPM : P ≠ M) (hrow : ∀ c ∈ rows, ∀ r ∈ c, 0 ≤ r ∧ r < R) :
    ∀ (z : Nat) (has : List Int) (met : List Bool) (l : Nat) (w : World), MtAt w P G M A n cap R rows has met → l < n → unmet met ≤ z → (∀ r, r < R → has.getD r (-1) = -1 ∨ ∃ d : Nat, has.getD r (-1) = d ∧ d < n) → n ≤ 1000 →
    Calls Try.prog 74 #[.pointer (some ⟨P, 0, none⟩), .int .i64 (l : Int)] w fun e w' => ∃ (b : Bool) (has' : List Int) (met' : List Bool), e = .returned (.bool b) ∧ MtAt w' P G M A n cap R rows has' met' ∧ Kept (fun k => k = G ∨ k = M) w w' ∧
      (b = true → Found (rgts rows) has met has' met' l) ∧ (b = false → has' = has ∧ Failed (rgts rows) has (rgts rows l) met met') := by
  intro z
  induction z using Nat.strongRecOn with
  | _ z ih =>
    intro has met l w hA hl hz hhas hn
    obtain ⟨b, off, row, c0, rfl, hx, ⟨A2, n2, cap2, hcs, hs2⟩, g0⟩ := hA.sl.at1 hl
    simp only [List.cons.injEq, and_true] at hcs
    obtain rfl := hcs
    have p0 := hA.st.cell (j := 0) rfl
    have hrl : rgts rows l = row.map Int.toNat := by unfold rgts; rw [getDM hx]
    have HRW := Lib.hid (hrow row (List.mem_of_getElem? hx))
    have HA0 := Lib.hid hA
    have HLR := Lib.hid hrl
    have HS2 := Lib.hid hs2
    have hbd2 := hs2.bd
    have HLN := Lib.hid hs2.len
    have IH := Lib.hid ih
    clear ih
    have HZ := Lib.hid hz
    clear hz
    have HHAS := Lib.hid hhas
    clear hhas
    have HHR := Lib.hid hrow
    clear hA hx hrl hs2
    go_enter Try.func74, Try.ntmps74
    go_wp2_with fail
    go_loopg [15] n2 (fun gk iv wr => ∃ (k : Nat) (m1 : List Bool), k ≤ n2 ∧ n2 - k ≤ gk ∧ iv = .int .i64 k ∧ Failed (rgts rows) has ((rgts rows l).take k) met m1 ∧ MtAt wr P G M (some ⟨b, off, none⟩) n cap R rows has m1 ∧ Kept (fun k => k = G ∨ k = M) w wr)
    case atStart => exact ⟨0, met, Nat.zero_le _, by omega, rfl, by rw [List.take_zero]; exact Failed.nil _ _ _, HA0.out, Kept.refl _ _⟩
    case round =>
      obtain ⟨k, m1, hk, hgk, rfl, hF, hA1, hK⟩ := hrel
      have HF := Lib.hid hF
      have HA1 := Lib.hid hA1
      have HK := Lib.hid hK
      clear hF hA1 hK
      by_cases hlt : k < n2
      · obtain ⟨b2, off2, y, d0, rfl, hy, ⟨hd, _⟩, e0⟩ := (HS2.out.keep (w' := wr) (S' := All) intC_good (by omega) (fun q hq hql => ⟨HK.out.block q hql (by rintro (h | h); exact hq.1 h; exact hq.2 h), trivial⟩)).at1 hlt
        simp only [List.cons.injEq, and_true] at hd
        obtain rfl := hd
        obtain ⟨y0, y1⟩ := HRW.out y (List.mem_of_getElem? hy)
        obtain ⟨r, rfl⟩ := Int.eq_ofNat_of_zero_le y0
        have hrR : r < R := by omega
        have hrk : (rgts rows l)[k]? = some r := by rw [HLR.out, List.getElem?_map, hy]; rfl
        have HT := Lib.hid (take_snoc hrk)
        have HIN := Lib.hid (List.mem_of_getElem? hrk)
        have q1 : wr.cell? ⟨P, 1, none⟩ = some (.slice (some ⟨G, 0, none⟩) R R) := HA1.out.st.cell rfl
        have q2 : wr.cell? ⟨P, 2, none⟩ = some (.slice (some ⟨M, 0, none⟩) R R) := HA1.out.st.cell rfl
        have r0 := HA1.out.mt.cell (i := r) (by rw [HA1.out.lm]; exact hrR)
        have f0 := HA1.out.mt.free r
        obtain ⟨v, hv⟩ : ∃ v, v = m1.getD r true := ⟨_, rfl⟩
        rw [← hv] at r0
        have HV := Lib.hid hv
        clear hy hrk hv y0
        cases v
        · -- he is new
          have hrm : r < m1.length := by rw [HA1.out.lm]; exact hrR
          have hA2 := Lib.hid (HA1.out.setM hGM hPM r true)
          have hK2 := Lib.hid (HK.out.setCell (p := ⟨M, r, none⟩) (.inl (.inr rfl)) (.bool true))
          obtain ⟨W2, hW2⟩ : ∃ W2, W2 = wr.setCell ⟨M, r, none⟩ (.bool true) := ⟨_, rfl⟩
          go_upto_region 6 with (fail)
          rw [← hW2] at hA2 hK2 ⊢
          clear hW2 q1 q2 r0 f0 e0
          have q1 : W2.cell? ⟨P, 1, none⟩ = some (.slice (some ⟨G, 0, none⟩) R R) := hA2.out.st.cell rfl
          have r0 := hA2.out.row.cell' (i := r) (by rw [hA2.out.lh]; exact hrR)
          have f0 := hA2.out.row.free r
          rcases HHAS.out r hrR with hh | ⟨d, hh, hdn⟩
          · rw [hh] at r0
            have HN := Lib.hid (HF.out.free HV.out.symm (by rw [HA1.out.lm, HA1.out.lh]) HIN.out hh)
            have HA3 := Lib.hid (hA2.out.setG hGM hPG r (l : Int))
            have HK3 := Lib.hid (hK2.out.setCell (p := ⟨G, r, none⟩) (.inl (.inl rfl)) (.int .i64 (l : Int)))
            clear hh
            go_wp2_with fail
            go_ret
            exact ⟨true, _, _, rfl, HA3.out, HK3.out, fun _ => HN.out, fun h => absurd h (by simp)⟩
          · rw [hh] at r0
            have hun := unmet_set m1 r HV.out.symm
            have hum : unmet m1 ≤ unmet met := unmet_mono met m1 HF.out.lenM HF.out.mono
            have hcall := IH.out (unmet (m1.set r true)) (by have := HZ.out; omega) has (m1.set r true) d W2 hA2.out hdn (Nat.le_refl _) HHAS.out hn
            have HH := Lib.hid hh
            have HCALL := Lib.hid hcall
            clear hcall
            clear hh hun hum
            go_wp2_with fail
            refine HCALL.out.mono ?_
            rintro e w5 ⟨bb, has1, m2, rfl, hA5, hK5, hT5, hF5⟩
            have HK6 := Lib.hid (hK2.out.trans (hK5.mono fun k _ h => h))
            cases bb
            · obtain ⟨rfl, h6⟩ := hF5 rfl
              have HN := Lib.hid (HF.out.more HV.out.symm HH.out h6)
              have HA6 := Lib.hid hA5
              clear hA5 hK5 hT5 hF5 h6
              go_wp2_with fail
              go_roundg (n2 - (k + 1))
              case measure => omega
              case rel => exact ⟨k + 1, m2, by omega, by omega, by go_num, by rw [HT.out]; exact HN.out, HA6.out, HK6.out⟩
            · have HN := Lib.hid (HF.out.swap HV.out.symm (by rw [HA1.out.lm, HA1.out.lh]) HIN.out HH.out (hT5 rfl))
              have q1' : w5.cell? ⟨P, 1, none⟩ = some (.slice (some ⟨G, 0, none⟩) R R) := hA5.st.cell rfl
              have r0' := hA5.row.cell' (i := r) (by rw [hA5.lh]; exact hrR)
              have f0' := hA5.row.free r
              have HA6 := Lib.hid (hA5.setG hGM hPG r (l : Int))
              have HK7 := Lib.hid (HK6.out.setCell (p := ⟨G, r, none⟩) (.inl (.inl rfl)) (.int .i64 (l : Int)))
              clear hA5 hK5 hT5 hF5
              go_wp2_with fail
              go_ret
              exact ⟨true, _, _, rfl, HA6.out, HK7.out, fun _ => HN.out, fun h => absurd h (by simp)⟩
        · have HN := Lib.hid (HF.out.skip HV.out.symm)
          go_wp2_with fail
          go_roundg (n2 - (k + 1))
          case measure => omega
          case rel => exact ⟨k + 1, m1, by omega, by omega, by go_num, by rw [HT.out]; exact HN.out, HA1.out, HK.out⟩
      · obtain rfl : k = n2 := by omega
        have HT := Lib.hid (show (rgts rows l).take k = rgts rows l from List.take_of_length_le (by rw [HLR.out, List.length_map, HLN.out]; omega))
        go_wp2_with fail
        go_ret
        refine ⟨false, has, m1, rfl, HA1.out, HK.out, fun h => absurd h (by simp), fun _ => ⟨rfl, ?_⟩⟩
        have := HF.out
        rwa [HT.out] at this
end Go.Proofs.Ytpodgidamoiakaa
