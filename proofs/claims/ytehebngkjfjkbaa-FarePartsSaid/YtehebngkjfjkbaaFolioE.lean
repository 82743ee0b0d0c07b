/-
  Folios: the contracts of Owed, With, Add.
-/
import Derived.Test.YtehebngkjfjkbaaFolioD
namespace Go.Proofs.Ytehebngkjfjkbaa
open Go.RowKit Go.Shelf

theorem sl_entry (w : World) (S : Nat → Prop) (d k m : Int) (t : TypeId) (hd : InI d) (hk : InI k) (hm : InI m) (hS : S w.heap.size) :
    Sl entryC 3 (w.alloc (.cells #[.int .i64 d, .int .i64 k, .int .i64 m] t)) S (some ⟨w.heap.size, 0, none⟩) 1 1 [⟨d, k, m⟩] :=
  Sl.lit1 w S t (⟨d, k, m⟩ : Entry) [.int .i64 d, .int .i64 k, .int .i64 m] ⟨rfl, hd, hk, hm⟩ hS

/-- A folio that Check lets by has few entries, none of which is great. -/
theorem check_len {l : List Entry} (h : checkFolio l = 0) : l.length ≤ 12 := by
  unfold checkFolio at h
  by_cases e : 12 < l.length
  · rw [if_pos e] at h; omega
  · omega
theorem check_small {l : List Entry} (h : checkFolio l = 0) : Small l := by
  have hl := check_len h
  refine small_of_check hl ?_
  unfold checkFolio at h
  rw [if_neg (by omega)] at h
  by_cases e : firstErr (errAt l) l.length = 0
  · exact e
  · rw [if_pos e] at h; exact absurd h e

theorem Owed_any (A : Option Addr) (n cap : Nat) (l : List Entry) (w : World) (h : Sl entryC 3 w All A n cap l) :
    Calls Try.prog 13 #[.slice A n cap] w fun e w' => e = .returned (.tuple #[.int .i64 (okI (checkFolio l) (dueOf l)), .int .i64 (checkFolio l)]) ∧ Below w.heap.size w w' := by
  have hck := Check_any A n cap l w h
  have hsm := check_small (l := l)
  generalize checkFolio l = r at *
  have HK := Lib.hid hck
  have HS := Lib.hid hsm
  clear hck hsm
  by_cases hr : r = 0
  · subst hr
    have hsm := HS.out rfl
    go_enter Try.func13, Try.ntmps13
    go_wp2_with (first | (go_at_call 20; refine HK.out.mono ?_; rintro e w' ⟨rfl, hb1⟩) | (go_at_call 52; refine (Due_any _ _ _ l _ (h.below entryC_good (by omega) hb1) hsm).mono ?_; rintro e w' ⟨rfl, hb2⟩))
    go_ret2
    exact ⟨rfl, hb1.trans (hb2.mono hb1.size)⟩
  · have hr' : (r != 0) = true := by simpa using hr
    have HR := Lib.hid hr
    clear hr
    go_enter Try.func13, Try.ntmps13
    go_wp2_with (go_at_call 20; refine HK.out.mono ?_; rintro e w' ⟨rfl, hb1⟩)
    go_ret2
    exact ⟨by rw [okI_ne HR.out]; rfl, hb1⟩

set_option maxHeartbeats 1000000 in
theorem With_any (A : Option Addr) (n cap : Nat) (l : List Entry) (B : Option Addr) (m cap2 : Nat) (l2 : List Entry) (w : World) (h : Sl entryC 3 w All A n cap l) (h2 : Sl entryC 3 w All B m cap2 l2) (hn : n ≤ 1000000) (hm : m ≤ 1000000) :
    Calls Try.prog 53 #[.slice A n cap, .slice B m cap2] w fun e w' => ∃ v xs, e = .returned (.tuple #[v, .int .i64 (checkFolio (l ++ l2))]) ∧
      Own entryC 3 24 w' w.heap.size v (okL (checkFolio (l ++ l2)) (l ++ l2)) xs ∧ Below w.heap.size w w' := by
  have hlen := Lib.hid h.len
  have hck := fun (W : World) (A : Option Addr) (n cap : Nat) => Check_any A n cap (l ++ l2) W
  generalize checkFolio (l ++ l2) = r at *
  have HK := Lib.hid hck
  clear hck
  go_enter Try.func53, Try.ntmps53
  go_wp2_with fail
  refine (Clone_entry _ _ _ l _ h (by omega)).mono ?_
  rintro e w1 ⟨v1, xs1, rfl, hown1, hb1⟩
  go_wp2_with (at_builtin; refine list_app (t := 22) (e := 24) (bytes := 24) rfl (.tmp 9) (.tmp 10) rfl entry_elem entryC_good rfl hown1 rfl (h2.below entryC_good (by omega) hb1) (fun _ _ hc => hc) (by rw [hlen.out]; omega) (by omega) hb1.size ?_; intro v2 w2 xs2 hown2 hg2 _; obtain ⟨A2, n2, cap3, rfl, hsl2⟩ := hown2.sl entryC_good)
  have hb2 : Below w.heap.size w w2 := below_app hb1 hown1 hg2 hb1.size
  have hsl3 := hsl2.all entryC_good (by omega)
  clear hg2 hsl2 hb1
  by_cases hr : r = 0
  · subst hr
    go_wp2_with (go_at_call 20; refine (HK.out _ _ _ _ hsl3).mono ?_; rintro e w' ⟨rfl, hb3⟩)
    go_ret2
    exact ⟨_, _, rfl, hown2.below entryC_good hb3, hb2.trans (hb3.mono hb2.size)⟩
  · have hr' : (r != 0) = true := by simpa using hr
    have HR := Lib.hid hr
    clear hr
    go_wp2_with (go_at_call 20; refine (HK.out _ _ _ _ hsl3).mono ?_; rintro e w' ⟨rfl, hb3⟩)
    go_ret2
    exact ⟨_, _, rfl, by rw [okL_ne HR.out]; exact Own.nil _ _ _ _ _, hb2.trans (hb3.mono hb2.size)⟩

/-- What Add answers. -/
def addE (l : List Entry) (x : Entry) : Int := if checkFolio l = 0 then checkFolio (l ++ [x]) else checkFolio l

set_option maxHeartbeats 1000000 in
theorem Add_any (A : Option Addr) (n cap : Nat) (l : List Entry) (d k m : Int) (w : World) (h : Sl entryC 3 w All A n cap l) (hd : InI d) (hk : InI k) (hm : InI m) :
    Calls Try.prog 14 #[.slice A n cap, .agg #[.int .i64 d, .int .i64 k, .int .i64 m]] w fun e w' => ∃ v xs, e = .returned (.tuple #[v, .int .i64 (addE l ⟨d, k, m⟩)]) ∧
      Own entryC 3 24 w' w.heap.size v (okL (addE l ⟨d, k, m⟩) (l ++ [⟨d, k, m⟩])) xs ∧ Below w.heap.size w w' := by
  have hb0 : Below w.heap.size w (w.alloc (.cells #[.int .i64 d, .int .i64 k, .int .i64 m] 24)) := (Below.refl _ _).alloc (Nat.le_refl _) _
  have hck := Check_any A n cap l _ (h.below entryC_good (by omega) hb0)
  have hlen := h.len
  obtain ⟨r, hr⟩ : ∃ r, r = checkFolio l := ⟨_, rfl⟩
  obtain ⟨ra, hra⟩ : ∃ ra, ra = addE l ⟨d, k, m⟩ := ⟨_, rfl⟩
  rw [← hr] at hck
  rw [← hra]
  have HK := Lib.hid hck
  clear hck
  by_cases hr0 : r = 0
  · subst hr0
    have hl := check_len hr.symm
    have he : ra = checkFolio (l ++ [⟨d, k, m⟩]) := by rw [hra]; unfold addE; rw [if_pos hr.symm]
    have HE := Lib.hid he
    have hn12 : n ≤ 12 := by omega
    clear hr hra he hlen hl
    go_enter Try.func14, Try.ntmps14
    go_wp2_with fail
    refine HK.out.mono ?_
    rintro e w1 ⟨rfl, hb1⟩
    have hx0 : w1.cell? ⟨w.heap.size, 0, none⟩ = some (.int .i64 d) := (hb1.cell (p := ⟨w.heap.size, 0, none⟩) (by simp)).trans (by simp)
    have hx1 : w1.cell? ⟨w.heap.size, 1, none⟩ = some (.int .i64 k) := (hb1.cell (p := ⟨w.heap.size, 1, none⟩) (by simp)).trans (by simp)
    have hx2 : w1.cell? ⟨w.heap.size, 2, none⟩ = some (.int .i64 m) := (hb1.cell (p := ⟨w.heap.size, 2, none⟩) (by simp)).trans (by simp)
    have hbb : Below w.heap.size w w1 := hb0.trans (hb1.mono hb0.size)
    clear hb1
    go_wp2_with fail
    have hW := With_any _ _ _ l _ _ _ [⟨d, k, m⟩] _ (h.below entryC_good (by omega) (hbb.alloc hbb.size _)) (sl_entry w1 All d k m 24 hd hk hm trivial) (by omega) (by omega)
    rw [← HE.out] at hW
    refine hW.mono ?_
    rintro e w2 ⟨v, xs, rfl, hown, hb2⟩
    have hb3 := (hbb.alloc hbb.size (.cells #[.int .i64 d, .int .i64 k, .int .i64 m] 24))
    go_wp2_with fail
    go_ret2
    exact ⟨_, _, rfl, hown.mono entryC_good hb3.size, hb3.trans (hb2.mono hb3.size)⟩
  · have hr' : (r != 0) = true := by simpa using hr0
    have he : ra = r := by rw [hra]; unfold addE; rw [if_neg (by rw [← hr]; exact hr0)]; exact hr.symm
    subst he
    have HR := Lib.hid hr0
    clear hr hra hr0 hlen
    go_enter Try.func14, Try.ntmps14
    go_wp2_with (go_at_call 20; refine HK.out.mono ?_; rintro e w' ⟨rfl, hb1⟩)
    go_ret2
    exact ⟨_, _, rfl, by rw [okL_ne HR.out]; exact Own.nil _ _ _ _ _, hb0.trans (hb1.mono hb0.size)⟩
end Go.Proofs.Ytehebngkjfjkbaa
