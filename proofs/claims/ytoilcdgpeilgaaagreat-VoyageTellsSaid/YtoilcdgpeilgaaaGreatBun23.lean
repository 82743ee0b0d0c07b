/-
  Words, laws and contracts: StockL, StockR, StockI, StockW, StockX.
-/
import Derived.Test.YtoilcdgpeilgaaaGreatBun22
import Derived.Shelf.Spec.SlicesInsertGrow
import Derived.BigQuiet
set_option linter.unusedSimpArgs false
set_option linter.unusedVariables false
namespace Go.Proofs.YtoilcdgpeilgaaaGreat
open Go.RowKit Go.Shelf
def Rise (l : List Bkg) : Prop := ∀ (i j : Nat) (a b : Bkg), i < j → l[i]? = some a → l[j]? = some b → a.id < b.id
theorem rise_of {l : List Bkg} (h : ∀ i, i + 1 < l.length → (l.getD i default).id < (l.getD (i + 1) default).id) : Rise l := by
  have key : ∀ d i : Nat, i + 1 + d < l.length → (l.getD i default).id < (l.getD (i + 1 + d) default).id := by
    intro d
    induction d with
    | zero => exact fun i hi => h i hi
    | succ d ih =>
      intro i hi
      have h1 := ih i (by omega)
      have h2 := h (i + 1 + d) (by omega)
      exact Int.lt_trans h1 h2
  intro i j a b hij ha hb
  have hj := (List.getElem?_eq_some_iff.1 hb).1
  have := key (j - (i + 1)) i (by omega)
  rw [show i + 1 + (j - (i + 1)) = j by omega, List.getD_eq_getElem?_getD, List.getD_eq_getElem?_getD, ha, hb] at this
  exact this
def hasId (l : List Bkg) (t : Int) : Bool := l.any (fun b => decide (b.id = t))
def posI (l : List Bkg) (t : Int) : Nat := l.findIdx (fun b => decide (t ≤ b.id))
def LowTo (l : List Bkg) (t : Int) (i : Nat) : Prop := ∀ (q : Nat) (b : Bkg), q < i → l[q]? = some b → b.id < t
def HighFrom (l : List Bkg) (t : Int) (i : Nat) : Prop := ∀ (q : Nat) (b : Bkg), i ≤ q → l[q]? = some b → t ≤ b.id
theorem pos_of {l : List Bkg} {t : Int} {i : Nat} (hi : i ≤ l.length) (hlo : LowTo l t i) (hhi : HighFrom l t i) : posI l t = i := by
  unfold posI
  rcases Nat.lt_or_ge i l.length with h | h
  · rw [List.findIdx_eq h]
    refine ⟨decide_eq_true (hhi i _ (Nat.le_refl _) (List.getElem?_eq_getElem h)), fun j hj => ?_⟩
    have := hlo j _ hj (List.getElem?_eq_getElem (by omega))
    simp; omega
  · obtain rfl : i = l.length := by omega
    rw [List.findIdx_eq_length]
    intro x hx
    obtain ⟨q, hq⟩ := List.getElem?_of_mem hx
    have := hlo q x (List.getElem?_eq_some_iff.1 hq).1 hq
    simp; omega
theorem has_of {l : List Bkg} {t : Int} {i : Nat} {b : Bkg} (hr : Rise l) (hlo : LowTo l t i) (hhi : HighFrom l t i) (hb : l[i]? = some b) : hasId l t = decide (b.id = t) := by
  unfold hasId
  by_cases h : b.id = t
  · rw [decide_eq_true h]
    exact List.any_eq_true.2 ⟨b, List.mem_of_getElem? hb, decide_eq_true h⟩
  · rw [decide_eq_false h]
    refine List.any_eq_false.2 fun x hx => ?_
    obtain ⟨q, hq⟩ := List.getElem?_of_mem hx
    simp only [decide_eq_true_eq]
    intro he
    rcases Nat.lt_trichotomy q i with h1 | h1 | h1
    · have := hlo q x h1 hq; omega
    · subst h1; rw [hb] at hq; injection hq with hq; subst hq; exact h he
    · have h2 := hr i q b x h1 hb hq
      have h3 := hhi i b (Nat.le_refl _) hb
      omega
theorem has_no {l : List Bkg} {t : Int} (hlo : LowTo l t l.length) : hasId l t = false := by
  unfold hasId
  refine List.any_eq_false.2 fun x hx => ?_
  obtain ⟨q, hq⟩ := List.getElem?_of_mem hx
  have := hlo q x (List.getElem?_eq_some_iff.1 hq).1 hq
  simp; omega
theorem has_far {l : List Bkg} {t : Int} (h : ∀ b ∈ l, b.id ≠ t) : hasId l t = false := by
  unfold hasId
  refine List.any_eq_false.2 fun x hx => ?_
  simpa using h x hx
set_option maxRecDepth 100000 in
theorem placeCmp_any (b : Bkg) (v : Value) (t : Int) (w : World) : Calls Tryz.prog 229 #[.agg (bkgA b v), .int .i64 t] w fun e w' => e = .returned (.int .i64 (wrap64 (b.id - t))) ∧ Below w.heap.size w w' := by
  obtain ⟨id, kind, state, gst, lev, cab, cat, frm, upto, til, fol⟩ := b
  go_enter Tryz.func229, Tryz.ntmps229
  go_wp2_with fail
  go_ret
  exact ⟨rfl, bel1 _ _⟩
def SmallN (t : Int) : Prop := -1000000000 ≤ t ∧ t ≤ 1000000000
set_option maxRecDepth 100000 in
set_option maxHeartbeats 4000000 in
theorem binS_any (C : Option Addr) (n cap : Nat) (l : List Bkg) (t : Int) (w : World) (hl : Sl bkgC 11 w All C n cap l) (hr : Rise l) (hid : ∀ b ∈ l, 1 ≤ b.id ∧ b.id ≤ 999999) (hn : n ≤ 16) (ht : InI t) :
    Calls Tryz.prog 228 #[.slice C n cap, .int .i64 t, .func (.func 229) #[] #[]] w fun e w' => ∃ i : Nat, e = .returned (.tuple #[.int .i64 (i : Int), .bool (hasId l t)]) ∧ i ≤ l.length ∧ (SmallN t → i = posI l t) ∧ Below w.heap.size w w' := by
  have hmx := hl.max
  have HN := Lib.hid hl.len
  have HL := Lib.hid hl
  have HR := Lib.hid hr
  clear hr
  have HID := Lib.hid hid
  clear hid
  have HT := Lib.hid ht
  clear ht
  obtain ⟨q, hq⟩ : ∃ q, q = hasId l t := ⟨_, rfl⟩
  rw [← hq]
  have HQ := Lib.hid hq
  clear hq
  have eg := enters_of Tryz.func229 (by kernel_rfl) rfl
  clear hl
  go_enter Tryz.func228, Tryz.ntmps228
  go_wp2_with fail
  go_loopg [9, 10] n (fun gk vi vj wr => ∃ i j : Nat, i ≤ j ∧ j ≤ n ∧ j - i ≤ gk ∧ vi = .int .i64 i ∧ vj = .int .i64 j ∧ Aside (SmallN t → LowTo l t i ∧ HighFrom l t j) ∧ Below w.heap.size w wr)
  case atStart => exact ⟨0, n, Nat.zero_le _, Nat.le_refl _, by omega, rfl, rfl, fun _ => ⟨fun q b h => absurd h (Nat.not_lt_zero _), fun q b h hq => by have := (List.getElem?_eq_some_iff.1 hq).1; have := HN.out; omega⟩, Below.refl _ _⟩
  case round =>
    obtain ⟨i, j, hij, hjn, hgk, rfl, rfl, HA, hb⟩ := hrel
    by_cases hlt : i < j
    · obtain ⟨k, hk⟩ : ∃ k : Nat, k = (i + j) / 2 := ⟨_, rfl⟩
      have hki : i ≤ k := by omega
      have hkj : k < j := by omega
      have HK := Lib.hid hk
      have hw1 : IntKind.i64.wrap ((i : Int) + j) = (i : Int) + j := IntWalk.i64_in _ (by omega)
      go_upto_region 4 with (fail)
      go_cut [11] (fun v wx => v = .int .i64 (k : Int) ∧ wr = wx)
      case first => as_aux_lemma =>
        clear hk
        go_wp2_with fail
        go_meet
        exact ⟨by congr 1; rw [HK.out]; omega, rfl⟩
      obtain ⟨rfl, rfl⟩ := hcut
      have hkn : k < n := by omega
      obtain ⟨ab, off, ⟨id, kind, state, gst, lev, cab, cat, frm, upto, til, fol⟩, A3, n3, c3, hA, hx, hF, hI, hcel⟩ := (HL.out.bel hb).bkg hkn
      subst hA
      have y0 : wr.cell? ⟨ab, off + k * 11, none⟩ = some (.int .i64 id) := hcel 0 _ rfl
      have y1 : wr.cell? ⟨ab, off + k * 11 + 1, none⟩ = some (.int .i64 kind) := hcel 1 _ rfl
      have y2 : wr.cell? ⟨ab, off + k * 11 + 2, none⟩ = some (.int .i64 state) := hcel 2 _ rfl
      have y3 : wr.cell? ⟨ab, off + k * 11 + 3, none⟩ = some (.int .i64 gst) := hcel 3 _ rfl
      have y4 : wr.cell? ⟨ab, off + k * 11 + 4, none⟩ = some (.bool lev) := hcel 4 _ rfl
      have y5 : wr.cell? ⟨ab, off + k * 11 + 5, none⟩ = some (.int .i64 cab) := hcel 5 _ rfl
      have y6 : wr.cell? ⟨ab, off + k * 11 + 6, none⟩ = some (.int .i64 cat) := hcel 6 _ rfl
      have y7 : wr.cell? ⟨ab, off + k * 11 + 7, none⟩ = some (.int .i64 frm) := hcel 7 _ rfl
      have y8 : wr.cell? ⟨ab, off + k * 11 + 8, none⟩ = some (.int .i64 upto) := hcel 8 _ rfl
      have y9 : wr.cell? ⟨ab, off + k * 11 + 9, none⟩ = some (.int .i64 til) := hcel 9 _ rfl
      have y10 : wr.cell? ⟨ab, off + k * 11 + 10, none⟩ = some (.slice A3 n3 c3) := hcel 10 _ rfl
      have hk0 : (0 : Int) ≤ (k : Int) := Int.natCast_nonneg _
      have hk1 : (k : Int) < (n : Int) := by omega
      have HIB := Lib.hid (HID.out _ (List.mem_of_getElem? hx))
      have HCALL := Lib.hid (fun W => placeCmp_any ⟨id, kind, state, gst, lev, cab, cat, frm, upto, til, fol⟩ (.slice A3 n3 c3) t W)
      obtain ⟨z, hz⟩ : ∃ z, z = wrap64 (id - t) := ⟨_, rfl⟩
      have HZ := Lib.hid (show SmallN t → z = id - t from fun hs => by
        have h1 := HIB.out
        have h2 := hs.1
        have h3 := hs.2
        simp only at h1
        rw [hz]
        exact IntWalk.wrap64_in _ (by omega))
      simp only at HCALL
      rw [← hz] at HCALL
      have HX := Lib.hid hx
      clear hx
      clear hcel hF hI hz hk
      go_wp2_with fail
      refine (HCALL.out _).mono ?_
      rintro e w1 ⟨rfl, hb1⟩
      replace hb := hb.trans (hb1.mono hb.size)
      clear hb1 y0 y1 y2 y3 y4 y5 y6 y7 y8 y9 y10
      by_cases hz0 : z < 0
      · have HA2 := Lib.hid (show SmallN t → LowTo l t (k + 1) ∧ HighFrom l t j from fun hs => by
          obtain ⟨h1, h2⟩ := HA hs
          refine ⟨fun q b hq hb' => ?_, h2⟩
          have h3 := HZ.out hs
          rcases Nat.lt_or_ge q k with h4 | h4
          · have h5 := HR.out q k b _ h4 hb' HX.out
            simp only at h5
            omega
          · obtain rfl : q = k := by omega
            rw [HX.out] at hb'
            injection hb' with hb'
            subst hb'
            simp only
            omega)
        go_wp2_with fail
        go_roundg (j - (k + 1))
        case measure => omega
        case rel => exact ⟨k + 1, j, by omega, hjn, by omega, by go_num, rfl, HA2.out, hb⟩
      · have HA2 := Lib.hid (show SmallN t → LowTo l t i ∧ HighFrom l t k from fun hs => by
          obtain ⟨h1, h2⟩ := HA hs
          refine ⟨h1, fun q b hq hb' => ?_⟩
          have h3 := HZ.out hs
          rcases Nat.lt_or_ge k q with h4 | h4
          · have h5 := HR.out k q _ b h4 HX.out hb'
            simp only at h5
            omega
          · obtain rfl : q = k := by omega
            rw [HX.out] at hb'
            injection hb' with hb'
            subst hb'
            simp only
            omega)
        go_wp2_with fail
        go_roundg (k - i)
        case measure => omega
        case rel => exact ⟨i, k, by omega, by omega, by omega, rfl, rfl, HA2.out, hb⟩
    · obtain rfl : i = j := by omega
      have HPOS := Lib.hid (show SmallN t → i = posI l t from fun hs => (pos_of (by rw [HN.out]; exact hjn) (HA hs).1 (HA hs).2).symm)
      have HFAR := Lib.hid (show ¬ SmallN t → q = false from fun hs => by
        rw [HQ.out]
        refine has_far fun b hb' he => hs ?_
        have := HID.out b hb'
        exact ⟨by omega, by omega⟩)
      by_cases hin : i < n
      · obtain ⟨ab, off, ⟨id, kind, state, gst, lev, cab, cat, frm, upto, til, fol⟩, A3, n3, c3, hA, hx, hF, hI, hcel⟩ := (HL.out.bel hb).bkg hin
        subst hA
        have y0 : wr.cell? ⟨ab, off + i * 11, none⟩ = some (.int .i64 id) := hcel 0 _ rfl
        have y1 : wr.cell? ⟨ab, off + i * 11 + 1, none⟩ = some (.int .i64 kind) := hcel 1 _ rfl
        have y2 : wr.cell? ⟨ab, off + i * 11 + 2, none⟩ = some (.int .i64 state) := hcel 2 _ rfl
        have y3 : wr.cell? ⟨ab, off + i * 11 + 3, none⟩ = some (.int .i64 gst) := hcel 3 _ rfl
        have y4 : wr.cell? ⟨ab, off + i * 11 + 4, none⟩ = some (.bool lev) := hcel 4 _ rfl
        have y5 : wr.cell? ⟨ab, off + i * 11 + 5, none⟩ = some (.int .i64 cab) := hcel 5 _ rfl
        have y6 : wr.cell? ⟨ab, off + i * 11 + 6, none⟩ = some (.int .i64 cat) := hcel 6 _ rfl
        have y7 : wr.cell? ⟨ab, off + i * 11 + 7, none⟩ = some (.int .i64 frm) := hcel 7 _ rfl
        have y8 : wr.cell? ⟨ab, off + i * 11 + 8, none⟩ = some (.int .i64 upto) := hcel 8 _ rfl
        have y9 : wr.cell? ⟨ab, off + i * 11 + 9, none⟩ = some (.int .i64 til) := hcel 9 _ rfl
        have y10 : wr.cell? ⟨ab, off + i * 11 + 10, none⟩ = some (.slice A3 n3 c3) := hcel 10 _ rfl
        have hk0 : (0 : Int) ≤ (i : Int) := Int.natCast_nonneg _
        have hk1 : (i : Int) < (n : Int) := by omega
        have HCALL := Lib.hid (fun W => placeCmp_any ⟨id, kind, state, gst, lev, cab, cat, frm, upto, til, fol⟩ (.slice A3 n3 c3) t W)
        obtain ⟨z, hz⟩ : ∃ z, z = wrap64 (id - t) := ⟨_, rfl⟩
        have hie := hI.id
        have htt := HT.out
        have HZ := Lib.hid (show z = 0 ↔ id = t from by
          rw [hz]
          simp only at hie
          unfold InI at hie htt
          constructor
          · intro h0
            unfold wrap64 at h0
            omega
          · intro h0
            subst h0
            rw [Int.sub_self]
            exact IntWalk.wrap64_in _ (by omega))
        simp only at HCALL
        rw [← hz] at HCALL
        have HQZ := Lib.hid (show q = decide (z = 0) from by
          by_cases hs : SmallN t
          · rw [HQ.out, has_of HR.out (HA hs).1 (HA hs).2 hx]
            simp only
            exact decide_eq_decide.2 HZ.out.symm
          · rw [HFAR.out hs, eq_comm, decide_eq_false_iff_not]
            intro h0
            refine hs ?_
            have h1 := HZ.out.1 h0
            have h2 := HID.out _ (List.mem_of_getElem? hx)
            simp only at h2
            exact ⟨by omega, by omega⟩)
        clear hcel hF hI hz hie htt hx
        go_wp2_with fail
        refine (HCALL.out _).mono ?_
        rintro e w1 ⟨rfl, hb1⟩
        replace hb := hb.trans (hb1.mono hb.size)
        clear hb1 y0 y1 y2 y3 y4 y5 y6 y7 y8 y9 y10
        by_cases hz0 : z = 0
        · obtain rfl : q = true := by rw [HQZ.out, decide_eq_true hz0]
          subst hz0
          go_wp2_with fail
          go_ret2
          exact ⟨i, rfl, by have := HN.out; omega, HPOS.out, hb⟩
        · obtain rfl : q = false := by rw [HQZ.out, decide_eq_false hz0]
          have h0' : (z == 0) = false := by simpa using hz0
          clear hz0
          go_wp2_with fail
          go_ret2
          exact ⟨i, rfl, by have := HN.out; omega, HPOS.out, hb⟩
      · obtain rfl : i = n := by omega
        obtain rfl : q = false := by
          by_cases hs : SmallN t
          · rw [HQ.out]; exact has_no (by rw [HN.out]; exact (HA hs).1)
          · exact HFAR.out hs
        go_wp2_with fail
        go_ret2
        exact ⟨i, rfl, by have := HN.out; omega, HPOS.out, hb⟩
set_option maxRecDepth 100000 in
set_option maxHeartbeats 4000000 in
theorem Place_any (x : Sai) (p : SaiV) (t : Int) (w : World) (hl : Sl bkgC 11 w All p.C p.nb p.cb x.bks) (hr : Rise x.bks) (hid : ∀ b ∈ x.bks, 1 ≤ b.id ∧ b.id ≤ 999999) (hn : x.bks.length ≤ 16) (ht : InI t) :
    Calls Tryz.prog 164 #[.agg (saiA x p), .int .i64 t] w fun e w' => ∃ i : Nat, e = .returned (.tuple #[.int .i64 (i : Int), .bool (hasId x.bks t)]) ∧ i ≤ x.bks.length ∧ (SmallN t → i = posI x.bks t) ∧ Below w.heap.size w w' := by
  obtain ⟨A, n, cap, B, m, cap2, D, nd, cd, E, ne, ce, C, nb, cb⟩ := p
  simp only at hl
  have hnb : nb ≤ 16 := by rw [← hl.len]; exact hn
  have HBS := Lib.hid (fun W h => binS_any C nb cb x.bks t W h hr hid hnb ht)
  have HL := Lib.hid hl
  clear hl hr hid hn
  go_enter Tryz.func164, Tryz.ntmps164
  go_upto_region 0 with (fail)
  go_cut [2, 4, 5] (fun q _ _ wx => ∃ g, q = .pointer (some ⟨g, 0, none⟩) ∧ Blk wx g (saiA x ⟨A, n, cap, B, m, cap2, D, nd, cd, E, ne, ce, C, nb, cb⟩) 32 ∧ Below w.heap.size w wx)
  case first => as_aux_lemma =>
    go_wp2_with fail
    go_meet
    exact ⟨_, rfl, blk1 _ _, bel1 _ _⟩
  obtain ⟨g, rfl, hG, hbw⟩ := hcut
  have s11 : wc.cell? ⟨g, 11, none⟩ = some (.slice C nb cb) := hG.cell rfl
  have HCALL := Lib.hid (HBS.out wc (HL.out.bel hbw))
  clear hG
  go_wp2_with fail
  refine HCALL.out.mono ?_
  rintro e w2 ⟨i, rfl, hi, HP, hb2⟩
  have HPP := Lib.hid HP
  have HII := Lib.hid hi
  clear HP hi
  go_wp2_with fail
  go_ret2
  exact ⟨i, rfl, HII.out, HPP.out, hbw.trans (hb2.mono hbw.size)⟩
end Go.Proofs.YtoilcdgpeilgaaaGreat
namespace Go.Proofs.YtoilcdgpeilgaaaGreat
open Go.RowKit Go.Shelf
section
variable {α : Type} {c : Cod α} {size : Nat} {e : TypeId} {w w' : World} {base : Nat} {v : Value} {l : List α} {xs : List Value} {G : Nat → Prop}
end
theorem Own.neTy {α : Type} {c : Cod α} {size : Nat} {e t : TypeId} {w : World} {base : Nat} {v : Value} {l : List α} {xs : List Value} {k : Nat} {cs : Array Value} (h : Own c size e w base v l xs) (hB : Blk w k cs t) (hte : t ≠ e) : v.ownBlock ≠ some k := by
  intro hv
  rcases h.row.2 with ⟨rfl, _⟩ | ⟨g, cap, cur, rfl, _, hgg, _⟩
  · simp [Value.ownBlock] at hv
  · obtain rfl : g = k := by simpa [Value.ownBlock] using hv
    have hB' : w.heap[g]? = some (.cells cs t (0, 0)) := hB
    rw [hgg] at hB'
    simp only [Option.some.injEq, Obj.cells.injEq] at hB'
    exact hte hB'.2.1.symm
end Go.Proofs.YtoilcdgpeilgaaaGreat
namespace Go.Proofs.YtoilcdgpeilgaaaGreat
open Go.RowKit Go.Shelf
def mst (l : List Int) : Int := max 0 (mx l)
theorem mst_succ {l : List Int} {k : Nat} {x : Int} (h : l[k]? = some x) : mst (l.take (k + 1)) = max (mst (l.take k)) x := by
  unfold mst
  rw [take_snoc h, mx_snoc]; omega
set_option maxHeartbeats 1000000 in
theorem most_any (A : Option Addr) (n cap : Nat) (l : List Int) (w : World) (h : Sl intC 1 w All A n cap l) (h0 : ∀ x ∈ l, -1000000000000000 ≤ x ∧ x ≤ 1000000000000000) :
    Calls Tryz.prog 190 #[.slice A n cap] w fun e w' => e = .returned (.int .i64 (mst l)) ∧ ∃ q, w' = w.drewN q := by
  have hbd := h.bd
  have HN := Lib.hid h.len
  have HS := Lib.hid h
  have HH := Lib.hid h0
  clear h0
  clear h
  go_enter Tryz.func190, Tryz.ntmps190
  go_wp2_with fail
  go_loopg [3, 4] n (fun gk v i wr => ∃ k : Nat, k ≤ n ∧ n - k ≤ gk ∧ i = .int .i64 k ∧ v = .int .i64 (mst (l.take k)) ∧ wr = w)
  case atStart => exact ⟨0, Nat.zero_le _, by omega, rfl, rfl, rfl⟩
  case round =>
    obtain ⟨k, hk, hgk, rfl, rfl, rfl⟩ := hrel
    obtain ⟨M, hM⟩ : ∃ M, M = mst (l.take k) := ⟨_, rfl⟩
    rw [← hM]
    by_cases hlt : k < n
    · obtain ⟨b, off, y, c0, rfl, hy, ⟨hc, _⟩, g0⟩ := HS.out.at1 hlt
      simp only [List.cons.injEq, and_true] at hc
      subst hc
      have hst := mst_succ hy
      rw [← hM] at hst
      have HST := Lib.hid hst
      clear hst
      have HMM := Lib.hid hM
      clear hM
      clear hy
      have hk0 : (0 : Int) ≤ (k : Int) := Int.natCast_nonneg _
      have hk1 : (k : Int) < (n : Int) := by omega
      by_cases hgt : M < y
      · have HV := Lib.hid (show mst (l.take (k + 1)) = y by rw [HST.out]; omega)
        go_wp2_with fail
        go_roundg (n - (k + 1))
        case measure => omega
        case rel => exact ⟨k + 1, by omega, by omega, by go_num, by rw [HV.out], rfl⟩
      · have HV := Lib.hid (show mst (l.take (k + 1)) = M by rw [HST.out]; omega)
        go_wp2_with fail
        go_roundg (n - (k + 1))
        case measure => omega
        case rel => exact ⟨k + 1, by omega, by omega, by go_num, by rw [HV.out], rfl⟩
    · obtain rfl : k = n := by omega
      have HV := Lib.hid (show M = mst l by rw [hM, List.take_of_length_le (Nat.le_of_eq HN.out)])
      clear hM
      go_wp2_with fail
      go_ret
      exact ⟨retI HV.out, 0, rfl⟩
theorem empty_iff {l : List Bkg} {c : Nat} (hok : SpOk l) : (takB l (c : Int) && decide ((takL l (c : Int)).length = 0)) = emptyB l c := by
  have h1 : (spL l (c : Int)).length = 0 ↔ emptyB l c = true := by
    unfold spL emptyB
    rw [List.length_map, List.length_eq_zero_iff, List.filter_eq_nil_iff]
    simp
  cases hq : spF (spL l (c : Int)) with
  | none =>
    have e1 : takB l (c : Int) = false := by unfold takB; rw [hq]; rfl
    rw [e1, Bool.false_and]
    cases he : emptyB l c with
    | false => rfl
    | true =>
      have := List.eq_nil_of_length_eq_zero (h1.2 he)
      rw [this] at hq
      cases hq
  | some o =>
    obtain ⟨e1, e2⟩ := tak_of hq
    have hp := (spF_some (fun x hx => (spL_ok hok x hx).2.1) hq).1
    rw [e1, e2, Bool.true_and, hp.length_eq]
    cases he : emptyB l c with
    | true => exact decide_eq_true (h1.2 he)
    | false => exact decide_eq_false fun h => by rw [h1.1 h] at he; cases he
set_option maxRecDepth 100000 in
set_option maxHeartbeats 16000000 in
theorem PromisesOf_any (x : Sai) (p : SaiV) (w : World) (h : SaiR w x p) (ho : OkShp x.ship) (hk : ∀ b ∈ x.bks, OkBk x.ship b) (h16 : x.bks.length ≤ 16) :
    Calls Tryz.prog 192 #[.agg (saiA x p)] w fun e w' => ∃ v1 v2 xs1 xs2, e = .returned (.tuple #[v1, v2]) ∧ Own intC 1 3 w' w.heap.size v1 (idsL x) xs1 ∧ Own edgC 2 115 w' w.heap.size v2 (edgL x) xs2 ∧ Below w.heap.size w w' := by
  obtain ⟨A, n, cap, B, m, cap2, D, nd, cd, E, ne, ce, C, nb, cb⟩ := p
  have hl : Sl bkgC 11 w All C nb cb x.bks := h.bks
  have hc : Sl catC 2 w All A n cap x.ship.cats := h.cats
  have hd : Sl cabC 4 w All B m cap2 x.ship.cabs := h.cabs
  have HEL := Lib.hid (fun b v (k : Nat) W h1 h2 h3 h4 h5 => IsEligible_any x.ship A n cap B m cap2 b v k W h1 h2 ho h3 h4 h5)
  have HSF := Lib.hid (fun (c : Int) W hW => SpansOf_any C nb cb x.bks c W hW (spOk_of ho hk))
  have HEM := Lib.hid (fun c : Nat => empty_iff (c := c) (spOk_of ho hk))
  have HN := Lib.hid hl.len
  have hnb : nb ≤ 16 := by rw [← hl.len]; exact h16
  have hm12 : m ≤ 12 := by rw [← hd.len]; exact ho.cabs12
  have HNC := Lib.hid hc.len
  have HM := Lib.hid hd.len
  have HL := Lib.hid hl
  have HC := Lib.hid hc
  have HD := Lib.hid hd
  have HK := Lib.hid hk
  clear hk
  clear h hl hc hd h16
  go_enter Tryz.func192, Tryz.ntmps192
  go_upto_region 0 with (fail)
  go_cut [1, 2, 3] (fun q _ _ wx => ∃ g, q = .pointer (some ⟨g, 0, none⟩) ∧ Blk wx g (saiA x ⟨A, n, cap, B, m, cap2, D, nd, cd, E, ne, ce, C, nb, cb⟩) 32 ∧ Below w.heap.size w wx)
  case first => as_aux_lemma =>
    go_wp2_with fail
    go_meet
    exact ⟨_, rfl, blk1 _ _, bel1 _ _⟩
  obtain ⟨g, rfl, hG, hbw⟩ := hcut
  obtain ⟨W0, hW0⟩ : ∃ W, W = wc := ⟨_, rfl⟩
  subst hW0
  have HGL := Lib.hid hG.lt
  have HG := Lib.hid hG
  clear hG
  have HBW := Lib.hid hbw
  clear hbw
  go_wp2_with fail
  go_loopg [4, 5, 6] nb (fun gk v1 v2 i wr => ∃ (k : Nat) (xs1 xs2 : List Value), k ≤ nb ∧ nb - k ≤ gk ∧ i = .int .i64 k ∧ Own intC 1 3 wr W0.heap.size v1 ((openN x k).map (·.id)) xs1 ∧ Own edgC 2 115 wr W0.heap.size v2 (edgF x (openN x k) 0) xs2 ∧ Apart v1 v2 ∧ Below W0.heap.size W0 wr)
  case atStart => exact ⟨0, [], [], Nat.zero_le _, by omega, rfl, Own.nil _ _ _ _ _, Own.nil _ _ _ _ _, Apart.nilL _, Below.refl _ _⟩
  case round =>
    obtain ⟨k, xs1, xs2, hk, hgk, rfl, hO1, hO2, hap, hb⟩ := hrel
    obtain ⟨A1, n1, c1, rfl, hs1⟩ := hO1.sl intC_good
    obtain ⟨A2, n2, c2, rfl, hs2⟩ := hO2.sl edgC_good
    have hG := HG.out.bel hb
    by_cases hlt : k < nb
    · have hln1 : n1 = (openN x k).length := by have := hs1.len; rw [List.length_map] at this; exact this.symm
      have hbo := HBW.out.trans (hb.mono HBW.out.size)
      obtain ⟨ab, off, ⟨id, kind, state, gst, lev, cab, cat, frm, upto, til, fol⟩, A3, n3, c3, hA, hx, hF, hI, hcel⟩ := (HL.out.bel hbo).bkg hlt
      subst hA
      simp only at hF
      have y0 : wr.cell? ⟨ab, off + k * 11, none⟩ = some (.int .i64 id) := hcel 0 _ rfl
      have y1 : wr.cell? ⟨ab, off + k * 11 + 1, none⟩ = some (.int .i64 kind) := hcel 1 _ rfl
      have y2 : wr.cell? ⟨ab, off + k * 11 + 2, none⟩ = some (.int .i64 state) := hcel 2 _ rfl
      have y3 : wr.cell? ⟨ab, off + k * 11 + 3, none⟩ = some (.int .i64 gst) := hcel 3 _ rfl
      have y4 : wr.cell? ⟨ab, off + k * 11 + 4, none⟩ = some (.bool lev) := hcel 4 _ rfl
      have y5 : wr.cell? ⟨ab, off + k * 11 + 5, none⟩ = some (.int .i64 cab) := hcel 5 _ rfl
      have y6 : wr.cell? ⟨ab, off + k * 11 + 6, none⟩ = some (.int .i64 cat) := hcel 6 _ rfl
      have y7 : wr.cell? ⟨ab, off + k * 11 + 7, none⟩ = some (.int .i64 frm) := hcel 7 _ rfl
      have y8 : wr.cell? ⟨ab, off + k * 11 + 8, none⟩ = some (.int .i64 upto) := hcel 8 _ rfl
      have y9 : wr.cell? ⟨ab, off + k * 11 + 9, none⟩ = some (.int .i64 til) := hcel 9 _ rfl
      have y10 : wr.cell? ⟨ab, off + k * 11 + 10, none⟩ = some (.slice A3 n3 c3) := hcel 10 _ rfl
      clear hcel
      have s11 : wr.cell? ⟨g, 11, none⟩ = some (.slice (some ⟨ab, off, none⟩) nb cb) := hG.cell rfl
      go_upto_region 6 with (fail)
      go_cut [7] (fun p1 wx => ∃ z, p1 = .pointer (some ⟨z, 0, none⟩) ∧ wr.heap.size ≤ z ∧ Blk wx z (bkgA ⟨id, kind, state, gst, lev, cab, cat, frm, upto, til, fol⟩ (.slice A3 n3 c3)) 37 ∧ Below wr.heap.size wr wx)
      case first => as_aux_lemma =>
        go_wp2_with fail
        go_meet
        exact ⟨_, rfl, Nat.le_refl _, blk1 _ _, bel1 _ _⟩
      obtain ⟨z, rfl, hzs, hZ, hbz⟩ := hcut
      clear y0 y1 y2 y3 y4 y5 y6 y7 y8 y9 y10 hs1 hs2 hF s11 hG
      have hl1 := hO1.lt
      have hl2 := hO2.lt
      have hz1 : (Value.slice A1 n1 c1).ownBlock ≠ some z := fun e => by have := (hl1 z e).2; omega
      have hz2 : (Value.slice A2 n2 c2).ownBlock ≠ some z := fun e => by have := (hl2 z e).2; omega
      replace hO1 := hO1.bel hbz
      replace hO2 := hO2.bel hbz
      replace hb := hb.trans (hbz.mono hb.size)
      have hfin := openN_succ hx
      have hopl := openN_len x k
      have HOK := Lib.hid (HK.out _ (List.mem_of_getElem? hx))
      obtain ⟨q, hq⟩ : ∃ q, q = openB ⟨id, kind, state, gst, lev, cab, cat, frm, upto, til, fol⟩ := ⟨_, rfl⟩
      have HCALL := Lib.hid (fun W => isOpen_any ⟨id, kind, state, gst, lev, cab, cat, frm, upto, til, fol⟩ (.slice A3 n3 c3) W)
      rw [← hq] at HCALL hfin
      obtain ⟨ON, hON⟩ : ∃ ON, ON = openN x k := ⟨_, rfl⟩
      rw [← hON] at hO1 hO2 hln1 hopl hfin
      have HFIN := Lib.hid hfin
      clear hfin
      have HQ := Lib.hid hq
      clear hq
      have HLN1 := Lib.hid hln1
      clear hln1
      have hidI := hI.id
      simp only at hidI
      have hidI' := Lib.hid hidI
      have z0 : wc.cell? ⟨z, 0, none⟩ = some (.int .i64 id) := hZ.cell rfl
      have z1 : wc.cell? ⟨z, 1, none⟩ = some (.int .i64 kind) := hZ.cell rfl
      have z2 : wc.cell? ⟨z, 2, none⟩ = some (.int .i64 state) := hZ.cell rfl
      have z3 : wc.cell? ⟨z, 3, none⟩ = some (.int .i64 gst) := hZ.cell rfl
      have z4 : wc.cell? ⟨z, 4, none⟩ = some (.bool lev) := hZ.cell rfl
      have z5 : wc.cell? ⟨z, 5, none⟩ = some (.int .i64 cab) := hZ.cell rfl
      have z6 : wc.cell? ⟨z, 6, none⟩ = some (.int .i64 cat) := hZ.cell rfl
      have z7 : wc.cell? ⟨z, 7, none⟩ = some (.int .i64 frm) := hZ.cell rfl
      have z8 : wc.cell? ⟨z, 8, none⟩ = some (.int .i64 upto) := hZ.cell rfl
      have z9 : wc.cell? ⟨z, 9, none⟩ = some (.int .i64 til) := hZ.cell rfl
      have z10 : wc.cell? ⟨z, 10, none⟩ = some ((.slice A3 n3 c3)) := hZ.cell rfl
      have HO1 := Lib.hid hO1
      clear hO1
      have HO2 := Lib.hid hO2
      clear hO2
      have HAP := Lib.hid hap
      clear hap
      have HZ1 := Lib.hid hz1
      clear hz1
      have HZ2 := Lib.hid hz2
      clear hz2
      clear hx hI hbz hON hl1 hl2 hidI hbo
      go_wp2_with fail
      refine (HCALL.out _).mono ?_
      rintro e w3 ⟨rfl, hb3⟩
      replace hb := hb.trans (hb3.mono hb.size)
      have hZ := hZ.bel hb3
      have hO1 := HO1.out.bel hb3
      have hO2 := HO2.out.bel hb3
      have hzw := hZ.lt
      clear hb3 z0 z1 z2 z3 z4 z5 z6 z7 z8 z9 z10 HCALL HO1 HO2
      cases q
      · have HV := Lib.hid (HFIN.out.trans (by simp : _ = ON))
        have HO1 := Lib.hid hO1
        clear hO1
        have HO2 := Lib.hid hO2
        clear hO2
        clear hZ
        go_wp2_with fail
        go_roundg (nb - (k + 1))
        case measure => omega
        case rel => exact ⟨k + 1, xs1, xs2, by omega, by omega, by go_num, by rw [HV.out]; exact HO1.out, by rw [HV.out]; exact HO2.out, HAP.out, hb⟩
      · have HV := Lib.hid (HFIN.out.trans (by simp : _ = ON ++ [⟨id, kind, state, gst, lev, cab, cat, frm, upto, til, fol⟩]))
        have HCT := Lib.hid (open_cat HOK.out HQ.out.symm)
        obtain ⟨ln, hln⟩ : ∃ ln : Nat, ln = n1 := ⟨_, rfl⟩
        have HLN := Lib.hid (hln.trans HLN1.out)
        have HL1N := Lib.hid hln
        have HO1 := Lib.hid hO1
        clear hO1
        have HO2 := Lib.hid hO2
        clear hO2
        have HZ := Lib.hid hZ
        clear hZ
        have HB := Lib.hid hb
        clear hb
        clear hln
        go_wp2_with fail
        go_loopg [5, 8] m (fun gk2 v2 i wr2 => ∃ (j : Nat) (xs2 : List Value), j ≤ m ∧ m - j ≤ gk2 ∧ i = .int .i64 j ∧ Own intC 1 3 wr2 W0.heap.size (.slice A1 n1 c1) (ON.map (·.id)) xs1 ∧ Own edgC 2 115 wr2 W0.heap.size v2 (edgF x ON 0 ++ toE ON.length (mayN x ⟨id, kind, state, gst, lev, cab, cat, frm, upto, til, fol⟩ j)) xs2 ∧ Apart (.slice A1 n1 c1) v2 ∧ v2.ownBlock ≠ some z ∧ Blk wr2 z (bkgA ⟨id, kind, state, gst, lev, cab, cat, frm, upto, til, fol⟩ (.slice A3 n3 c3)) 37 ∧ Below W0.heap.size W0 wr2)
        case atStart => exact ⟨0, _, Nat.zero_le _, by omega, rfl, HO1.out, by show Own _ _ _ _ _ _ (_ ++ []) _; rw [List.append_nil]; exact HO2.out, HAP.out, HZ2.out, HZ.out, HB.out⟩
        case round =>
          obtain ⟨j, xs2, hj, hgj, rfl, hO1, hO2, hap, hne, hZ, hb⟩ := hrel
          obtain ⟨A4, n4, c4, rfl, hs4⟩ := hO2.sl edgC_good
          have hn4 : n4 ≤ 1000 := by
            have h1 := hs4.len
            have h2 := edgF_len x ON 0
            have h3 := mayN_len x ⟨id, kind, state, gst, lev, cab, cat, frm, upto, til, fol⟩ j
            have h4 : ON.length * x.ship.cabs.length ≤ 16 * 12 := Nat.mul_le_mul (by omega) (by rw [HM.out]; exact hm12)
            rw [List.length_append] at h1
            unfold toE at h1
            rw [List.length_map] at h1
            omega
          have hG := HG.out.bel hb
          have s3 : wr.cell? ⟨g, 3, none⟩ = some (.slice B m cap2) := hG.cell rfl
          have s11 : wr.cell? ⟨g, 11, none⟩ = some (.slice (some ⟨ab, off, none⟩) nb cb) := hG.cell rfl
          by_cases hlj : j < m
          · have hbo := HBW.out.trans (hb.mono HBW.out.size)
            have hsu := mayN_succ x ⟨id, kind, state, gst, lev, cab, cat, frm, upto, til, fol⟩ j
            have hcall := HEL.out ⟨id, kind, state, gst, lev, cab, cat, frm, upto, til, fol⟩ (.slice A3 n3 c3) j
            obtain ⟨f, hf⟩ : ∃ f, f = eligB x.ship ⟨id, kind, state, gst, lev, cab, cat, frm, upto, til, fol⟩ (j : Int) := ⟨_, rfl⟩
            have hem := HEM.out j
            obtain ⟨em, hemq⟩ : ∃ q, q = emptyB x.bks j := ⟨_, rfl⟩
            have hsf := HSF.out (j : Int) wr (HL.out.bel hbo)
            obtain ⟨tb, htb⟩ : ∃ q, q = takB x.bks (j : Int) := ⟨_, rfl⟩
            obtain ⟨tl, htl⟩ : ∃ q, q = takL x.bks (j : Int) := ⟨_, rfl⟩
            rw [← hf] at hcall hsu
            rw [← hemq] at hsu hem
            rw [← htb, ← htl] at hem hsf
            have HEMQ := Lib.hid hem
            clear hem
            have HSU := Lib.hid hsu
            clear hsu
            have HCALL := Lib.hid hcall
            clear hcall
            have HSFC := Lib.hid hsf
            clear hsf
            have HO1 := Lib.hid hO1
            clear hO1
            have HO2 := Lib.hid hO2
            clear hO2
            have HAP := Lib.hid hap
            clear hap
            have HNE := Lib.hid hne
            clear hne
            clear hf hemq htb htl hs4 hG
            have HZ := Lib.hid hZ
            clear hZ
            go_wp2_with fail
            refine HSFC.out.mono ?_
            rintro e w5 ⟨v5, xs5, rfl, hO5, hb5⟩
            obtain ⟨A5, n5, c5, rfl, hs5⟩ := hO5.sl spanC_good
            have hn5 : tl.length = n5 := hs5.len
            replace hb := hb.trans (hb5.mono hb.size)
            replace hbo := hbo.trans (hb5.mono hbo.size)
            have hG := HG.out.bel hb
            have hZ := HZ.out.bel hb5
            have hO1 := HO1.out.bel hb5
            have hO2 := HO2.out.bel hb5
            have HEM2 := Lib.hid HEMQ.out
            rw [hn5] at HEM2
            have HO1' := Lib.hid hO1
            clear hO1
            have HO2' := Lib.hid hO2
            clear hO2
            clear hb5 hO5 hs5 hn5 s3 s11 HO1 HO2 HSFC HEMQ HZ
            have HNO := Lib.hid (show ∀ W2 : World, em = false → Below W0.heap.size W0 W2 → Below w5.heap.size w5 W2 → (mayN x ⟨id, kind, state, gst, lev, cab, cat, frm, upto, til, fol⟩ (j + 1) = mayN x ⟨id, kind, state, gst, lev, cab, cat, frm, upto, til, fol⟩ j) ∧ Own intC 1 3 W2 W0.heap.size (.slice A1 n1 c1) (ON.map (·.id)) xs1 ∧ Own edgC 2 115 W2 W0.heap.size (.slice A4 n4 c4) (edgF x ON 0 ++ toE ON.length (mayN x ⟨id, kind, state, gst, lev, cab, cat, frm, upto, til, fol⟩ j)) xs2 ∧ Blk W2 z (bkgA ⟨id, kind, state, gst, lev, cab, cat, frm, upto, til, fol⟩ (.slice A3 n3 c3)) 37 from fun W2 he _ h2 =>
              ⟨by rw [HSU.out, he]; simp, HO1'.out.bel h2, HO2'.out.bel h2, hZ.bel h2⟩)
            cases tb
            · have HE := Lib.hid (show em = false from by have := HEM2.out; rw [Bool.false_and] at this; exact this.symm)
              clear hG
              have HZZ := Lib.hid hZ
              clear hZ
              go_wp2_with fail
              obtain ⟨p0, p1, p2, p3⟩ := HNO.out w5 HE.out hb (Below.refl _ _)
              go_roundg (m - (j + 1))
              case measure => omega
              case rel => exact ⟨j + 1, xs2, by omega, by omega, by go_num, p1, by rw [p0]; exact p2, HAP.out, HNE.out, p3, hb⟩
            by_cases h5 : n5 = 0
            rotate_left
            · have HE := Lib.hid (show em = false from by have := HEM2.out; rw [decide_eq_false h5, Bool.and_false] at this; exact this.symm)
              have h5' : ((n5 : Int) == 0) = false := by rw [beq_eq_false_iff_ne]; omega
              clear hG h5
              have HZZ := Lib.hid hZ
              clear hZ
              go_wp2_with fail
              obtain ⟨p0, p1, p2, p3⟩ := HNO.out w5 HE.out hb (Below.refl _ _)
              go_roundg (m - (j + 1))
              case measure => omega
              case rel => exact ⟨j + 1, xs2, by omega, by omega, by go_num, p1, by rw [p0]; exact p2, HAP.out, HNE.out, p3, hb⟩
            have HE := Lib.hid (show em = true from by have := HEM2.out; rw [decide_eq_true h5] at this; exact this.symm)
            subst h5
            clear HNO
            have s0 : w5.cell? ⟨g, 0, none⟩ = some (.int .i64 x.ship.legs) := hG.cell rfl
            have s1 : w5.cell? ⟨g, 1, none⟩ = some (.int .i64 x.ship.souls) := hG.cell rfl
            have s2 : w5.cell? ⟨g, 2, none⟩ = some (.slice A n cap) := hG.cell rfl
            have s3 : w5.cell? ⟨g, 3, none⟩ = some (.slice B m cap2) := hG.cell rfl
            have s4 : w5.cell? ⟨g, 4, none⟩ = some (.slice D nd cd) := hG.cell rfl
            have s5 : w5.cell? ⟨g, 5, none⟩ = some (.int .i64 x.fares.alone) := hG.cell rfl
            have s6 : w5.cell? ⟨g, 6, none⟩ = some (.int .i64 x.fares.third) := hG.cell rfl
            have s7 : w5.cell? ⟨g, 7, none⟩ = some (.slice E ne ce) := hG.cell rfl
            have s8 : w5.cell? ⟨g, 8, none⟩ = some (.int .i64 x.fares.down) := hG.cell rfl
            have s9 : w5.cell? ⟨g, 9, none⟩ = some (.int .i64 x.day) := hG.cell rfl
            have s10 : w5.cell? ⟨g, 10, none⟩ = some (.int .i64 x.leaves) := hG.cell rfl
            have s11 : w5.cell? ⟨g, 11, none⟩ = some (.slice (some ⟨ab, off, none⟩) nb cb) := hG.cell rfl
            have s12 : w5.cell? ⟨g, 12, none⟩ = some (.bool x.closed) := hG.cell rfl
            have z0 : w5.cell? ⟨z, 0, none⟩ = some (.int .i64 id) := hZ.cell rfl
            have z1 : w5.cell? ⟨z, 1, none⟩ = some (.int .i64 kind) := hZ.cell rfl
            have z2 : w5.cell? ⟨z, 2, none⟩ = some (.int .i64 state) := hZ.cell rfl
            have z3 : w5.cell? ⟨z, 3, none⟩ = some (.int .i64 gst) := hZ.cell rfl
            have z4 : w5.cell? ⟨z, 4, none⟩ = some (.bool lev) := hZ.cell rfl
            have z5 : w5.cell? ⟨z, 5, none⟩ = some (.int .i64 cab) := hZ.cell rfl
            have z6 : w5.cell? ⟨z, 6, none⟩ = some (.int .i64 cat) := hZ.cell rfl
            have z7 : w5.cell? ⟨z, 7, none⟩ = some (.int .i64 frm) := hZ.cell rfl
            have z8 : w5.cell? ⟨z, 8, none⟩ = some (.int .i64 upto) := hZ.cell rfl
            have z9 : w5.cell? ⟨z, 9, none⟩ = some (.int .i64 til) := hZ.cell rfl
            have z10 : w5.cell? ⟨z, 10, none⟩ = some ((.slice A3 n3 c3)) := hZ.cell rfl
            have hcall := HCALL.out w5 (HC.out.bel hbo) (HD.out.bel hbo) hlj HCT.out.1 (by have := HCT.out.2; rwa [HNC.out] at this)
            have HCALL2 := Lib.hid hcall
            clear hcall
            have HZZ := Lib.hid hZ
            clear hZ
            clear hG HCALL
            go_wp2_with fail
            refine HCALL2.out.mono ?_
            rintro e w6 ⟨rfl, hb6⟩
            replace hb := hb.trans (hb6.mono hb.size)
            have hZ := HZZ.out.bel hb6
            have hO1 := HO1'.out.bel hb6
            have hO2 := HO2'.out.bel hb6
            clear hb6 s0 s1 s2 s3 s4 s5 s6 s7 s8 s9 s10 s11 s12 z0 z1 z2 z3 z4 z5 z6 z7 z8 z9 z10 HO1' HO2' HZZ HCALL2
            cases f
            · have HV2 := Lib.hid (show mayN x ⟨id, kind, state, gst, lev, cab, cat, frm, upto, til, fol⟩ (j + 1) = mayN x ⟨id, kind, state, gst, lev, cab, cat, frm, upto, til, fol⟩ j by rw [HSU.out]; simp)
              have HO1' := Lib.hid hO1
              clear hO1
              have HO2' := Lib.hid hO2
              clear hO2
              have HZ5 := Lib.hid hZ
              clear hZ
              go_wp2_with fail
              go_roundg (m - (j + 1))
              case measure => omega
              case rel => exact ⟨j + 1, xs2, by omega, by omega, by go_num, HO1'.out, by rw [HV2.out]; exact HO2'.out, HAP.out, HNE.out, HZ5.out, hb⟩
            · have HV2 := Lib.hid (show edgF x ON 0 ++ toE ON.length (mayN x ⟨id, kind, state, gst, lev, cab, cat, frm, upto, til, fol⟩ (j + 1)) = (edgF x ON 0 ++ toE ON.length (mayN x ⟨id, kind, state, gst, lev, cab, cat, frm, upto, til, fol⟩ j)) ++ [⟨(ln : Int), (j : Int)⟩] by
                rw [HSU.out, if_pos (by rw [HE.out]; rfl), toE_app, ← List.append_assoc, HLN.out]; rfl)
              have hln2 : ln = n1 := HL1N.out
              have hlnb : ln ≤ 16 := by have := HLN.out; omega
              subst hln2
              have hO1q := hO1.bel (bel1 w6 (.cells #[.int .i64 (ln : Int), .int .i64 (j : Int)] 115))
              have hOq := hO2.bel (bel1 w6 (.cells #[.int .i64 (ln : Int), .int .i64 (j : Int)] 115))
              have hZq := hZ.bel (bel1 w6 (.cells #[.int .i64 (ln : Int), .int .i64 (j : Int)] 115))
              have hsw := hb.size
              have hsq : W0.heap.size ≤ (w6.alloc (.cells #[.int .i64 (ln : Int), .int .i64 (j : Int)] 115)).heap.size := by simp; omega
              have hby2 : ((edgF x ON 0 ++ toE ON.length (mayN x ⟨id, kind, state, gst, lev, cab, cat, frm, upto, til, fol⟩ j)).length + 1) * 16 ≤ 140737488355328 := by
                obtain ⟨_, _, _, he, hs9⟩ := hO2.sl edgC_good
                simp only [Value.slice.injEq] at he
                have := hs9.len
                omega
              have HBQ := Lib.hid (hb.alloc hb.size (.cells #[.int .i64 (ln : Int), .int .i64 (j : Int)] 115))
              have HPOST := Lib.hid (fun (v' : Value) (w' : World) (xs' : List Value) (hown' : Own edgC 2 115 w' W0.heap.size v' ((edgF x ON 0 ++ toE ON.length (mayN x ⟨id, kind, state, gst, lev, cab, cat, frm, upto, til, fol⟩ j)) ++ [⟨(ln : Int), (j : Int)⟩]) xs') (hg' : (w6.alloc (.cells #[.int .i64 (ln : Int), .int .i64 (j : Int)] 115)).grownBy w' (Value.slice A4 n4 c4).ownBlock) (hat : v'.ownBlock = (Value.slice A4 n4 c4).ownBlock ∨ v'.ownBlock = some (w6.alloc (.cells #[.int .i64 (ln : Int), .int .i64 (j : Int)] 115)).heap.size) =>
                (⟨Own.grownF intC_flat hO1q hg' HAP.out, Apart.step HAP.out (fun k hk => (hO1q.lt k hk).2) hat, (show v'.ownBlock ≠ some z from by
                  rcases hat with e | e
                  · rw [e]; exact HNE.out
                  · rw [e]; intro h2; injection h2 with h2; have := hZq.lt; omega), Blk.grown hZq hg' (fun e => HNE.out e.symm), below_app HBQ.out hOq hg' hsq⟩ : Own intC 1 3 w' W0.heap.size (.slice A1 ln c1) (ON.map (·.id)) xs1 ∧ Apart (.slice A1 ln c1) v' ∧ v'.ownBlock ≠ some z ∧ Blk w' z (bkgA ⟨id, kind, state, gst, lev, cab, cat, frm, upto, til, fol⟩ (.slice A3 n3 c3)) 37 ∧ Below W0.heap.size W0 w'))
              have HSLE := Lib.hid (sl_edg w6 All (ln : Int) (j : Int) 115 (.of (by omega) (by omega)) (.of (by omega) (by omega)) trivial)
              have HOQ := Lib.hid hOq
              clear hO1 hO2 hZ hO1q hOq hZq hb
              go_wp2_with (at_builtin; refine list_app (t := 65) (e := 115) (bytes := 16) rfl (.tmp 54) (.tmp 59) rfl edg_elem edgC_good rfl HOQ.out rfl HSLE.out (fun _ _ hc => hc) hby2 (by omega) hsq ?_; intro v' w' xs' hown' hg' hat')
              obtain ⟨p1, p2, p3, p4, p5⟩ := HPOST.out _ _ _ hown' hg' hat'
              go_roundg (m - (j + 1))
              case measure => omega
              case rel => exact ⟨j + 1, xs', by omega, by omega, by go_num, p1, by rw [HV2.out]; exact hown', p2, p3, p4, p5⟩
          · obtain rfl : j = m := by omega
            have HV3 := Lib.hid (show edgF x (openN x (k + 1)) 0 = edgF x ON 0 ++ toE ON.length (mayN x ⟨id, kind, state, gst, lev, cab, cat, frm, upto, til, fol⟩ j) by rw [HV.out, edgF_snoc, Nat.zero_add, mayL_eq, HM.out])
            have HV4 := Lib.hid (show (openN x (k + 1)).map (·.id) = ON.map (·.id) ++ [id] by rw [HV.out, List.map_append]; rfl)
            have z0 : wr.cell? ⟨z, 0, none⟩ = some (.int .i64 id) := hZ.cell rfl
            have hOq := hO1.bel (bel1 wr (.cells #[.int .i64 id] 3))
            have hO2q := hO2.bel (bel1 wr (.cells #[.int .i64 id] 3))
            have hsw := hb.size
            have hsq : W0.heap.size ≤ (wr.alloc (.cells #[.int .i64 id] 3)).heap.size := by simp; omega
            have hby2 : ((ON.map (·.id)).length + 1) * 8 ≤ 140737488355328 := by rw [List.length_map]; omega
            have HBQ := Lib.hid (hb.alloc hb.size (.cells #[.int .i64 id] 3))
            have HPOST := Lib.hid (fun (v' : Value) (w' : World) (xs' : List Value) (hown' : Own intC 1 3 w' W0.heap.size v' (ON.map (·.id) ++ [id]) xs') (hg' : (wr.alloc (.cells #[.int .i64 id] 3)).grownBy w' (Value.slice A1 n1 c1).ownBlock) (hat : v'.ownBlock = (Value.slice A1 n1 c1).ownBlock ∨ v'.ownBlock = some (wr.alloc (.cells #[.int .i64 id] 3)).heap.size) =>
              (⟨Own.grownF edgC_flat hO2q hg' hap.symm, (Apart.step hap.symm (fun k hk => (hO2q.lt k hk).2) hat).symm, below_app HBQ.out hOq hg' hsq⟩ : Own edgC 2 115 w' W0.heap.size (.slice A4 n4 c4) (edgF x ON 0 ++ toE ON.length (mayN x ⟨id, kind, state, gst, lev, cab, cat, frm, upto, til, fol⟩ j)) xs2 ∧ Apart v' (.slice A4 n4 c4) ∧ Below W0.heap.size W0 w'))
            have HSLI := Lib.hid (sl_int wr All id 3 hidI'.out trivial)
            have HOQ := Lib.hid hOq
            clear hO1 hO2 hZ hOq hO2q hb hs4 hap hne hG s11
            go_wp2_with (at_builtin; refine list_app (t := 47) (e := 3) (bytes := 8) rfl (.tmp 61) (.tmp 64) rfl int_elem intC_good rfl HOQ.out rfl HSLI.out (fun _ _ hc => hc) hby2 (by omega) hsq ?_; intro v' w' xs' hown' hg' hat')
            obtain ⟨p1, p2, p3⟩ := HPOST.out _ _ _ hown' hg' hat'
            go_roundg (nb - (k + 1))
            case measure => omega
            case rel => exact ⟨k + 1, xs', xs2, by omega, by omega, by go_num, by rw [HV4.out]; exact hown', by rw [HV3.out]; exact p1, p2, p3⟩
    · obtain rfl : k = nb := by omega
      have s11 : wr.cell? ⟨g, 11, none⟩ = some (.slice C k cb) := hG.cell rfl
      rw [openN_all HN.out] at hO1 hO2
      have HO1 := Lib.hid (hO1.mono intC_good HBW.out.size)
      have HO2 := Lib.hid (hO2.mono edgC_good HBW.out.size)
      clear hO1 hO2 hs1 hs2 hG
      go_wp2_with fail
      go_ret2
      exact ⟨_, _, xs1, xs2, rfl, HO1.out, HO2.out, HBW.out.trans (hb.mono HBW.out.size)⟩
end Go.Proofs.YtoilcdgpeilgaaaGreat
namespace Go.Proofs.YtoilcdgpeilgaaaGreat
open Go.RowKit Go.Shelf
theorem room_ok {x : Sai} (h : roomE x = 0) : twiceB x = false ∧ ¬ x.ship.souls < mx (soulL x.bks x.ship.legs.toNat) ∧ allB (idsL x).length (edgL x) = true := by
  unfold roomE at h
  by_cases h1 : twiceB x = true
  · rw [if_pos h1] at h; omega
  rw [if_neg h1] at h
  by_cases h2 : x.ship.souls < mx (soulL x.bks x.ship.legs.toNat)
  · rw [if_pos h2] at h; omega
  rw [if_neg h2] at h
  by_cases h3 : allB (idsL x).length (edgL x) = true
  · exact ⟨Bool.eq_false_iff.2 h1, h2, h3⟩
  · rw [if_neg h3] at h; omega
theorem edgF_from (x : Sai) : ∀ (l : List Bkg) (i : Nat), ∀ e ∈ edgF x l i, (i : Int) ≤ e.lft
  | [], _, e, he => by simp [edgF] at he
  | b :: l, i, e, he => by
    simp only [edgF, List.mem_append, List.mem_map] at he
    rcases he with ⟨c, _, rfl⟩ | he
    · exact Int.le_refl _
    · have := edgF_from x l (i + 1) e he; omega
theorem bks_zero {x : Sai} (h : saiE x = 0) : shipE x.ship = 0 ∧ bksE x = 0 := by
  unfold saiE at h
  by_cases h1 : shipE x.ship ≠ 0
  · rw [if_pos h1] at h; exact absurd h h1
  rw [if_neg h1] at h
  by_cases h2 : fareE x.fares x.ship.cats.length x.ship.legs ≠ 0
  · rw [if_pos h2] at h; exact absurd h h2
  rw [if_neg h2] at h
  by_cases h3 : (betB x.day 0 9999 && betB x.leaves 0 9999) = false
  · rw [if_pos h3] at h; omega
  rw [if_neg h3] at h
  by_cases h4 : bksE x ≠ 0
  · rw [if_pos h4] at h; exact absurd h h4
  · exact ⟨Decidable.not_not.1 h1, Decidable.not_not.1 h4⟩
end Go.Proofs.YtoilcdgpeilgaaaGreat
namespace Go.Proofs.YtoilcdgpeilgaaaGreat
open Go.RowKit Go.Shelf
theorem rise_pw {l : List Bkg} : Rise l ↔ l.Pairwise (fun a b => a.id < b.id) := by
  constructor
  · intro h
    exact List.pairwise_iff_getElem.2 fun i j hi hj hij => h i j _ _ hij (List.getElem?_eq_getElem hi) (List.getElem?_eq_getElem hj)
  · intro h i j a b hij ha hb
    obtain ⟨hi, rfl⟩ := List.getElem?_eq_some_iff.1 ha
    obtain ⟨hj, rfl⟩ := List.getElem?_eq_some_iff.1 hb
    exact List.pairwise_iff_getElem.1 h i j hi hj hij
theorem mem_edgF (x : Sai) : ∀ (os : List Bkg) (i : Nat) (e : Edg), e ∈ edgF x os i ↔ ∃ (d : Nat) (b : Bkg), os[d]? = some b ∧ e.lft = ((i + d : Nat) : Int) ∧ e.rgt ∈ mayL x b
  | [], _, e => by simp [edgF]
  | b :: os, i, e => by
    simp only [edgF, List.mem_append, List.mem_map, mem_edgF x os (i + 1) e]
    constructor
    · rintro (⟨c, hc, rfl⟩ | ⟨d, q, hd, he, hm⟩)
      · exact ⟨0, b, rfl, rfl, hc⟩
      · exact ⟨d + 1, q, by simpa using hd, by rw [he]; congr 1; omega, hm⟩
    · rintro ⟨d, q, hd, he, hm⟩
      rcases d with _ | d
      · obtain rfl : b = q := by simpa using hd
        exact .inl ⟨e.rgt, hm, by obtain ⟨a, c⟩ := e; simp only at he ⊢; rw [he]; rfl⟩
      · exact .inr ⟨d, q, by simpa using hd, by rw [he]; congr 1; omega, hm⟩
theorem mem_nbrsL (x : Sai) (d c : Nat) : c ∈ nbrs (edgL x) d ↔ ∃ b, (openL x)[d]? = some b ∧ (c : Int) ∈ mayL x b := by
  unfold nbrs edgL
  simp only [List.mem_map, List.mem_filter, mem_edgF, decide_eq_true_eq]
  constructor
  · rintro ⟨e, ⟨⟨d', b, hd, he, hm⟩, hl⟩, rfl⟩
    obtain rfl : d' = d := by omega
    refine ⟨b, hd, ?_⟩
    obtain ⟨q, _, hq⟩ := List.mem_map.1 hm
    rw [← hq]
    rw [← hq] at hm
    exact hm
  · rintro ⟨b, hd, hm⟩
    exact ⟨⟨d, c⟩, ⟨⟨d, b, hd, by simp, hm⟩, rfl⟩, rfl⟩
def Sdr (x : Sai) (os : List Bkg) : Prop := ∃ ps : List (Bkg × Nat), ps.map (·.1) = os ∧ (ps.map (·.2)).Nodup ∧ ∀ p ∈ ps, (p.2 : Int) ∈ mayL x p.1
theorem sdr_of {x : Sai} (h : AllM (openL x).length (edgL x)) : Sdr x (openL x) := by
  obtain ⟨M, hM, hn⟩ := h
  have hlt : ∀ p ∈ M, p.1 < (openL x).length := fun p hp => by
    obtain ⟨b, hb, _⟩ := (mem_nbrsL x p.1 p.2).1 (hM.edge p hp)
    exact (List.getElem?_eq_some_iff.1 hb).1
  have hex : ∀ i, i < (openL x).length → ∃ c, (i, c) ∈ M := fun i hi => by
    apply Classical.byContradiction
    intro hno
    have h1 := len_sub (M.map (·.1)) ((List.range (openL x).length).erase i) hM.lefts (fun y hy => by
      obtain ⟨p, hp, rfl⟩ := List.mem_map.1 hy
      refine (List.mem_erase_of_ne (fun e => hno ⟨p.2, ?_⟩)).2 (List.mem_range.2 (hlt p hp))
      rw [← e]; exact hp)
    rw [List.length_map, hn, List.length_erase_of_mem (List.mem_range.2 hi), List.length_range] at h1
    omega
  obtain ⟨f, hf⟩ : ∃ f : Nat → Nat, ∀ i, i < (openL x).length → (i, f i) ∈ M := ⟨fun i => if h : i < (openL x).length then (hex i h).choose else 0, fun i hi => by simp only [hi, dif_pos]; exact (hex i hi).choose_spec⟩
  refine ⟨(List.range (openL x).length).map (fun i => ((openL x).getD i default, f i)), ?_, ?_, ?_⟩
  · rw [List.map_map]
    refine List.ext_getElem (by simp) fun i h1 h2 => ?_
    simp [List.getD_eq_getElem?_getD, List.getElem?_eq_getElem h2]
  · rw [List.map_map]
    refine nodup_map_of List.nodup_range fun i hi j hj e => ?_
    have := nodup_map_inj hM.rights _ (hf i (List.mem_range.1 hi)) _ (hf j (List.mem_range.1 hj)) e
    exact (Prod.mk.inj this).1
  · intro p hp
    obtain ⟨i, hi, rfl⟩ := List.mem_map.1 hp
    obtain ⟨b, hb, hc⟩ := (mem_nbrsL x i (f i)).1 (hM.edge _ (hf i (List.mem_range.1 hi)))
    simp only
    rw [List.getD_eq_getElem?_getD, hb]
    exact hc
theorem sdr_to {x : Sai} (h : Sdr x (openL x)) : AllM (openL x).length (edgL x) := by
  obtain ⟨ps, h1, h2, h3⟩ := h
  have hlen : ps.length = (openL x).length := by rw [← h1, List.length_map]
  refine ⟨(List.range (openL x).length).map (fun i => (i, (ps.getD i default).2)), ⟨?_, ?_, ?_⟩, by simp⟩
  · intro p hp
    obtain ⟨i, hi, rfl⟩ := List.mem_map.1 hp
    have hi := List.mem_range.1 hi
    have hx : ps[i]? = some (ps[i]'(by omega)) := List.getElem?_eq_getElem (by omega)
    refine (mem_nbrsL x i _).2 ⟨(ps[i]'(by omega)).1, ?_, ?_⟩
    · rw [← h1, List.getElem?_map, hx]; rfl
    · rw [List.getD_eq_getElem?_getD, hx]
      exact h3 _ (List.getElem_mem _)
  · rw [List.map_map]
    exact nodup_map_of List.nodup_range fun i _ j _ e => e
  · rw [List.map_map]
    have : (List.range (openL x).length).map ((fun p => p.2) ∘ fun i => (i, (ps.getD i default).2)) = ps.map (·.2) := by
      refine List.ext_getElem (by simp [hlen]) fun i h1 h2 => ?_
      rw [List.length_map] at h2
      simp [List.getD_eq_getElem?_getD, List.getElem?_eq_getElem h2]
    rw [this]
    exact h2
end Go.Proofs.YtoilcdgpeilgaaaGreat
