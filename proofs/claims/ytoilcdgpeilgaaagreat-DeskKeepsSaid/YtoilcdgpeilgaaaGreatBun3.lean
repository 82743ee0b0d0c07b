/-
  Words, laws and contracts: CodeA, CodeB, CodeC, CodeD.
-/
import Derived.Test.YtoilcdgpeilgaaaGreatBun1
import Derived.BigRegion
import Derived.Lib.ConvBytes
import Derived.Lib.SlBytesRow
import Derived.Lib.BufferRead
import Derived.Deep.RegionWith
set_option linter.unusedSimpArgs false
set_option linter.unusedVariables false
namespace Go.Proofs.YtoilcdgpeilgaaaGreat
open Go.RowKit Go.Shelf
structure Ask where
  number : Int
  kind : Int
  id : Int
  guests : Int
  level : Bool
  cabin : Int
  category : Int
  frm : Int
  upto : Int
  til : Int
  amount : Int
  deriving DecidableEq, Inhabited
def askA (x : Ask) : Array Value := #[.int .i64 x.number, .int .i64 x.kind, .int .i64 x.id, .int .i64 x.guests, .bool x.level, .int .i64 x.cabin, .int .i64 x.category, .int .i64 x.frm, .int .i64 x.upto, .int .i64 x.til, .int .i64 x.amount]
def AskIn (x : Ask) : Prop := InI x.number ∧ InI x.kind ∧ InI x.id ∧ InI x.guests ∧ InI x.cabin ∧ InI x.category ∧ InI x.frm ∧ InI x.upto ∧ InI x.til ∧ InI x.amount
def askC : Cod Ask := fun _ _ x cs => cs = (askA x).toList ∧ AskIn x
structure Part where
  bytes : Int
  most : Int
  ix : Nat
  deriving DecidableEq, Inhabited
def partAt (ba bl : Nat) (i : Nat) : Addr := if i = 4 then ⟨bl, 0, none⟩ else ⟨ba, i, none⟩
def partC (ba bl : Nat) : Cod Part := fun _ _ x cs => cs = [.int .i64 x.bytes, .int .i64 x.most, .pointer (some (partAt ba bl x.ix))] ∧ True
theorem partC_flat (ba bl : Nat) : Flat (partC ba bl) := fun _ _ _ _ _ _ h => h
theorem partC_good (ba bl : Nat) : Good (partC ba bl) := .of_flat (partC_flat ba bl) fun h u hu => by obtain ⟨rfl, _⟩ := h; simp at hu; rcases hu with rfl | rfl | rfl <;> rfl
instance partK (ba bl : Nat) : CodK (partC ba bl) 3 := ⟨partC_good ba bl, by omega⟩
def pId : Part := ⟨3, 999999, 2⟩
def pGuests : Part := ⟨1, 255, 3⟩
def pLevel : Part := ⟨1, 1, 4⟩
def pCabin : Part := ⟨1, 255, 5⟩
def pCategory : Part := ⟨1, 255, 6⟩
def pFrom : Part := ⟨1, 255, 7⟩
def pTo : Part := ⟨1, 255, 8⟩
def pTil : Part := ⟨2, 65535, 9⟩
def pAmount : Part := ⟨4, 100000000, 10⟩
def partsL (k : Int) : List Part :=
  if k = 1 then [pId, pGuests, pCabin, pFrom, pTo, pLevel, pTil] else if k = 2 then [pId, pGuests, pCategory, pLevel, pTil] else if k = 3 ∨ k = 5 then [pId] else
  if k = 4 then [pId, pAmount] else if k = 6 then [pId, pCabin] else if k = 7 then [pTil] else []
theorem Sl.parts {w : World} {S : Nat → Prop} {ba bl b : Nat} {t : TypeId} (l : List Part) (cs : Array Value) (h : Blk w b cs t) (hl : l.length ≤ 10) (hS : S b) (he : cs.toList = l.flatMap fun x => [.int .i64 x.bytes, .int .i64 x.most, .pointer (some (partAt ba bl x.ix))]) :
    Sl (partC ba bl) 3 w S (some ⟨b, 0, none⟩) l.length l.length l :=
  Sl.ofBlk h l (by omega) hS fun i x hx => ⟨_, ⟨rfl, trivial⟩, rfl, fun j u hu => by
    have key : ∀ (l : List Part) (i : Nat) (x : Part), l[i]? = some x → ∀ j u, [Value.int .i64 x.bytes, .int .i64 x.most, .pointer (some (partAt ba bl x.ix))][j]? = some u →
        (l.flatMap fun x => [Value.int .i64 x.bytes, .int .i64 x.most, .pointer (some (partAt ba bl x.ix))])[i * 3 + j]? = some u := by
      intro l
      induction l with
      | nil => intro i x hx; simp at hx
      | cons y l ih =>
        intro i x hx j u hu
        rw [List.flatMap_cons]
        rcases i with _ | i
        · simp at hx; subst hx
          have hj : j < 3 := by have := (List.getElem?_eq_some_iff.1 hu).1; simpa using this
          rw [List.getElem?_append_left (by simp; omega)]
          simpa using hu
        · rw [List.getElem?_append_right (by simp; omega)]
          simp only [List.length_cons, List.length_nil]
          rw [show (i + 1) * 3 + j - (0 + 1 + 1 + 1) = i * 3 + j by omega]
          exact ih i x (by simpa using hx) j u hu
    have := key l i x hx j u hu
    rw [← he] at this
    simpa using this⟩
end Go.Proofs.YtoilcdgpeilgaaaGreat
namespace Go.Proofs.YtoilcdgpeilgaaaGreat
open Go.RowKit Go.Shelf
theorem kinds (k : Int) : k = 1 ∨ k = 2 ∨ k = 3 ∨ k = 4 ∨ k = 5 ∨ k = 6 ∨ k = 7 ∨ k = 8 ∨ (k < 1 ∨ 8 < k) := by omega
set_option maxRecDepth 100000 in
set_option maxHeartbeats 4000000 in
theorem parts_any (ba bl : Nat) (k : Int) (w : World) (hk : w.cell? ⟨ba, 1, none⟩ = some (.int .i64 k)) :
    Calls Tryz.prog 163 #[.pointer (some ⟨ba, 0, none⟩), .pointer (some ⟨bl, 0, none⟩)] w fun e w' => ∃ A n cap, e = .returned (.tuple #[.slice A n cap, .bool (betB k 1 8)]) ∧ Sl (partC ba bl) 3 w' (fun b => w.heap.size ≤ b) A n cap (partsL k) ∧ Below w.heap.size w w' := by
  have hlt := cell_lt hk
  go_enter Tryz.func163, Tryz.ntmps163
  go_upto_region 5 with (fail)
  go_cut [10, 11] (fun x y wx => ∃ b1 b2, x = .pointer (some ⟨b1, 0, none⟩) ∧ y = .pointer (some ⟨b2, 0, none⟩) ∧ Blk wx b1 #[.int .i64 1, .int .i64 255, .pointer (some ⟨ba, 7, none⟩)] 212 ∧ Blk wx b2 #[.int .i64 1, .int .i64 255, .pointer (some ⟨ba, 8, none⟩)] 212 ∧ Below ((((w.alloc (.cells #[.int .i64 3, .int .i64 999999, .pointer (some ⟨ba, 2, none⟩)] 212)).alloc (.cells #[.int .i64 1, .int .i64 255, .pointer (some ⟨ba, 3, none⟩)] 212)).alloc (.cells #[.int .i64 1, .int .i64 255, .pointer (some ⟨ba, 5, none⟩)] 212)).alloc (.cells #[.int .i64 1, .int .i64 255, .pointer (some ⟨ba, 6, none⟩)] 212)).heap.size ((((w.alloc (.cells #[.int .i64 3, .int .i64 999999, .pointer (some ⟨ba, 2, none⟩)] 212)).alloc (.cells #[.int .i64 1, .int .i64 255, .pointer (some ⟨ba, 3, none⟩)] 212)).alloc (.cells #[.int .i64 1, .int .i64 255, .pointer (some ⟨ba, 5, none⟩)] 212)).alloc (.cells #[.int .i64 1, .int .i64 255, .pointer (some ⟨ba, 6, none⟩)] 212)) wx)
  case first => as_aux_lemma =>
    go_region
    · go_wp2_with fail
      go_meet
      exact ⟨_, _, rfl, rfl, (Blk.new4 w _ _ _ _ _ _).old _, Blk.new5 w _ _ _ _ _ _ _, (bel2 _ _ _).drew⟩
    · go_wp2_with fail
      go_meet
      exact ⟨_, _, rfl, rfl, Blk.new5 w _ _ _ _ _ _ _, (Blk.new4 w _ _ _ _ _ _).old _, (bel2 _ _ _).drew⟩
  obtain ⟨b1, b2, rfl, rfl, f10, f11, hb⟩ := hcut
  have f6 : Blk wc w.heap.size #[.int .i64 3, .int .i64 999999, .pointer (some ⟨ba, 2, none⟩)] 212 := Blk.bel (w := ((((w.alloc (.cells #[.int .i64 3, .int .i64 999999, .pointer (some ⟨ba, 2, none⟩)] 212)).alloc (.cells #[.int .i64 1, .int .i64 255, .pointer (some ⟨ba, 3, none⟩)] 212)).alloc (.cells #[.int .i64 1, .int .i64 255, .pointer (some ⟨ba, 5, none⟩)] 212)).alloc (.cells #[.int .i64 1, .int .i64 255, .pointer (some ⟨ba, 6, none⟩)] 212))) ((((Blk.new w _ _).old _).old _).old _) hb
  have f7 : Blk wc (w.heap.size + 1) #[.int .i64 1, .int .i64 255, .pointer (some ⟨ba, 3, none⟩)] 212 := Blk.bel (w := ((((w.alloc (.cells #[.int .i64 3, .int .i64 999999, .pointer (some ⟨ba, 2, none⟩)] 212)).alloc (.cells #[.int .i64 1, .int .i64 255, .pointer (some ⟨ba, 3, none⟩)] 212)).alloc (.cells #[.int .i64 1, .int .i64 255, .pointer (some ⟨ba, 5, none⟩)] 212)).alloc (.cells #[.int .i64 1, .int .i64 255, .pointer (some ⟨ba, 6, none⟩)] 212))) (((Blk.new1 w _ _ _).old _).old _) hb
  have f8 : Blk wc (w.heap.size + 1 + 1) #[.int .i64 1, .int .i64 255, .pointer (some ⟨ba, 5, none⟩)] 212 := Blk.bel (w := ((((w.alloc (.cells #[.int .i64 3, .int .i64 999999, .pointer (some ⟨ba, 2, none⟩)] 212)).alloc (.cells #[.int .i64 1, .int .i64 255, .pointer (some ⟨ba, 3, none⟩)] 212)).alloc (.cells #[.int .i64 1, .int .i64 255, .pointer (some ⟨ba, 5, none⟩)] 212)).alloc (.cells #[.int .i64 1, .int .i64 255, .pointer (some ⟨ba, 6, none⟩)] 212))) ((Blk.new2 w _ _ _ _).old _) hb
  have f9 : Blk wc (w.heap.size + 1 + 1 + 1) #[.int .i64 1, .int .i64 255, .pointer (some ⟨ba, 6, none⟩)] 212 := Blk.bel (w := ((((w.alloc (.cells #[.int .i64 3, .int .i64 999999, .pointer (some ⟨ba, 2, none⟩)] 212)).alloc (.cells #[.int .i64 1, .int .i64 255, .pointer (some ⟨ba, 3, none⟩)] 212)).alloc (.cells #[.int .i64 1, .int .i64 255, .pointer (some ⟨ba, 5, none⟩)] 212)).alloc (.cells #[.int .i64 1, .int .i64 255, .pointer (some ⟨ba, 6, none⟩)] 212))) (Blk.new3 w _ _ _ _ _) hb
  have k6_0 := f6.cell (j := 0) rfl
  have k6_1 := f6.cell (j := 1) rfl
  have k6_2 := f6.cell (j := 2) rfl
  have k7_0 := f7.cell (j := 0) rfl
  have k7_1 := f7.cell (j := 1) rfl
  have k7_2 := f7.cell (j := 2) rfl
  have k8_0 := f8.cell (j := 0) rfl
  have k8_1 := f8.cell (j := 1) rfl
  have k8_2 := f8.cell (j := 2) rfl
  have k9_0 := f9.cell (j := 0) rfl
  have k9_1 := f9.cell (j := 1) rfl
  have k9_2 := f9.cell (j := 2) rfl
  have k10_0 := f10.cell (j := 0) rfl
  have k10_1 := f10.cell (j := 1) rfl
  have k10_2 := f10.cell (j := 2) rfl
  have k11_0 := f11.cell (j := 0) rfl
  have k11_1 := f11.cell (j := 1) rfl
  have k11_2 := f11.cell (j := 2) rfl
  have hb0 : Below w.heap.size w ((((w.alloc (.cells #[.int .i64 3, .int .i64 999999, .pointer (some ⟨ba, 2, none⟩)] 212)).alloc (.cells #[.int .i64 1, .int .i64 255, .pointer (some ⟨ba, 3, none⟩)] 212)).alloc (.cells #[.int .i64 1, .int .i64 255, .pointer (some ⟨ba, 5, none⟩)] 212)).alloc (.cells #[.int .i64 1, .int .i64 255, .pointer (some ⟨ba, 6, none⟩)] 212)) := (bel3 _ _ _ _).alloc (by simp; omega) _
  replace hb0 := hb0.trans (hb.mono hb0.size)
  have hk' : wc.cell? ⟨ba, 1, none⟩ = some (.int .i64 k) := (hb0.cell (p := ⟨ba, 1, none⟩) hlt).trans hk
  have hsz := hb0.size
  have hbe : Below w.heap.size w ((wc.alloc (.cells #[.int .i64 2, .int .i64 65535, .pointer (some ⟨ba, 9, none⟩)] 212)).alloc (.cells #[.int .i64 4, .int .i64 100000000, .pointer (some ⟨ba, 10, none⟩)] 212)) := (hb0.alloc hsz _).alloc (by simp; omega) _
  have l1 : ba < wc.heap.size := by omega
  have l2 := f10.lt
  have l3 := f11.lt
  have l4 := f6.lt
  have l5 := f7.lt
  have l6 := f8.lt
  have l7 := f9.lt
  clear hk hb f6 f7 f8 f9 f10 f11
  have HB0 := Lib.hid hb0
  clear hb0
  have HSZ := Lib.hid hsz
  clear hsz
  rcases kinds k with rfl | rfl | rfl | rfl | rfl | rfl | rfl | rfl | hk
  · go_wp2_with fail
    go_ret2
    exact ⟨_, _, _, rfl, Sl.parts [pId, pGuests, pCabin, pFrom, pTo, pLevel, pTil] _ (Blk.new2 wc _ _ _ _) (by decide) (by show _ ≤ _; have := HSZ.out; omega) rfl, hbe.alloc (by have := HSZ.out; simp; omega) _⟩
  · go_wp2_with fail
    go_ret2
    exact ⟨_, _, _, rfl, Sl.parts [pId, pGuests, pCategory, pLevel, pTil] _ (Blk.new2 wc _ _ _ _) (by decide) (by show _ ≤ _; have := HSZ.out; omega) rfl, hbe.alloc (by have := HSZ.out; simp; omega) _⟩
  · go_wp2_with fail
    go_ret2
    exact ⟨_, _, _, rfl, Sl.parts [pId] _ (Blk.new2 wc _ _ _ _) (by decide) (by show _ ≤ _; have := HSZ.out; omega) rfl, hbe.alloc (by have := HSZ.out; simp; omega) _⟩
  · go_wp2_with fail
    go_ret2
    exact ⟨_, _, _, rfl, Sl.parts [pId, pAmount] _ (Blk.new2 wc _ _ _ _) (by decide) (by show _ ≤ _; have := HSZ.out; omega) rfl, hbe.alloc (by have := HSZ.out; simp; omega) _⟩
  · go_wp2_with fail
    go_ret2
    exact ⟨_, _, _, rfl, Sl.parts [pId] _ (Blk.new2 wc _ _ _ _) (by decide) (by show _ ≤ _; have := HSZ.out; omega) rfl, hbe.alloc (by have := HSZ.out; simp; omega) _⟩
  · go_wp2_with fail
    go_ret2
    exact ⟨_, _, _, rfl, Sl.parts [pId, pCabin] _ (Blk.new2 wc _ _ _ _) (by decide) (by show _ ≤ _; have := HSZ.out; omega) rfl, hbe.alloc (by have := HSZ.out; simp; omega) _⟩
  · go_wp2_with fail
    go_ret2
    exact ⟨_, _, _, rfl, Sl.parts [pTil] _ (Blk.new2 wc _ _ _ _) (by decide) (by show _ ≤ _; have := HSZ.out; omega) rfl, hbe.alloc (by have := HSZ.out; simp; omega) _⟩
  · go_wp2_with fail
    go_ret2
    exact ⟨_, _, _, rfl, Sl.nil _ _ _ _, hbe⟩
  · have n1 : (k == 1) = false := by simp; omega
    have n2 : (k == 2) = false := by simp; omega
    have n3 : (k == 3) = false := by simp; omega
    have n4 : (k == 4) = false := by simp; omega
    have n5 : (k == 5) = false := by simp; omega
    have n6 : (k == 6) = false := by simp; omega
    have n7 : (k == 7) = false := by simp; omega
    have n8 : (k == 8) = false := by simp; omega
    have HP := Lib.hid (show partsL k = [] by unfold partsL; repeat (rw [if_neg (by omega)]))
    have HK := Lib.hid (betB_false (n := k) (a := 1) (b := 8) hk)
    clear hk
    go_wp2_with fail
    go_ret2
    exact ⟨none, 0, 0, by rw [HK.out]; rfl, by rw [HP.out]; exact Sl.nil _ _ _ _, hbe⟩
end Go.Proofs.YtoilcdgpeilgaaaGreat
namespace Go.Proofs.YtoilcdgpeilgaaaGreat
open Go.RowKit Go.Shelf
def fld (x : Ask) (i : Nat) : Int :=
  if i = 2 then x.id else if i = 3 then x.guests else if i = 5 then x.cabin else if i = 6 then x.category else if i = 7 then x.frm else if i = 8 then x.upto else if i = 9 then x.til else if i = 10 then x.amount else if x.level then 1 else 0
end Go.Proofs.YtoilcdgpeilgaaaGreat
namespace Go.Proofs.YtoilcdgpeilgaaaGreat
open Go.RowKit Go.Shelf
def bytesL (n : Int) : Nat → List UInt8
  | 0 => []
  | m + 1 => bytesL (n / 256) m ++ [UInt8.ofNat (n % 256).toNat]
theorem bytesL_length (m : Nat) : ∀ n, (bytesL n m).length = m := by
  induction m with
  | zero => intro n; rfl
  | succ m ih => intro n; simp [bytesL, ih]
def byteC : Cod UInt8 := fun _ _ x cs => cs = [.int .u8 (x.toNat : Int)]
theorem byteC_flat : Flat byteC := fun _ _ _ _ _ _ h => h
theorem byteC_good : Good byteC := .of_flat byteC_flat fun h u hu => by cases h; simp at hu; subst hu; rfl
instance byteK : CodK byteC 1 := ⟨byteC_good, by omega⟩
theorem byte_elem : ElemOf Tryz.prog 268 5 1 1 := .mk' Tryz.underlying268 (z := .int .u8 0) (by kernel_rfl) rfl (by omega)
theorem sl_byte (w : World) (S : Nat → Prop) (x : UInt8) (v : Int) (t : TypeId) (hv : v = (x.toNat : Int)) (hS : S w.heap.size) : Sl byteC 1 (w.alloc (.cells #[.int .u8 v] t)) S (some ⟨w.heap.size, 0, none⟩) 1 1 [x] :=
  Sl.lit1 w S t x [.int .u8 v] (by rw [hv]; rfl) hS
theorem Own.str {w : World} {base : Nat} {A : Option Addr} {n cap : Nat} {l : List UInt8} {xs : List Value} (h : Own byteC 1 5 w base (.slice A n cap) l xs) :
    (convert 268 9 (.slice A n cap)).run Tryz.prog w = .ok (.string ⟨l.toArray⟩) w := by
  rcases h.row.2 with ⟨hv, h0⟩ | ⟨g, cap', cur, hv, hb, hgg, _⟩
  · simp only [Value.slice.injEq] at hv
    obtain ⟨rfl, rfl, rfl⟩ := hv
    obtain rfl : l = [] := List.length_eq_zero_iff.1 h0
    exact Lib.run_convert_nil_bytes w _ _ _ _ Tryz.underlying268 Tryz.underlying5 Tryz.underlying9
  · simp only [Value.slice.injEq] at hv
    obtain ⟨rfl, rfl, rfl⟩ := hv
    have hc : Lib.Bytes w g 0 ⟨l.toArray⟩ := fun i hi => by
      have hi' : i < l.length := by simpa [ByteArray.size] using hi
      obtain ⟨cs, hcc, hl, hcell, _⟩ := h.cells (List.getElem?_eq_getElem hi')
      cases hcc
      have := hcell 0 _ rfl
      rw [Nat.mul_one, Nat.add_zero] at this
      rw [Nat.zero_add]
      exact this
    exact Lib.run_convert_whole w _ _ _ Tryz.underlying268 Tryz.underlying5 Tryz.underlying9 g 0 ⟨l.toArray⟩ hc cap
set_option maxHeartbeats 2000000 in
theorem bytes_any (n : Int) (m : Nat) (w : World) (hm : m ≤ 4) :
    Calls Tryz.prog 162 #[.int .i64 n, .int .i64 m] w fun e w' => e = .returned (.string ⟨(bytesL n m).toArray⟩) ∧ Below w.heap.size w w' := by
  have hpow : ∀ k : Nat, (2 : Int) ^ (8 * k) = 256 ^ k := fun k => by rw [Int.pow_mul]; rfl
  have hstep : ∀ k : Nat, k < m → bytesL (n / 256 ^ (k + 1)) (m - (k + 1)) ++ [UInt8.ofNat (n / 256 ^ k % 256).toNat] = bytesL (n / 256 ^ k) (m - k) := fun k hk => by
    rw [show m - k = m - (k + 1) + 1 by omega, bytesL, Int.ediv_ediv_of_nonneg (by exact Int.pow_nonneg (by decide)), ← Int.pow_succ]
  have hbyte : ∀ k : Nat, n / 2 ^ (8 * k) % 256 = ((UInt8.ofNat (n / 256 ^ k % 256).toNat).toNat : Int) := fun k => by
    rw [hpow]
    have := Int.emod_nonneg (n / 256 ^ k) (show (256 : Int) ≠ 0 by decide)
    have := Int.emod_lt_of_pos (n / 256 ^ k) (show (0 : Int) < 256 by decide)
    simp only [UInt8.toNat_ofNat']
    omega
  have HP := Lib.hid hpow
  clear hpow
  have HS := Lib.hid hstep
  clear hstep
  have HB := Lib.hid hbyte
  clear hbyte
  go_enter Tryz.func162, Tryz.ntmps162
  go_wp2_with fail
  go_loopg [5, 6] m (fun gk o i wr => ∃ k : Nat, k ≤ m ∧ k ≤ gk ∧ i = .int .i64 ((k : Int) - 1) ∧ ∃ xs, Own byteC 1 5 wr w.heap.size o (bytesL (n / 256 ^ k) (m - k)) xs ∧ Below w.heap.size w wr)
  case atStart => exact ⟨m, by omega, by omega, rfl, [], by rw [Nat.sub_self]; exact Own.nil _ _ _ _ _, Below.refl _ _⟩
  case round =>
    obtain ⟨k, hk, hgk, rfl, xs, hO, hb⟩ := hrel
    obtain ⟨A, l, c, rfl, hsl⟩ := hO.sl byteC_good
    rcases k with _ | k
    · have hst := hO.str
      simp only [Int.pow_zero, Int.ediv_one, Nat.sub_zero] at hst
      go_wp2_with fail
      go_ret
      exact ⟨rfl, hb⟩
    · have hlen : (bytesL (n / 256 ^ (k + 1)) (m - (k + 1))).length = m - (k + 1) := bytesL_length _ _
      have hbA := hb.alloc hb.size (.cells #[.int .u8 (n / 2 ^ (8 * k) % 256)] 5)
      have hsz := hb.size
      go_wp2_with (at_builtin; refine list_app (t := 268) (e := 5) (bytes := 1) rfl (.tmp 13) (.tmp 19) rfl byte_elem byteC_good rfl (hO.below byteC_good ((Below.refl _ _).alloc (Nat.le_refl _) _)) rfl (sl_byte _ All (UInt8.ofNat (n / 256 ^ k % 256).toNat) _ _ (HB.out k) trivial) (fun _ _ hc => hc) (by rw [hlen]; omega) (by omega) (by simp; omega) ?_; intro v' w' xs' hown' hg' _)
      go_roundg k
      case measure => omega
      case rel => exact ⟨k, by omega, by omega, by go_num, xs', by rw [← HS.out k (by omega)]; exact hown', below_app hbA (hO.below byteC_good ((Below.refl _ _).alloc (Nat.le_refl _) _)) hg' (by simp; omega)⟩
end Go.Proofs.YtoilcdgpeilgaaaGreat
