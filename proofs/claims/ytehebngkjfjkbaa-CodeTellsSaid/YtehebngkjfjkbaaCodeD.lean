/-
  Requests: bytes of a number.
-/
import Derived.Test.YtehebngkjfjkbaaCodeA
import Derived.Lib.ConvBytes
import Derived.Lib.SlBytesRow
import Derived.Lib.BufferRead
import Derived.Deep.RegionWith
namespace Go.Proofs.Ytehebngkjfjkbaa
open Go.RowKit Go.Shelf

/-- The bytes of a number, the greatest one first. -/
def bytesL (n : Int) : Nat → List UInt8
  | 0 => []
  | m + 1 => bytesL (n / 256) m ++ [UInt8.ofNat (n % 256).toNat]
theorem bytesL_length (m : Nat) : ∀ n, (bytesL n m).length = m := by
  induction m with
  | zero => intro n; rfl
  | succ m ih => intro n; simp [bytesL, ih]
def byteC : Cod UInt8 := fun _ _ x cs => cs = [.int .u8 (x.toNat : Int)]
theorem byteC_flat : Flat byteC := fun _ _ _ _ _ _ h => h
theorem byteC_good : Good byteC := .of_flat byteC_flat fun h u hu => by cases h; simp at hu; subst hu; rfl
instance byteK : CodK byteC 1 := ⟨byteC_good, by omega⟩
theorem byte_elem : ElemOf Try.prog 121 5 1 1 := .mk' Try.underlying121 (z := .int .u8 0) (by kernel_rfl) rfl (by omega)
theorem sl_byte (w : World) (S : Nat → Prop) (x : UInt8) (v : Int) (t : TypeId) (hv : v = (x.toNat : Int)) (hS : S w.heap.size) : Sl byteC 1 (w.alloc (.cells #[.int .u8 v] t)) S (some ⟨w.heap.size, 0, none⟩) 1 1 [x] :=
  Sl.lit1 w S t x [.int .u8 v] (by rw [hv]; rfl) hS
theorem Own.str {w : World} {base : Nat} {A : Option Addr} {n cap : Nat} {l : List UInt8} {xs : List Value} (h : Own byteC 1 5 w base (.slice A n cap) l xs) :
    (convert 121 9 (.slice A n cap)).run Try.prog w = .ok (.string ⟨l.toArray⟩) w := by
  rcases h.row.2 with ⟨hv, h0⟩ | ⟨g, cap', cur, hv, hb, hgg, _⟩
  · simp only [Value.slice.injEq] at hv
    obtain ⟨rfl, rfl, rfl⟩ := hv
    obtain rfl : l = [] := List.length_eq_zero_iff.1 h0
    exact Lib.run_convert_nil_bytes w _ _ _ _ Try.underlying121 Try.underlying5 Try.underlying9
  · simp only [Value.slice.injEq] at hv
    obtain ⟨rfl, rfl, rfl⟩ := hv
    have hc : Lib.Bytes w g 0 ⟨l.toArray⟩ := fun i hi => by
      have hi' : i < l.length := by simpa [ByteArray.size] using hi
      obtain ⟨cs, hcc, hl, hcell, _⟩ := h.cells (List.getElem?_eq_getElem hi')
      cases hcc
      have := hcell 0 _ rfl
      rw [Nat.mul_one, Nat.add_zero] at this
      rw [Nat.zero_add]
      exact this
    exact Lib.run_convert_whole w _ _ _ Try.underlying121 Try.underlying5 Try.underlying9 g 0 ⟨l.toArray⟩ hc cap

set_option maxHeartbeats 2000000 in
theorem bytes_any (n : Int) (m : Nat) (w : World) (hm : m ≤ 4) :
    Calls Try.prog 71 #[.int .i64 n, .int .i64 m] w fun e w' => e = .returned (.string ⟨(bytesL n m).toArray⟩) ∧ Below w.heap.size w w' := by
  have hpow : ∀ k : Nat, (2 : Int) ^ (8 * k) = 256 ^ k := fun k => by rw [Int.pow_mul]; rfl
  have hstep : ∀ k : Nat, k < m → bytesL (n / 256 ^ (k + 1)) (m - (k + 1)) ++ [UInt8.ofNat (n / 256 ^ k % 256).toNat] = bytesL (n / 256 ^ k) (m - k) := fun k hk => by
    rw [show m - k = m - (k + 1) + 1 by omega, bytesL, Int.ediv_ediv_of_nonneg (by exact Int.pow_nonneg (by decide)), ← Int.pow_succ]
  have hbyte : ∀ k : Nat, n / 2 ^ (8 * k) % 256 = ((UInt8.ofNat (n / 256 ^ k % 256).toNat).toNat : Int) := fun k => by
    rw [hpow]
    have := Int.emod_nonneg (n / 256 ^ k) (show (256 : Int) ≠ 0 by decide)
    have := Int.emod_lt_of_pos (n / 256 ^ k) (show (0 : Int) < 256 by decide)
    simp only [UInt8.toNat_ofNat']
    omega
  have HP := Lib.hid hpow
  clear hpow
  have HS := Lib.hid hstep
  clear hstep
  have HB := Lib.hid hbyte
  clear hbyte
  go_enter Try.func71, Try.ntmps71
  go_wp2_with fail
  go_loopg [5, 6] m (fun gk o i wr => ∃ k : Nat, k ≤ m ∧ k ≤ gk ∧ i = .int .i64 ((k : Int) - 1) ∧ ∃ xs, Own byteC 1 5 wr w.heap.size o (bytesL (n / 256 ^ k) (m - k)) xs ∧ Below w.heap.size w wr)
  case atStart => exact ⟨m, by omega, by omega, rfl, [], by rw [Nat.sub_self]; exact Own.nil _ _ _ _ _, Below.refl _ _⟩
  case round =>
    obtain ⟨k, hk, hgk, rfl, xs, hO, hb⟩ := hrel
    obtain ⟨A, l, c, rfl, hsl⟩ := hO.sl byteC_good
    rcases k with _ | k
    · have hst := hO.str
      simp only [Int.pow_zero, Int.ediv_one, Nat.sub_zero] at hst
      go_wp2_with fail
      go_ret
      exact ⟨rfl, hb⟩
    · have hlen : (bytesL (n / 256 ^ (k + 1)) (m - (k + 1))).length = m - (k + 1) := bytesL_length _ _
      have hbA := hb.alloc hb.size (.cells #[.int .u8 (n / 2 ^ (8 * k) % 256)] 5)
      have hsz := hb.size
      go_wp2_with (at_builtin; refine list_app (t := 121) (e := 5) (bytes := 1) rfl (.tmp 13) (.tmp 19) rfl byte_elem byteC_good rfl (hO.below byteC_good ((Below.refl _ _).alloc (Nat.le_refl _) _)) rfl (sl_byte _ All (UInt8.ofNat (n / 256 ^ k % 256).toNat) _ _ (HB.out k) trivial) (fun _ _ hc => hc) (by rw [hlen]; omega) (by omega) (by simp; omega) ?_; intro v' w' xs' hown' hg' _)
      go_roundg k
      case measure => omega
      case rel => exact ⟨k, by omega, by omega, by go_num, xs', by rw [← HS.out k (by omega)]; exact hown', below_app hbA (hO.below byteC_good ((Below.refl _ _).alloc (Nat.le_refl _) _)) hg' (by simp; omega)⟩

theorem conv1 {w : World} {b : Nat} {v : Int} {x : UInt8} (hv : v = (x.toNat : Int)) (hc : w.cell? ⟨b, 0, none⟩ = some (.int .u8 v)) :
    (convert 121 9 (.slice (some ⟨b, 0, none⟩) 1 1)).run Try.prog w = .ok (.string ⟨#[x]⟩) w := by
  refine Lib.run_convert_whole w _ _ _ Try.underlying121 Try.underlying5 Try.underlying9 b 0 ⟨#[x]⟩ (fun i hi => ?_) 1
  have h0 : i = 0 := by have : (⟨#[x]⟩ : ByteArray).size = 1 := rfl; omega
  subst h0
  rw [hc, hv]; rfl
theorem byte_of {n : Int} : n % 256 = ((UInt8.ofNat (n % 256).toNat).toNat : Int) := by
  have := Int.emod_nonneg n (show (256 : Int) ≠ 0 by decide)
  have := Int.emod_lt_of_pos n (show (0 : Int) < 256 by decide)
  simp only [UInt8.toNat_ofNat']
  omega

set_option maxRecDepth 100000 in
set_option maxHeartbeats 2000000 in
theorem numberBytes_any (m : Nat) : ∀ (n : Int) (w : World), m ≤ 4 → 0 ≤ n → n ≤ 9223372036854775807 →
    Calls Try.prog 76 #[.int .i64 n, .int .i64 m] w fun e w' => e = .returned (.string ⟨(bytesL n m).toArray⟩) ∧ Below w.heap.size w w' := by
  induction m with
  | zero =>
    intro n w _ _ _
    go_enter Try.func76, Try.ntmps76
    go_wp2_with fail
    go_ret
    exact ⟨rfl, Below.refl _ _⟩
  | succ m ih =>
    intro n w hm h0 h1
    have hb := byte_of (n := n)
    have h2 : n.tdiv 256 = n / 256 := Int.tdiv_eq_ediv_of_nonneg h0
    have h3 : n.tmod 256 = n % 256 := Int.tmod_eq_emod_of_nonneg h0
    have ih' := fun w => ih (n / 256) w (by omega) (by omega) (by omega)
    have IH := Lib.hid ih'
    clear ih'
    clear ih
    obtain ⟨x, hx⟩ : ∃ x, x = UInt8.ofNat (n % 256).toNat := ⟨_, rfl⟩
    rw [← hx] at hb
    have HX := Lib.hid (show bytesL n (m + 1) = bytesL (n / 256) m ++ [x] by rw [hx]; rfl)
    have kc := fun (W : World) => conv1 hb (Blk.cell (Blk.new W #[.int .u8 (n % 256)] 5) (j := 0) rfl)
    have kc3 := fun (W : World) => conv1 (w := (W.alloc (.cells #[.int .u8 (n % 256)] 5)).drew) (b := W.heap.size) hb (Blk.cell (Blk.new W #[.int .u8 (n % 256)] 5) (j := 0) rfl)
    have hL := bytesL_length m (n / 256)
    have HB := Lib.hid hb
    clear hb
    clear hx
    have w1 : IntKind.i64.wrap (n / 256) = n / 256 := IntWalk.i64_in _ (by omega)
    have w2 : IntKind.i64.wrap (m : Int) = m := IntWalk.i64_in _ (by omega)
    have w3 : IntKind.u8.wrap (n % 256) = n % 256 := by simp [IntKind.wrap, IntKind.bits, IntKind.signed]
    go_enter Try.func76, Try.ntmps76
    go_upto_region 3 with (fail)
    go_region_with (go_at_call 76; refine (IH.out _).mono ?_; rintro e w2 ⟨rfl, hb2⟩; first | (have kb : Blk w2 w.heap.size #[.int .u8 (n % 256)] 5 := (hb2.block _ (by simp)).trans (Blk.new w _ _); have kc2 := conv1 HB.out (kb.cell (j := 0) rfl); clear kb) | skip)
    all_goals go_wp2_with fail
    all_goals go_ret
    all_goals refine ⟨by rw [HX.out]; exact congrArg (fun s => Ending.returned (.string s)) (ByteArray.mk_append_mk _ [x]), ?_⟩
    all_goals first
      | exact ((Below.refl w.heap.size w).drew).trans hb2
      | exact (((Below.refl w.heap.size w).drew).trans hb2).alloc (by have := hb2.size; simpa using this) _
      | exact ((bel1 w _).drew).trans (hb2.mono (by simp))
end Go.Proofs.Ytehebngkjfjkbaa
