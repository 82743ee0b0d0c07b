/-
  Requests: what lies in a boxed request, cell by cell; the reader of bytes.
-/
import Derived.Test.YtehebngkjfjkbaaCodeB
import Derived.Test.YtehebngkjfjkbaaCodeC
import Derived.Test.YtehebngkjfjkbaaCodeD
namespace Go.Proofs.Ytehebngkjfjkbaa
open Go.RowKit Go.Shelf

theorem Blk.free {w : World} {b : Nat} {cs : Array Value} {t : TypeId} (h : Blk w b cs t) (j : Nat) : w.frozen? ⟨b, j, none⟩ = false := by
  unfold Blk at h
  simp [World.frozen?, h]
theorem Blk.set {w : World} {b j : Nat} {cs : Array Value} {t : TypeId} (h : Blk w b cs t) (u : Value) : Blk (w.setCell ⟨b, j, none⟩ u) b (cs.set! j u) t := by
  unfold Blk at h ⊢
  simp only [World.setCell, Array.getElem?_modify, if_true]
  rw [h]; rfl
theorem Blk.other {w : World} {b : Nat} {cs : Array Value} {t : TypeId} (h : Blk w b cs t) {p : Addr} (hp : p.block ≠ b) (u : Value) : Blk (w.setCell p u) b cs t :=
  (Below.heap_setCell _ _ _ _ (fun e => hp e.symm)).trans h

/-- A block that holds a request. -/
def AskAt (w : World) (b : Nat) (x : Ask) : Prop := Blk w b (askA x) 57
theorem AskAt.bel {w w' : World} {b : Nat} {x : Ask} (h : AskAt w b x) (hb : Below w.heap.size w w') : AskAt w' b x := Blk.bel h hb
/-- A request with one part other. -/
def setF (x : Ask) (i : Nat) (v : Int) : Ask :=
  { x with id := if i = 2 then v else x.id, guests := if i = 3 then v else x.guests, cabin := if i = 5 then v else x.cabin, category := if i = 6 then v else x.category,
           frm := if i = 7 then v else x.frm, upto := if i = 8 then v else x.upto, til := if i = 9 then v else x.til, amount := if i = 10 then v else x.amount }
def levF (lev : Int) (i : Nat) (v : Int) : Int := if i = 4 then v else lev
def memF (x : Ask) (lev : Int) (i : Nat) : Int := if i = 4 then lev else fld x i
theorem part_cases {k : Int} {p : Part} (h : p ∈ partsL k) : p = pId ∨ p = pGuests ∨ p = pLevel ∨ p = pCabin ∨ p = pCategory ∨ p = pFrom ∨ p = pTo ∨ p = pTil ∨ p = pAmount := by
  have key : ∀ p ∈ partsL k, p ∈ [pId, pGuests, pLevel, pCabin, pCategory, pFrom, pTo, pTil, pAmount] := by
    unfold partsL
    repeat' split
    all_goals decide
  simpa using key p h
theorem mem_at {w : World} {ba bl : Nat} {x : Ask} {lev k : Int} {t : TypeId} (hA : AskAt w ba x) (hL : Blk w bl #[.int .i64 lev] t) {p : Part} (hp : p ∈ partsL k) :
    w.cell? (partAt ba bl p.ix) = some (.int .i64 (memF x lev p.ix)) ∧ w.frozen? (partAt ba bl p.ix) = false := by
  rcases part_cases hp with rfl | rfl | rfl | rfl | rfl | rfl | rfl | rfl | rfl
  all_goals first
    | exact ⟨hA.cell rfl, hA.free _⟩
    | exact ⟨hL.cell rfl, hL.free _⟩
theorem mem_set {w : World} {ba bl : Nat} {x : Ask} {lev k : Int} {t : TypeId} (hA : AskAt w ba x) (hL : Blk w bl #[.int .i64 lev] t) (hne : ba ≠ bl) {p : Part} (hp : p ∈ partsL k) (v : Int) :
    AskAt (w.setCell (partAt ba bl p.ix) (.int .i64 v)) ba (setF x p.ix v) ∧ Blk (w.setCell (partAt ba bl p.ix) (.int .i64 v)) bl #[.int .i64 (levF lev p.ix v)] t := by
  rcases part_cases hp with rfl | rfl | rfl | rfl | rfl | rfl | rfl | rfl | rfl
  all_goals first
    | exact ⟨hA.set _, hL.other (p := ⟨ba, _, none⟩) hne _⟩
    | exact ⟨hA.other (p := ⟨bl, 0, none⟩) (fun e => hne e.symm) _, hL.set _⟩
theorem partAt_lt {ba bl i m : Nat} (h : ba < m) (h2 : bl < m) : (partAt ba bl i).block < m := by
  unfold partAt; split <;> assumption
theorem partAt_ge {ba bl i m : Nat} (h : m ≤ ba) (h2 : m ≤ bl) : m ≤ (partAt ba bl i).block := by
  unfold partAt; split <;> assumption

/-- The number that bytes stand for. -/
def numOf (l : List UInt8) : Int := l.foldl (fun n c => 256 * n + (c.toNat : Int)) 0
theorem numOf_snoc (l : List UInt8) (c : UInt8) : numOf (l ++ [c]) = 256 * numOf l + (c.toNat : Int) := by simp [numOf]
theorem numOf_bd (l : List UInt8) : 0 ≤ numOf l ∧ numOf l < 256 ^ l.length := by
  induction h : l.length generalizing l with
  | zero => obtain rfl : l = [] := List.length_eq_zero_iff.1 h; exact ⟨by decide, by decide⟩
  | succ n ih =>
    rcases List.eq_nil_or_concat l with rfl | ⟨l', c, rfl⟩
    · simp at h
    · rw [List.concat_eq_append] at h ⊢
      rw [numOf_snoc]
      have := ih l' (by simp at h; omega)
      have hc : (c.toNat : Int) < 256 := by have := c.toNat_lt; omega
      rw [Int.pow_succ]
      omega
theorem numOf_lt {l : List UInt8} (h : l.length ≤ 3) : numOf l < 16777216 := by
  have hb := (numOf_bd l).2
  have hl : l.length = 0 ∨ l.length = 1 ∨ l.length = 2 ∨ l.length = 3 := by omega
  rcases hl with e | e | e | e <;> rw [e] at hb <;> simp at hb <;> omega
theorem or_num {N : Int} {c : UInt8} (h : 0 ≤ N) (h1 : N < 16777216) : bits .or .i64 (N * 256) (c.toNat : Int) = 256 * N + (c.toNat : Int) := by
  obtain ⟨a, rfl⟩ := Int.eq_ofNat_of_zero_le h
  have hc := c.toNat_lt
  have hb := (bits_nat .i64 40 (by decide) (fun n h0 h1 => by rw [IntKind.wrap_i64]; omega) (a * 256) c.toNat (by omega) (by omega)).2
  rw [show ((a : Int) * 256) = ((a * 256 : Nat) : Int) by simp, hb, Nat.mul_comm, ← Nat.two_pow_add_eq_or_of_lt (i := 8) (by omega) a]
  simp
/-- A reader takes so many bytes: the number; what is left; were there too few? -/
def readN (r : List UInt8 × Bool) (m : Nat) : Int × (List UInt8 × Bool) := if r.1.length < m then (0, ([], true)) else (numOf (r.1.take m), (r.1.drop m, r.2))
def RdAt (w : World) (b : Nat) (r : List UInt8 × Bool) : Prop := Blk w b #[.string ⟨r.1.toArray⟩, .bool r.2] 104
set_option maxHeartbeats 2000000 in
theorem number_any (b : Nat) (r : List UInt8 × Bool) (m : Nat) (w : World) (hm : m ≤ 4) (h : RdAt w b r) :
    Calls Try.prog 73 #[.pointer (some ⟨b, 0, none⟩), .int .i64 m] w fun e w' => e = .returned (.int .i64 (readN r m).1) ∧ RdAt w' b (readN r m).2 ∧ Kept (fun k => k = b) w w' := by
  obtain ⟨L, sh⟩ := r
  have g0 := Blk.cell h (j := 0) rfl
  have g1 := Blk.cell h (j := 1) rfl
  have f0 := Blk.free h 0
  have f1 := Blk.free h 1
  by_cases hlt : L.length < m
  · have HR := Lib.hid (show readN (L, sh) m = (0, ([], true)) from if_pos hlt)
    go_enter Try.func73, Try.ntmps73
    go_wp2_with fail
    go_ret
    refine ⟨by rw [HR.out]; rfl, ?_, ?_⟩
    · rw [HR.out]; exact (Blk.set h _).set _
    · exact ((Kept.refl (fun k => k = b) w).setCell (p := ⟨b, 0, none⟩) (.inl rfl) _).setCell (p := ⟨b, 1, none⟩) (.inl rfl) _
  · have HR := Lib.hid (show readN (L, sh) m = (numOf (L.take m), (L.drop m, sh)) from if_neg hlt)
    have kc := fun (W : World) (s : ByteArray) => Lib.run_convert_string_bytes (P := Try.prog) W 9 121 5 s Try.underlying9 Try.underlying121 Try.underlying5
    have hlen : (L.take m).length = m := by rw [List.length_take]; omega
    have hsz : m ≤ L.length := by omega
    go_enter Try.func73, Try.ntmps73
    go_wp2_with fail
    go_loopg [5, 29] m (fun gk nv i wr => ∃ k : Nat, k ≤ m ∧ m - k ≤ gk ∧ i = .int .i64 k ∧ nv = .int .i64 (numOf (L.take k)) ∧ wr = Lib.bytesWorld w 5 ((⟨L.toArray⟩ : ByteArray).extract 0 m))
    case atStart => exact ⟨0, by omega, by omega, rfl, rfl, rfl⟩
    case round =>
      obtain ⟨k, hk, hgk, rfl, rfl, rfl⟩ := hrel
      by_cases hl : k < m
      · have hx : L[k]? = some (L[k]'(by omega)) := List.getElem?_eq_getElem _
        obtain ⟨c, hc⟩ : ∃ c, c = L[k]'(by omega) := ⟨_, rfl⟩
        rw [← hc] at hx
        have e1 : (⟨L.toArray⟩ : ByteArray).extract 0 m = ⟨(L.take m).toArray⟩ := by rw [ByteArray.extract_mk]; rfl
        have gc := Lib.bytesWorld_cell w 5 ((⟨L.toArray⟩ : ByteArray).extract 0 m) k (by rw [e1]; show k < (L.take m).toArray.size; rw [List.size_toArray, hlen]; exact hl)
        rw [show (((⟨L.toArray⟩ : ByteArray).extract 0 m).data.toList.getD k 0) = c by
          rw [e1]; simp [List.getD, hl, hx]] at gc
        have hs := numOf_snoc (L.take k) c
        rw [← take_snoc hx] at hs
        have hbd := numOf_bd (L.take k)
        have hcl : (c.toNat : Int) < 256 := by have := c.toNat_lt; omega
        have hN : numOf (L.take k) < 16777216 := numOf_lt (by rw [List.length_take]; omega)
        obtain ⟨N, hNe⟩ : ∃ N, N = numOf (L.take k) := ⟨_, rfl⟩
        rw [← hNe] at hs hbd hN ⊢
        have HS := Lib.hid hs
        have HN := Lib.hid hNe
        have hN0 := hbd.1
        have hor := or_num (c := c) hbd.1 hN
        clear hs hNe hbd hc hx e1
        go_wp2_with fail
        go_roundg (m - (k + 1))
        case measure => omega
        case rel => exact ⟨k + 1, by omega, by omega, by go_num, by rw [HS.out], rfl⟩
      · obtain rfl : k = m := by omega
        have hlt : b < w.heap.size := Blk.lt h
        have k0 := (Lib.bytesWorld_old w 5 ((⟨L.toArray⟩ : ByteArray).extract 0 k) ⟨b, 0, none⟩ hlt).trans g0
        have hB : Blk (Lib.bytesWorld w 5 ((⟨L.toArray⟩ : ByteArray).extract 0 k)) b #[.string ⟨L.toArray⟩, .bool sh] 104 := (Lib.bytesWorld_at_old _ _ _ _ hlt).trans h
        have f2 := hB.free 0
        have HB := Lib.hid hB
        clear hB
        go_wp2_with fail
        go_ret
        have e2 : (⟨L.toArray⟩ : ByteArray).extract k L.length = ⟨(L.drop k).toArray⟩ := by rw [ByteArray.extract_mk, List.take_of_length_le (by simp)]
        refine ⟨by rw [HR.out]; rfl, ?_, ?_⟩
        · rw [HR.out, e2]; exact HB.out.set (j := 0) _
        · have hk0 : Kept (fun k => k = b) w (Lib.bytesWorld w 5 ((⟨L.toArray⟩ : ByteArray).extract 0 k)) :=
            ⟨rfl, rfl, rfl, by rw [Lib.bytesWorld_size]; omega, fun j hj _ => Lib.bytesWorld_at_old _ _ _ _ hj⟩
          exact hk0.setCell (p := ⟨b, 0, none⟩) (.inl rfl) _
end Go.Proofs.Ytehebngkjfjkbaa
