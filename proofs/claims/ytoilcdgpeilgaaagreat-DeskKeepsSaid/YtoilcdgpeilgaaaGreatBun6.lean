/-
  Words, laws and contracts: CodeE, CodeF, CodeG, CodeH.
-/
import Derived.Test.YtoilcdgpeilgaaaGreatBun3
import Derived.Test.YtoilcdgpeilgaaaGreatBun4
import Derived.LaidEqlPtr
set_option linter.unusedSimpArgs false
set_option linter.unusedVariables false
namespace Go.Proofs.YtoilcdgpeilgaaaGreat
open Go.RowKit Go.Shelf
def AskAt (w : World) (b : Nat) (x : Ask) : Prop := Blk w b (askA x) 93
theorem AskAt.bel {w w' : World} {b : Nat} {x : Ask} (h : AskAt w b x) (hb : Below w.heap.size w w') : AskAt w' b x := Blk.bel h hb
def setF (x : Ask) (i : Nat) (v : Int) : Ask :=
  { x with id := if i = 2 then v else x.id, guests := if i = 3 then v else x.guests, cabin := if i = 5 then v else x.cabin, category := if i = 6 then v else x.category,
           frm := if i = 7 then v else x.frm, upto := if i = 8 then v else x.upto, til := if i = 9 then v else x.til, amount := if i = 10 then v else x.amount }
def levF (lev : Int) (i : Nat) (v : Int) : Int := if i = 4 then v else lev
def memF (x : Ask) (lev : Int) (i : Nat) : Int := if i = 4 then lev else fld x i
theorem part_cases {k : Int} {p : Part} (h : p ∈ partsL k) : p = pId ∨ p = pGuests ∨ p = pLevel ∨ p = pCabin ∨ p = pCategory ∨ p = pFrom ∨ p = pTo ∨ p = pTil ∨ p = pAmount := by
  have key : ∀ p ∈ partsL k, p ∈ [pId, pGuests, pLevel, pCabin, pCategory, pFrom, pTo, pTil, pAmount] := by
    unfold partsL
    repeat' split
    all_goals decide
  simpa using key p h
theorem mem_at {w : World} {ba bl : Nat} {x : Ask} {lev k : Int} {t : TypeId} (hA : AskAt w ba x) (hL : Blk w bl #[.int .i64 lev] t) {p : Part} (hp : p ∈ partsL k) :
    w.cell? (partAt ba bl p.ix) = some (.int .i64 (memF x lev p.ix)) ∧ w.frozen? (partAt ba bl p.ix) = false := by
  rcases part_cases hp with rfl | rfl | rfl | rfl | rfl | rfl | rfl | rfl | rfl
  all_goals first
    | exact ⟨hA.cell rfl, hA.free _⟩
    | exact ⟨hL.cell rfl, hL.free _⟩
theorem mem_set {w : World} {ba bl : Nat} {x : Ask} {lev k : Int} {t : TypeId} (hA : AskAt w ba x) (hL : Blk w bl #[.int .i64 lev] t) (hne : ba ≠ bl) {p : Part} (hp : p ∈ partsL k) (v : Int) :
    AskAt (w.setCell (partAt ba bl p.ix) (.int .i64 v)) ba (setF x p.ix v) ∧ Blk (w.setCell (partAt ba bl p.ix) (.int .i64 v)) bl #[.int .i64 (levF lev p.ix v)] t := by
  rcases part_cases hp with rfl | rfl | rfl | rfl | rfl | rfl | rfl | rfl | rfl
  all_goals first
    | exact ⟨hA.set _, hL.other (p := ⟨ba, _, none⟩) hne _⟩
    | exact ⟨hA.other (p := ⟨bl, 0, none⟩) (fun e => hne e.symm) _, hL.set _⟩
def numOf (l : List UInt8) : Int := l.foldl (fun n c => 256 * n + (c.toNat : Int)) 0
theorem numOf_snoc (l : List UInt8) (c : UInt8) : numOf (l ++ [c]) = 256 * numOf l + (c.toNat : Int) := by simp [numOf]
theorem numOf_bd (l : List UInt8) : 0 ≤ numOf l ∧ numOf l < 256 ^ l.length := by
  induction h : l.length generalizing l with
  | zero => obtain rfl : l = [] := List.length_eq_zero_iff.1 h; exact ⟨by decide, by decide⟩
  | succ n ih =>
    rcases List.eq_nil_or_concat l with rfl | ⟨l', c, rfl⟩
    · simp at h
    · rw [List.concat_eq_append] at h ⊢
      rw [numOf_snoc]
      have := ih l' (by simp at h; omega)
      have hc : (c.toNat : Int) < 256 := by have := c.toNat_lt; omega
      rw [Int.pow_succ]
      omega
theorem numOf_lt {l : List UInt8} (h : l.length ≤ 3) : numOf l < 16777216 := by
  have hb := (numOf_bd l).2
  have hl : l.length = 0 ∨ l.length = 1 ∨ l.length = 2 ∨ l.length = 3 := by omega
  rcases hl with e | e | e | e <;> rw [e] at hb <;> simp at hb <;> omega
theorem or_num {N : Int} {c : UInt8} (h : 0 ≤ N) (h1 : N < 16777216) : bits .or .i64 (N * 256) (c.toNat : Int) = 256 * N + (c.toNat : Int) := by
  obtain ⟨a, rfl⟩ := Int.eq_ofNat_of_zero_le h
  have hc := c.toNat_lt
  have hb := (bits_nat .i64 40 (by decide) (fun n h0 h1 => by rw [IntKind.wrap_i64]; omega) (a * 256) c.toNat (by omega) (by omega)).2
  rw [show ((a : Int) * 256) = ((a * 256 : Nat) : Int) by simp, hb, Nat.mul_comm, ← Nat.two_pow_add_eq_or_of_lt (i := 8) (by omega) a]
  simp
def readN (r : List UInt8 × Bool) (m : Nat) : Int × (List UInt8 × Bool) := if r.1.length < m then (0, ([], true)) else (numOf (r.1.take m), (r.1.drop m, r.2))
def RdAt (w : World) (b : Nat) (r : List UInt8 × Bool) : Prop := Blk w b #[.string ⟨r.1.toArray⟩, .bool r.2] 254
set_option maxHeartbeats 2000000 in
theorem number_any (b : Nat) (r : List UInt8 × Bool) (m : Nat) (w : World) (hm : m ≤ 4) (h : RdAt w b r) :
    Calls Tryz.prog 209 #[.pointer (some ⟨b, 0, none⟩), .int .i64 m] w fun e w' => e = .returned (.int .i64 (readN r m).1) ∧ RdAt w' b (readN r m).2 ∧ Kept (fun k => k = b) w w' := by
  obtain ⟨L, sh⟩ := r
  have g0 := Blk.cell h (j := 0) rfl
  have g1 := Blk.cell h (j := 1) rfl
  have f0 := Blk.free h 0
  have f1 := Blk.free h 1
  by_cases hlt : L.length < m
  · have HR := Lib.hid (show readN (L, sh) m = (0, ([], true)) from if_pos hlt)
    go_enter Tryz.func209, Tryz.ntmps209
    go_wp2_with fail
    go_ret
    refine ⟨by rw [HR.out]; rfl, ?_, ?_⟩
    · rw [HR.out]; exact (Blk.set h _).set _
    · exact ((Kept.refl (fun k => k = b) w).setCell (p := ⟨b, 0, none⟩) (.inl rfl) _).setCell (p := ⟨b, 1, none⟩) (.inl rfl) _
  · have HR := Lib.hid (show readN (L, sh) m = (numOf (L.take m), (L.drop m, sh)) from if_neg hlt)
    have kc := fun (W : World) (s : ByteArray) => Lib.run_convert_string_bytes (P := Tryz.prog) W 9 268 5 s Tryz.underlying9 Tryz.underlying268 Tryz.underlying5
    have hlen : (L.take m).length = m := by rw [List.length_take]; omega
    have hsz : m ≤ L.length := by omega
    go_enter Tryz.func209, Tryz.ntmps209
    go_wp2_with fail
    go_loopg [5, 29] m (fun gk nv i wr => ∃ k : Nat, k ≤ m ∧ m - k ≤ gk ∧ i = .int .i64 k ∧ nv = .int .i64 (numOf (L.take k)) ∧ wr = Lib.bytesWorld w 5 ((⟨L.toArray⟩ : ByteArray).extract 0 m))
    case atStart => exact ⟨0, by omega, by omega, rfl, rfl, rfl⟩
    case round =>
      obtain ⟨k, hk, hgk, rfl, rfl, rfl⟩ := hrel
      by_cases hl : k < m
      · have hx : L[k]? = some (L[k]'(by omega)) := List.getElem?_eq_getElem _
        obtain ⟨c, hc⟩ : ∃ c, c = L[k]'(by omega) := ⟨_, rfl⟩
        rw [← hc] at hx
        have e1 : (⟨L.toArray⟩ : ByteArray).extract 0 m = ⟨(L.take m).toArray⟩ := by rw [ByteArray.extract_mk]; rfl
        have gc := Lib.bytesWorld_cell w 5 ((⟨L.toArray⟩ : ByteArray).extract 0 m) k (by rw [e1]; show k < (L.take m).toArray.size; rw [List.size_toArray, hlen]; exact hl)
        rw [show (((⟨L.toArray⟩ : ByteArray).extract 0 m).data.toList.getD k 0) = c by
          rw [e1]; simp [List.getD, hl, hx]] at gc
        have hs := numOf_snoc (L.take k) c
        rw [← take_snoc hx] at hs
        have hbd := numOf_bd (L.take k)
        have hcl : (c.toNat : Int) < 256 := by have := c.toNat_lt; omega
        have hN : numOf (L.take k) < 16777216 := numOf_lt (by rw [List.length_take]; omega)
        obtain ⟨N, hNe⟩ : ∃ N, N = numOf (L.take k) := ⟨_, rfl⟩
        rw [← hNe] at hs hbd hN ⊢
        have HS := Lib.hid hs
        have HN := Lib.hid hNe
        have hN0 := hbd.1
        have hor := or_num (c := c) hbd.1 hN
        clear hs hNe hbd hc hx e1
        go_wp2_with fail
        go_roundg (m - (k + 1))
        case measure => omega
        case rel => exact ⟨k + 1, by omega, by omega, by go_num, by rw [HS.out], rfl⟩
      · obtain rfl : k = m := by omega
        have hlt : b < w.heap.size := Blk.lt h
        have k0 := (Lib.bytesWorld_old w 5 ((⟨L.toArray⟩ : ByteArray).extract 0 k) ⟨b, 0, none⟩ hlt).trans g0
        have hB : Blk (Lib.bytesWorld w 5 ((⟨L.toArray⟩ : ByteArray).extract 0 k)) b #[.string ⟨L.toArray⟩, .bool sh] 254 := (Lib.bytesWorld_at_old _ _ _ _ hlt).trans h
        have f2 := hB.free 0
        have HB := Lib.hid hB
        clear hB
        go_wp2_with fail
        go_ret
        have e2 : (⟨L.toArray⟩ : ByteArray).extract k L.length = ⟨(L.drop k).toArray⟩ := by rw [ByteArray.extract_mk, List.take_of_length_le (by simp)]
        refine ⟨by rw [HR.out]; rfl, ?_, ?_⟩
        · rw [HR.out, e2]; exact HB.out.set (j := 0) _
        · have hk0 : Kept (fun k => k = b) w (Lib.bytesWorld w 5 ((⟨L.toArray⟩ : ByteArray).extract 0 k)) :=
            ⟨rfl, rfl, rfl, by rw [Lib.bytesWorld_size]; omega, fun j hj _ => Lib.bytesWorld_at_old _ _ _ _ hj⟩
          exact hk0.setCell (p := ⟨b, 0, none⟩) (.inl rfl) _
end Go.Proofs.YtoilcdgpeilgaaaGreat
namespace Go.Proofs.YtoilcdgpeilgaaaGreat
open Go.RowKit Go.Shelf
def zf (l : List Part) (x : Ask) : Ask := l.foldl (fun y p => setF y p.ix 0) x
theorem zf_snoc (l : List Part) (x : Ask) (p : Part) : zf (l ++ [p]) x = setF (zf l x) p.ix 0 := by simp [zf]
def bareAsk (x : Ask) : Ask := { zf (partsL x.kind) x with level := if (partsL x.kind).any (fun p => p.ix == 4) then false else x.level }
def bareB (x : Ask) : Bool := decide (bareAsk x = { (default : Ask) with number := x.number, kind := x.kind })
theorem zf_same (l : List Part) (x : Ask) : (zf l x).level = x.level ∧ (zf l x).number = x.number ∧ (zf l x).kind = x.kind := by
  have key : ∀ (l : List Part) (x y : Ask), y.level = x.level ∧ y.number = x.number ∧ y.kind = x.kind → (l.foldl (fun y p => setF y p.ix 0) y).level = x.level ∧ (l.foldl (fun y p => setF y p.ix 0) y).number = x.number ∧ (l.foldl (fun y p => setF y p.ix 0) y).kind = x.kind := by
    intro l
    induction l with
    | nil => intro x y h; exact h
    | cons p l ih => intro x y h; rw [List.foldl_cons]; exact ih x _ h
  exact key l x x ⟨rfl, rfl, rfl⟩
set_option maxHeartbeats 1000000 in
theorem IndexFunc_part (ba bl : Nat) (A : Option Addr) (n cap : Nat) (l : List Part) (g : Nat) (lb : Array Value) (p : Part → Bool) (w : World) (h : Sl (partC ba bl) 3 w All A n cap l)
    (eg : ∀ args w, (callFunc g args).run Tryz.prog w = .ok (.enter g args) w)
    (hp : ∀ (x : Part) (w1 : World), x ∈ l → Below w.heap.size w w1 → Calls Tryz.prog g (#[.agg #[.int .i64 x.bytes, .int .i64 x.most, .pointer (some (partAt ba bl x.ix))]] ++ lb) w1 fun e w' => e = .returned (.bool (p x)) ∧ Below w1.heap.size w1 w') :
    Calls Tryz.prog 261 #[.slice A n cap, .func (.func g) #[] lb] w fun e w' => e = .returned (.int .i64 (idxF p l)) ∧ Below w.heap.size w w' := by
  have Hp := Lib.hid hp
  clear hp
  have hbd := h.bd
  go_enter Tryz.func261, Tryz.ntmps261
  go_wp2_with fail
  go_loopg [8] n (fun gk i wr => ∃ k : Nat, k ≤ n ∧ n - k ≤ gk ∧ i = .int .i64 k ∧ Aside ((l.take k).any p = false) ∧ Below w.heap.size w wr)
  case atStart => exact ⟨0, Nat.zero_le _, by omega, rfl, rfl, Below.refl _ _⟩
  case round =>
    obtain ⟨k, hk, hgk, rfl, HA, hb⟩ := hrel
    by_cases hlt : k < n
    · obtain ⟨b, off, x, c0, c1, c2, rfl, hx, hc, g0, g1, g2⟩ := (h.below (partC_good ba bl) (by omega) hb).at3 hlt
      obtain ⟨hc, hw⟩ := hc
      simp only [List.cons.injEq, and_true] at hc
      obtain ⟨rfl, rfl, rfl⟩ := hc
      have HX := Lib.hid hx
      have HM := Lib.hid (List.mem_of_getElem? hx)
      clear hx
      have hcall := fun w1 (hb1 : Below w.heap.size w w1) => Hp.out x w1 HM.out hb1
      cases hq : p x with
      | true =>
        rw [hq] at hcall
        have HQ := Lib.hid hq
        clear hq
        go_wp2_with (go_at_fn g; refine (hcall _ hb).mono ?_; rintro e w1 ⟨rfl, hb1⟩; replace hb1 := hb.trans (hb1.mono hb.size); clear hcall)
        go_ret
        exact ⟨retI (idxF_at HA HX.out HQ.out).symm, hb1⟩
      | false =>
        rw [hq] at hcall
        have HQ := Lib.hid hq
        clear hq
        go_wp2_with (go_at_fn g; refine (hcall _ hb).mono ?_; rintro e w1 ⟨rfl, hb1⟩; replace hb1 := hb.trans (hb1.mono hb.size); clear hcall)
        go_roundg (n - (k + 1))
        case measure => omega
        case rel => exact ⟨k + 1, by omega, by omega, by go_num, by show _ = _; rw [any_take_succ HX.out, HA, HQ.out]; rfl, hb1⟩
    · have : k = n := by omega
      subst this
      have HT := Lib.hid (List.take_of_length_le (Nat.le_of_eq h.len))
      go_wp2_with fail
      go_ret
      exact ⟨retI (by rw [idxF_none (by rw [← HT.out]; exact HA)]), hb⟩
theorem ContainsFunc_part (ba bl : Nat) (A : Option Addr) (n cap : Nat) (l : List Part) (g : Nat) (lb : Array Value) (p : Part → Bool) (w : World) (h : Sl (partC ba bl) 3 w All A n cap l)
    (eg : ∀ args w, (callFunc g args).run Tryz.prog w = .ok (.enter g args) w)
    (hp : ∀ (x : Part) (w1 : World), x ∈ l → Below w.heap.size w w1 → Calls Tryz.prog g (#[.agg #[.int .i64 x.bytes, .int .i64 x.most, .pointer (some (partAt ba bl x.ix))]] ++ lb) w1 fun e w' => e = .returned (.bool (p x)) ∧ Below w1.heap.size w1 w') :
    Calls Tryz.prog 247 #[.slice A n cap, .func (.func g) #[] lb] w fun e w' => e = .returned (.bool (l.any p)) ∧ Below w.heap.size w w' := by
  have HC := IndexFunc_part ba bl A n cap l g lb p w h eg hp
  clear hp
  go_enter Tryz.func247, Tryz.ntmps247
  go_wp2_with fail
  refine HC.mono ?_
  rintro e w1 ⟨rfl, hb⟩
  have HI := Lib.hid (idxF_any (p := p) (l := l))
  have hbd := idxF_bd (p := p) (l := l) (by have := h.bd; have := h.len; omega)
  go_wp2_with fail
  go_ret
  exact ⟨retB HI.out, hb⟩
theorem AskAt.all {w : World} {b : Nat} {x : Ask} (h : AskAt w b x) :
    w.cell? ⟨b, 0, none⟩ = some (.int .i64 x.number) ∧ w.cell? ⟨b, 1, none⟩ = some (.int .i64 x.kind) ∧ w.cell? ⟨b, 2, none⟩ = some (.int .i64 x.id) ∧ w.cell? ⟨b, 3, none⟩ = some (.int .i64 x.guests) ∧ w.cell? ⟨b, 4, none⟩ = some (.bool x.level) ∧
    w.cell? ⟨b, 5, none⟩ = some (.int .i64 x.cabin) ∧ w.cell? ⟨b, 6, none⟩ = some (.int .i64 x.category) ∧ w.cell? ⟨b, 7, none⟩ = some (.int .i64 x.frm) ∧ w.cell? ⟨b, 8, none⟩ = some (.int .i64 x.upto) ∧ w.cell? ⟨b, 9, none⟩ = some (.int .i64 x.til) ∧
    w.cell? ⟨b, 10, none⟩ = some (.int .i64 x.amount) :=
  ⟨h.cell rfl, h.cell rfl, h.cell rfl, h.cell rfl, h.cell rfl, h.cell rfl, h.cell rfl, h.cell rfl, h.cell rfl, h.cell rfl, h.cell rfl⟩
theorem int_info : ∃ j, Tryz.prog.info? 3 = some j ∧ j.size ≠ 0 := by
  have hi : (Tryz.prog.info? 3).isSome = true := by kernel_rfl
  have hz : ((Tryz.prog.info? 3).map fun j => decide (j.size ≠ 0)) = some true := by kernel_rfl
  obtain ⟨j, hj⟩ := Option.isSome_iff_exists.1 hi
  rw [hj] at hz
  exact ⟨j, hj, by simpa using hz⟩
set_option maxRecDepth 100000 in
theorem bare1_any (ba bl : Nat) (p : Part) (y : Ask) (w : World) (hne : ba ≠ bl) (hA : AskAt w ba y) (hL : Blk w bl #[.int .i64 0] 3) :
    Calls Tryz.prog 248 #[.agg #[.int .i64 p.bytes, .int .i64 p.most, .pointer (some (partAt ba bl p.ix))], .pointer (some ⟨bl, 0, none⟩)] w fun e w' => e = .returned (.bool (p.ix == 4)) ∧ Below w.heap.size w w' := by
  obtain ⟨j, hj, hj0⟩ := int_info
  have hA2 := hA.bel (bel1 w (.cells #[.int .i64 p.bytes, .int .i64 p.most, .pointer (some (partAt ba bl p.ix))] 212))
  have hL2 := hL.bel (bel1 w (.cells #[.int .i64 p.bytes, .int .i64 p.most, .pointer (some (partAt ba bl p.ix))] 212))
  by_cases h : p.ix = 4
  · have hp : partAt ba bl p.ix = ⟨bl, 0, none⟩ := by unfold partAt; rw [if_pos h]
    have HH := Lib.hid (show (p.ix == 4) = true by simpa using h)
    rw [hp] at hA2 hL2 ⊢
    have kp := run_eql_ptr_same (P := Tryz.prog) (w.alloc (.cells #[.int .i64 p.bytes, .int .i64 p.most, .pointer (some ⟨bl, 0, none⟩)] 212)) ⟨bl, 0, none⟩ Tryz.underlying210 hj
    clear h hp hA2 hL2 hj hj0
    go_enter Tryz.func248, Tryz.ntmps248
    go_wp2_with fail
    go_ret
    exact ⟨retB (by rw [HH.out]), bel1 _ _⟩
  · have hp : partAt ba bl p.ix = ⟨ba, p.ix, none⟩ := by unfold partAt; rw [if_neg h]
    have HH := Lib.hid (show (p.ix == 4) = false by simpa using h)
    rw [hp] at hA2 hL2 ⊢
    have kp := run_eql_ptr_other (P := Tryz.prog) (w.alloc (.cells #[.int .i64 p.bytes, .int .i64 p.most, .pointer (some ⟨ba, p.ix, none⟩)] 212)) (a := ⟨ba, p.ix, none⟩) (b := ⟨bl, 0, none⟩) Tryz.underlying210 hj hj0 (fun e => hne (congrArg Addr.block e)) hA2 hL2
    clear h hp hA2 hL2 hj hj0
    go_enter Tryz.func248, Tryz.ntmps248
    go_wp2_with fail
    go_ret
    exact ⟨retB (by rw [HH.out]), bel1 _ _⟩
def askQ (a b : Ask) : Bool := decide (a = b)
set_option maxRecDepth 100000 in
set_option maxHeartbeats 2000000 in
theorem ask_eq (a b : Ask) (W : World) : (binOp .eql 93 (.agg (askA a)) (.agg (askA b))).run Tryz.prog W = .ok (.bool (askQ a b)) W := by
  unfold askQ
  obtain ⟨a0, a1, a2, a3, a4, a5, a6, a7, a8, a9, a10⟩ := a
  obtain ⟨b0, b1, b2, b3, b4, b5, b6, b7, b8, b9, b10⟩ := b
  unfold askA
  simp only [Ask.mk.injEq]
  go_simp
  repeat' split
  all_goals simp_all
set_option maxRecDepth 100000 in
set_option maxHeartbeats 2000000 in
theorem bare_any (x : Ask) (w : World) : Calls Tryz.prog 210 #[.agg (askA x)] w fun e w' => e = .returned (.bool (bareB x)) ∧ Below w.heap.size w w' := by
  unfold askA
  go_enter Tryz.func210, Tryz.ntmps210
  go_upto_region 1 with (fail)
  go_cut [1, 3, 4] (fun a b c wx => ∃ b0 b1 b2, a = .pointer (some ⟨b0, 0, none⟩) ∧ b = .pointer (some ⟨b1, 0, none⟩) ∧ c = .pointer (some ⟨b2, 0, none⟩) ∧ AskAt wx b0 x ∧ AskAt wx b1 x ∧ Blk wx b2 #[.int .i64 0] 3 ∧ Below w.heap.size w wx ∧ w.heap.size ≤ b1 ∧ w.heap.size ≤ b2 ∧ b0 ≠ b1 ∧ b0 ≠ b2 ∧ b1 ≠ b2)
  case first => as_aux_lemma =>
    go_wp2_with fail
    go_meet
    exact ⟨_, _, _, rfl, rfl, rfl, blk3_0 _ _ _ _, blk3_1 _ _ _ _, blk3_2 _ _ _ _, bel3 _ _ _ _, by omega, by omega, by omega, by omega, by omega⟩
  obtain ⟨b0, b1, b2, rfl, rfl, rfl, hA, hB, hL, hb, ge1, ge2, n01, n02, n12⟩ := hcut
  go_wp2_with fail
  refine (parts_any b1 b2 x.kind _ (hB.cell rfl)).mono ?_
  rintro e w2 ⟨A, n, cap, rfl, hS, hb2⟩
  have ltc1 := Blk.lt hB
  have ltc2 := hL.lt
  replace hA := hA.bel hb2
  replace hB := hB.bel hb2
  replace hL := hL.bel hb2
  replace hb := hb.trans (hb2.mono hb.size)
  have lt0 := Blk.lt hA
  have lt1 := Blk.lt hB
  have lt2 := hL.lt
  clear hb2
  obtain ⟨pl, hpl⟩ : ∃ pl, pl = partsL x.kind := ⟨_, rfl⟩
  rw [← hpl] at hS
  have HPL := Lib.hid hpl
  clear hpl
  have hbd := hS.bd
  go_wp2_with fail
  go_loopg [16] n (fun gk i wr => ∃ k : Nat, k ≤ n ∧ n - k ≤ gk ∧ i = .int .i64 k ∧ AskAt wr b1 (zf (pl.take k) x) ∧ Blk wr b2 #[.int .i64 0] 3 ∧ Kept (fun j => j = b1 ∨ j = b2) w2 wr)
  case atStart => exact ⟨0, Nat.zero_le _, by omega, rfl, hB, hL, Kept.refl _ _⟩
  case round =>
    obtain ⟨k, hk, hgk, rfl, hB, hL, hK⟩ := hrel
    have hS2 := hS.kept hK (fun b _ hT => by have hT : wc.heap.size ≤ b := hT; rintro (rfl | rfl) <;> omega)
    by_cases hlt : k < n
    · obtain ⟨b, off, p, c0, c1, c2, rfl, hx, ⟨hc, _⟩, g0, g1, g2⟩ := hS2.at3 hlt
      simp only [List.cons.injEq, and_true] at hc
      obtain ⟨rfl, rfl, rfl⟩ := hc
      have hpm : p ∈ partsL x.kind := by rw [← HPL.out]; exact List.mem_of_getElem? hx
      have hw3 := bel1 wr (.cells #[.int .i64 p.bytes, .int .i64 p.most, .pointer (some (partAt b1 b2 p.ix))] 212)
      have hP := mem_at (hB.bel hw3) (hL.bel hw3) hpm
      have hP1 := hP.1
      have hP2 := hP.2
      have hN := mem_set (hB.bel hw3) (hL.bel hw3) n12 hpm 0
      have HN := Lib.hid hN
      have HZ := Lib.hid (show zf (pl.take (k + 1)) x = setF (zf (pl.take k) x) p.ix 0 by rw [take_snoc hx, zf_snoc])
      have HM := Lib.hid hpm
      clear hx hN hP hpm hS2
      go_wp2_with fail
      go_roundg (n - (k + 1))
      case measure => omega
      case rel =>
        refine ⟨k + 1, by omega, by omega, by go_num, by rw [HZ.out]; exact HN.out.1, ?_, ?_⟩
        · have := HN.out.2
          rwa [show levF 0 p.ix 0 = 0 by unfold levF; split <;> rfl] at this
        · refine (hK.alloc _).setCell (.inl ?_) _
          unfold partAt; split
          · exact .inr rfl
          · exact .inl rfl
    · obtain rfl : k = n := by omega
      have HT := Lib.hid (show pl.take k = pl from List.take_of_length_le (Nat.le_of_eq hS.len))
      have hkl := hK.below (B := w.heap.size) hb.size (by rintro j hj (rfl | rfl) <;> omega)
      replace hb := hb.trans hkl
      have hcon := ContainsFunc_part b1 b2 A k cap pl 248 #[.pointer (some ⟨b2, 0, none⟩)] (fun p => p.ix == 4) wr (hS2.all (partC_good _ _) (by omega)) (enters_of Tryz.func248 (by kernel_rfl) rfl) (fun p w1 _ hb1 => bare1_any b1 b2 p _ w1 n12 (hB.bel hb1) (hL.bel hb1))
      have HC := Lib.hid hcon
      clear hcon
      go_wp2_with fail
      refine HC.out.mono ?_
      rintro e w3 ⟨rfl, hb3⟩
      have hA3 : AskAt w3 b0 x := (hK.block b0 lt0 (by rintro (h | h) <;> omega)).trans hA |> fun h => AskAt.bel h hb3
      have hB3 := hB.bel hb3
      rw [HT.out] at hB3
      obtain ⟨a0, a1, _⟩ := hA3.all
      have he : bareAsk x = { zf pl x with level := if pl.any (fun p => p.ix == 4) then false else x.level } := by rw [HPL.out]; rfl
      replace hb := hb.trans (hb3.mono hb.size)
      cases q : pl.any (fun p => p.ix == 4) with
      | true =>
        rw [if_pos q] at he
        obtain ⟨y, hy⟩ : ∃ y, y = bareAsk x := ⟨_, rfl⟩
        have HB := Lib.hid (show bareB x = askQ y ⟨x.number, x.kind, 0, 0, false, 0, 0, 0, 0, 0, 0⟩ by rw [hy]; rfl)
        have f4 := hB3.free 4
        have g4 := hB3.cell (j := 4) rfl
        have hC : AskAt (w3.setCell ⟨b1, 4, none⟩ (.bool false)) b1 y := by rw [hy, he]; exact hB3.set _
        obtain ⟨c0, c1, c2, c3, c4, c5, c6, c7, c8, c9, c10⟩ := hC.all
        have kq := fun W => ask_eq y ⟨x.number, x.kind, 0, 0, false, 0, 0, 0, 0, 0, 0⟩ W
        dsimp only [askA] at kq
        clear he hy q
        go_wp2_with fail
        go_ret
        exact ⟨retB HB.out.symm, hb.setCell (p := ⟨b1, 4, none⟩) ge1 _⟩
      | false =>
        rw [if_neg (by simp [q])] at he
        obtain ⟨y, hy⟩ : ∃ y, y = bareAsk x := ⟨_, rfl⟩
        have HB := Lib.hid (show bareB x = askQ y ⟨x.number, x.kind, 0, 0, false, 0, 0, 0, 0, 0, 0⟩ by rw [hy]; rfl)
        have hC : AskAt w3 b1 y := by
          rw [hy, he, ← (zf_same pl x).1]; exact hB3
        obtain ⟨c0, c1, c2, c3, c4, c5, c6, c7, c8, c9, c10⟩ := hC.all
        have kq := fun W => ask_eq y ⟨x.number, x.kind, 0, 0, false, 0, 0, 0, 0, 0, 0⟩ W
        dsimp only [askA] at kq
        clear he hy q
        go_wp2_with fail
        go_ret
        exact ⟨retB HB.out.symm, hb⟩
def partOk (x : Ask) (p : Part) : Bool := betB (memF x 0 p.ix) 0 p.most
def codeE (x : Ask) : Int :=
  if betB x.kind 1 8 = false then 7 else if betB x.number 1 65535 = false then 3 else if bareB x = false then 1 else if (partsL x.kind).all (partOk x) then 0 else 3
end Go.Proofs.YtoilcdgpeilgaaaGreat
namespace Go.Proofs.YtoilcdgpeilgaaaGreat
open Go.RowKit Go.Shelf
theorem all_take_succ {α : Type} {p : α → Bool} {l : List α} {k : Nat} {x : α} (hx : l[k]? = some x) : (l.take (k + 1)).all p = ((l.take k).all p && p x) := by rw [take_snoc hx]; simp
theorem all_at {α : Type} {p : α → Bool} {l : List α} {k : Nat} {x : α} (hx : l[k]? = some x) (hp : p x = false) : l.all p = false := by
  rw [List.all_eq_false]; exact ⟨x, List.mem_of_getElem? hx, by simp [hp]⟩
set_option maxRecDepth 100000 in
set_option maxHeartbeats 2000000 in
theorem codeCheck_any (x : Ask) (w : World) : Calls Tryz.prog 134 #[.agg (askA x)] w fun e w' => e = .returned (.int .i64 (codeE x)) ∧ Below w.heap.size w w' := by
  obtain ⟨r, hr⟩ : ∃ r, r = codeE x := ⟨_, rfl⟩
  rw [← hr]
  have HR := Lib.hid hr
  clear hr
  unfold askA
  go_enter Tryz.func134, Tryz.ntmps134
  go_upto_region 1 with (fail)
  go_cut [1, 3] (fun a b wx => ∃ b1 b2, a = .pointer (some ⟨b1, 0, none⟩) ∧ b = .pointer (some ⟨b2, 0, none⟩) ∧ AskAt wx b1 x ∧ Blk wx b2 #[.int .i64 0] 3 ∧ Below w.heap.size w wx ∧ w.heap.size ≤ b1 ∧ w.heap.size ≤ b2 ∧ b1 ≠ b2)
  case first => as_aux_lemma =>
    go_wp2_with fail
    go_meet
    exact ⟨_, _, rfl, rfl, blk2_0 _ _ _, blk2_1 _ _ _, bel2 _ _ _, by omega, by omega, by omega⟩
  obtain ⟨b1, b2, rfl, rfl, hB, hL, hb, ge1, ge2, n12⟩ := hcut
  go_wp2_with fail
  refine (parts_any b1 b2 x.kind _ (hB.cell rfl)).mono ?_
  rintro e w2 ⟨A, n, cap, rfl, hS, hb2⟩
  have hS := hS.all (partC_good _ _) (by omega)
  replace hB := hB.bel hb2
  replace hL := hL.bel hb2
  replace hb := hb.trans (hb2.mono hb.size)
  clear hb2
  obtain ⟨pl, hpl⟩ : ∃ pl, pl = partsL x.kind := ⟨_, rfl⟩
  rw [← hpl] at hS
  have HPL := Lib.hid hpl
  clear hpl
  have hbd := hS.bd
  obtain ⟨c0, c1, c2, c3, c4, c5, c6, c7, c8, c9, c10⟩ := hB.all
  cases q_HK : betB x.kind 1 8 <;> have HK := Lib.hid q_HK <;> clear q_HK
  · obtain rfl : r = 7 := by rw [HR.out]; unfold codeE; rw [if_pos HK.out]
    go_wp2_with fail
    go_ret
    exact ⟨rfl, hb⟩
  have HR1 := Lib.hid (show r = if betB x.number 1 65535 = false then 3 else if bareB x = false then 1 else if pl.all (partOk x) then 0 else 3 by
    rw [HR.out]; unfold codeE; rw [if_neg (by rw [HK.out]; simp), HPL.out])
  by_cases hn1 : x.number < 1
  · obtain rfl : r = 3 := by rw [HR1.out, if_pos (betB_false (.inl hn1))]
    go_wp2_with fail
    go_ret
    exact ⟨rfl, hb⟩
  by_cases hn2 : 65535 < x.number
  · obtain rfl : r = 3 := by rw [HR1.out, if_pos (betB_false (.inr hn2))]
    go_wp2_with fail
    go_ret
    exact ⟨rfl, hb⟩
  have HR2 := Lib.hid (show r = if bareB x = false then 1 else if pl.all (partOk x) then 0 else 3 by
    rw [HR1.out, if_neg (by rw [betB_true (by omega) (by omega)]; simp)])
  have hbare := fun W => bare_any x W
  dsimp only [askA] at hbare
  have HBA := Lib.hid hbare
  clear hbare
  go_wp2_with fail
  refine (HBA.out _).mono ?_
  rintro e w3 ⟨rfl, hb3⟩
  replace hb := hb.trans (hb3.mono hb.size)
  replace hB := hB.bel hb3
  replace hL := hL.bel hb3
  replace hS := hS.bel hb3
  clear hb3 c0 c1 c2 c3 c4 c5 c6 c7 c8 c9 c10 hn1 hn2
  cases q_HBB : bareB x <;> have HBB := Lib.hid q_HBB <;> clear q_HBB
  · obtain rfl : r = 1 := by rw [HR2.out, if_pos HBB.out]
    go_wp2_with fail
    go_ret
    exact ⟨rfl, hb⟩
  have HR3 := Lib.hid (show r = if pl.all (partOk x) then 0 else 3 by rw [HR2.out, if_neg (by rw [HBB.out]; simp)])
  go_wp2_with fail
  go_loopg [30] n (fun gk i wr => ∃ k : Nat, k ≤ n ∧ n - k ≤ gk ∧ i = .int .i64 k ∧ Aside ((pl.take k).all (partOk x) = true) ∧ Below w3.heap.size w3 wr)
  case atStart => exact ⟨0, Nat.zero_le _, by omega, rfl, rfl, Below.refl _ _⟩
  case round =>
    obtain ⟨k, hk, hgk, rfl, HA, hb3⟩ := hrel
    by_cases hlt : k < n
    · obtain ⟨b, off, p, d0, d1, d2, rfl, hx, ⟨hc, _⟩, g0, g1, g2⟩ := (hS.bel hb3).at3 hlt
      simp only [List.cons.injEq, and_true] at hc
      obtain ⟨rfl, rfl, rfl⟩ := hc
      have hpm : p ∈ partsL x.kind := by rw [← HPL.out]; exact List.mem_of_getElem? hx
      have hbA := hb3.alloc hb3.size (.cells #[.int .i64 p.bytes, .int .i64 p.most, .pointer (some (partAt b1 b2 p.ix))] 212)
      have hP := (mem_at (hB.bel hbA) (hL.bel hbA) hpm).1
      obtain ⟨v, hv⟩ : ∃ v, v = memF x 0 p.ix := ⟨_, rfl⟩
      rw [← hv] at hP
      have HX := Lib.hid hx
      have HV := Lib.hid (show partOk x p = betB v 0 p.most by rw [hv]; rfl)
      have HM := Lib.hid hpm
      clear hx hpm hv
      by_cases hv0 : v < 0
      · obtain rfl : r = 3 := by rw [HR3.out, if_neg (by rw [all_at HX.out (by rw [HV.out]; exact betB_false (.inl hv0))]; simp)]
        have hd : decide (v < 0) = true := decide_eq_true hv0
        go_wp2_with fail
        go_quiet (fail)
        go_wp2_with fail
        go_ret
        exact ⟨rfl, hb.trans ((below_drewN hbA _).mono hb.size)⟩
      have hd : decide (v < 0) = false := decide_eq_false hv0
      by_cases hv1 : p.most < v
      · obtain rfl : r = 3 := by rw [HR3.out, if_neg (by rw [all_at HX.out (by rw [HV.out]; exact betB_false (.inr hv1))]; simp)]
        have hd1 : decide (p.most < v) = true := decide_eq_true hv1
        go_wp2_with fail
        go_quiet (fail)
        go_wp2_with fail
        go_ret
        exact ⟨rfl, hb.trans ((below_drewN hbA _).mono hb.size)⟩
      have hd1 : decide (p.most < v) = false := decide_eq_false hv1
      have HH := Lib.hid (show partOk x p = true by rw [HV.out]; exact betB_true (by omega) (by omega))
      go_wp2_with fail
      go_quiet (fail)
      go_wp2_with fail
      go_roundg (n - (k + 1))
      case measure => omega
      case rel => exact ⟨k + 1, by omega, by omega, by go_num, (show Aside _ from by show _ = _; rw [all_take_succ HX.out, HA, HH.out]; rfl), below_drewN hbA _⟩
    · obtain rfl : k = n := by omega
      have HT := Lib.hid (show pl.take k = pl from List.take_of_length_le (Nat.le_of_eq hS.len))
      obtain rfl : r = 0 := by rw [HR3.out, if_pos (by rw [← HT.out]; exact HA)]
      go_wp2_with fail
      go_ret
      exact ⟨rfl, hb.trans (hb3.mono hb.size)⟩
end Go.Proofs.YtoilcdgpeilgaaaGreat
namespace Go.Proofs.YtoilcdgpeilgaaaGreat
open Go.RowKit Go.Shelf
def levI (x : Ask) : Int := if x.level then 1 else 0
theorem memF_lev (x : Ask) {k : Int} {p : Part} (hp : p ∈ partsL k) : memF x (levI x) p.ix = fld x p.ix := by
  rcases part_cases hp with rfl | rfl | rfl | rfl | rfl | rfl | rfl | rfl | rfl <;> rfl
theorem part_bytes {k : Int} {p : Part} (hp : p ∈ partsL k) : ∃ m : Nat, p.bytes = (m : Int) ∧ 1 ≤ m ∧ m ≤ 4 := by
  rcases part_cases hp with rfl | rfl | rfl | rfl | rfl | rfl | rfl | rfl | rfl
  all_goals first
    | exact ⟨1, rfl, by omega, by omega⟩
    | exact ⟨2, rfl, by omega, by omega⟩
    | exact ⟨3, rfl, by omega, by omega⟩
    | exact ⟨4, rfl, by omega, by omega⟩
def partS (x : Ask) (p : Part) : List UInt8 := bytesL (fld x p.ix) p.bytes.toNat
def headS (x : Ask) : List UInt8 := bytesL x.kind 1 ++ bytesL x.number 2
def encS (x : Ask) : List UInt8 := headS x ++ (partsL x.kind).flatMap (partS x)
theorem str_add (a b : List UInt8) : (⟨a.toArray⟩ : ByteArray) ++ ⟨b.toArray⟩ = ⟨(a ++ b).toArray⟩ := ByteArray.mk_append_mk a b
theorem flat_len (x : Ask) (l : List Part) (h : ∀ p ∈ l, p.bytes.toNat ≤ 4) : (l.flatMap (partS x)).length ≤ 4 * l.length := by
  induction l with
  | nil => simp
  | cons p l ih =>
    rw [List.flatMap_cons, List.length_append, List.length_cons]
    have h1 := ih fun q hq => h q (List.mem_cons_of_mem _ hq)
    have h2 : (partS x p).length ≤ 4 := by unfold partS; rw [bytesL_length]; exact h p (List.mem_cons_self ..)
    omega
set_option maxRecDepth 100000 in
set_option maxHeartbeats 4000000 in
theorem Encode_any (x : Ask) (w : World) : Calls Tryz.prog 81 #[.agg (askA x)] w fun e w' =>
    e = .returned (.tuple #[.string ⟨(okL (codeE x) (encS x)).toArray⟩, .int .i64 (codeE x)]) ∧ Below w.heap.size w w' := by
  obtain ⟨r, hr⟩ : ∃ r, r = codeE x := ⟨_, rfl⟩
  have hck := fun W => codeCheck_any x W
  rw [← hr] at hck ⊢
  dsimp only [askA] at hck ⊢
  have HC := Lib.hid hck
  clear hck
  clear hr
  go_enter Tryz.func81, Tryz.ntmps81
  go_upto_region 0 with (fail)
  go_cut [1] (fun a wx => ∃ b1, a = .pointer (some ⟨b1, 0, none⟩) ∧ AskAt wx b1 x ∧ Below w.heap.size w wx ∧ w.heap.size ≤ b1)
  case first => as_aux_lemma =>
    go_wp2_with fail
    go_meet
    exact ⟨_, rfl, blk1 _ _, bel1 _ _, by omega⟩
  obtain ⟨b1, rfl, hB, hb, ge1⟩ := hcut
  obtain ⟨c0, c1, c2, c3, c4, c5, c6, c7, c8, c9, c10⟩ := hB.all
  go_wp2_with fail
  refine (HC.out _).mono ?_
  rintro e w2 ⟨rfl, hb2⟩
  replace hb := hb.trans (hb2.mono hb.size)
  replace hB := hB.bel hb2
  clear hb2 c0 c1 c2 c3 c4 c5 c6 c7 c8 c9 c10
  by_cases h0 : ¬ r = 0
  · have h0' : (r != 0) = true := by simpa using h0
    have H0 := Lib.hid h0
    clear h0
    go_wp2_with fail
    go_ret2
    exact ⟨by rw [okL_ne H0.out]; rfl, hb⟩
  have h0 : r = 0 := by omega
  subst h0
  have hbL := hb.alloc hb.size (.cells #[.int .i64 0] 3)
  have hBL := hB.bel (bel1 w2 (.cells #[.int .i64 0] 3))
  obtain ⟨_, _, _, _, c4, _⟩ := hBL.all
  obtain ⟨q, hq⟩ : ∃ q, q = x.level := ⟨_, rfl⟩
  have hlv : levI x = if x.level then 1 else 0 := rfl
  rw [← hq] at c4 hlv
  have HL := Lib.hid hlv
  clear hlv
  clear hq
  go_upto_if 17 with (fail)
  go_cut [5] (fun a wx => ∃ b2, a = .pointer (some ⟨b2, 0, none⟩) ∧ AskAt wx b1 x ∧ Blk wx b2 #[.int .i64 (levI x)] 3 ∧ Below w.heap.size w wx ∧ w.heap.size ≤ b2 ∧ b1 ≠ b2)
  case first =>
    have hlt := Blk.lt hB
    have hsz := hb.size
    have hN := Blk.new w2 #[.int .i64 0] 3
    have HB := Lib.hid hBL
    have HN := Lib.hid hN
    clear hBL hN
    cases q
    · go_wp2_with fail
      go_meet
      exact ⟨_, rfl, HB.out, by rw [HL.out]; exact HN.out, hbL, hsz, by omega⟩
    · go_wp2_with fail
      go_meet
      exact ⟨_, rfl, hB.bel (bel1 _ _), by rw [show levI x = 1 by rw [HL.out]; rfl]; exact Blk.new _ _ _, hb.alloc hb.size _, hsz, by omega⟩
  clear hb hbL hB hBL c4
  obtain ⟨b2, rfl, hB, hL, hb, ge2, n12⟩ := hcut
  obtain ⟨k0, k1, _⟩ := hB.all
  have l1 := bytesL_length 1 x.kind
  have l2 := bytesL_length 2 x.number
  have hs : headS x = bytesL x.kind 1 ++ bytesL x.number 2 := rfl
  obtain ⟨L1, hL1⟩ : ∃ L, L = bytesL x.kind 1 := ⟨_, rfl⟩
  obtain ⟨L2, hL2⟩ : ∃ L, L = bytesL x.number 2 := ⟨_, rfl⟩
  have hc1 : ∀ W, Calls Tryz.prog 162 #[.int .i64 x.kind, .int .i64 1] W fun e w' => e = .returned (.string ⟨(bytesL x.kind 1).toArray⟩) ∧ Below W.heap.size W w' := fun W => bytes_any x.kind 1 W (by omega)
  have hc2 : ∀ W, Calls Tryz.prog 162 #[.int .i64 x.number, .int .i64 2] W fun e w' => e = .returned (.string ⟨(bytesL x.number 2).toArray⟩) ∧ Below W.heap.size W w' := fun W => bytes_any x.number 2 W (by omega)
  rw [← hL1] at l1 hs hc1
  rw [← hL2] at l2 hs hc2
  have HC1 := Lib.hid hc1
  clear hc1
  have HC2 := Lib.hid hc2
  clear hc2
  have HS := Lib.hid hs
  clear hs
  clear hL1 hL2
  go_upto_region 7 with (fail)
  go_cut [6] (fun a wx => a = .string ⟨(headS x).toArray⟩ ∧ Below wc.heap.size wc wx)
  case first => as_aux_lemma =>
    have hbD : Below wc.heap.size wc wc.drew := (Below.refl _ wc).drew
    go_region_with (first
      | (go_at_call_of 162 (Value.int IntKind.i64 x.number); first
          | (refine (HC2.out wn).mono ?_; rintro e wm ⟨rfl, hbm⟩; have hbM := hbN.trans (hbm.mono hbN.size))
          | (refine (HC2.out _).mono ?_; rintro e wn ⟨rfl, hbn⟩; have hbN := hbD.trans (hbn.mono hbD.size); obtain ⟨m0, m1, _⟩ := (hB.bel hbN).all))
      | (go_at_call_of 162 (Value.int IntKind.i64 x.kind); first
          | (refine (HC1.out wn).mono ?_; rintro e wm ⟨rfl, hbm⟩; have hbM := hbN.trans (hbm.mono hbN.size))
          | (refine (HC1.out _).mono ?_; rintro e wn ⟨rfl, hbn⟩; have hbN := hbD.trans (hbn.mono hbD.size); obtain ⟨m0, m1, _⟩ := (hB.bel hbN).all)))
    all_goals
      go_wp2_with fail
      go_meet
      exact ⟨by rw [HS.out, str_add], hbM⟩
  obtain ⟨rfl, hb2⟩ := hcut
  replace hb := hb.trans (hb2.mono hb.size)
  replace hB := hB.bel hb2
  replace hL := hL.bel hb2
  have hl3 : (headS x).length = 3 := by rw [HS.out, List.length_append, l1, l2]
  clear hb2 k0 k1
  go_wp2_with fail
  refine (parts_any b1 b2 x.kind _ (hB.cell rfl)).mono ?_
  rintro e w3 ⟨A, n, cap, rfl, hS, hb2⟩
  have hS := hS.all (partC_good _ _) (by omega)
  replace hB := hB.bel hb2
  replace hL := hL.bel hb2
  replace hb := hb.trans (hb2.mono hb.size)
  clear hb2
  obtain ⟨pl, hpl⟩ : ∃ pl, pl = partsL x.kind := ⟨_, rfl⟩
  have he : encS x = headS x ++ pl.flatMap (partS x) := by rw [hpl]; rfl
  have hpn : pl.length ≤ 7 := by rw [hpl]; unfold partsL; (repeat' split) <;> simp
  rw [← hpl] at hS
  have HPL := Lib.hid hpl
  clear hpl
  have HE := Lib.hid he
  clear he
  have hbd := hS.bd
  have hln := hS.len
  go_wp2_with fail
  go_loopg [6, 31] n (fun gk s i wr => ∃ k : Nat, k ≤ n ∧ n - k ≤ gk ∧ i = .int .i64 k ∧ s = .string ⟨(headS x ++ (pl.take k).flatMap (partS x)).toArray⟩ ∧ Below w3.heap.size w3 wr)
  case atStart => exact ⟨0, Nat.zero_le _, by omega, rfl, by simp, Below.refl _ _⟩
  case round =>
    obtain ⟨k, hk, hgk, rfl, rfl, hb3⟩ := hrel
    by_cases hlt : k < n
    · obtain ⟨b, off, p, d0, d1, d2, rfl, hx, ⟨hc, _⟩, g0, g1, g2⟩ := (hS.bel hb3).at3 hlt
      simp only [List.cons.injEq, and_true] at hc
      obtain ⟨rfl, rfl, rfl⟩ := hc
      have hpm : p ∈ partsL x.kind := by rw [← HPL.out]; exact List.mem_of_getElem? hx
      have hbA := hb3.alloc hb3.size (.cells #[.int .i64 p.bytes, .int .i64 p.most, .pointer (some (partAt b1 b2 p.ix))] 212)
      have hP := (mem_at (hB.bel hbA) (hL.bel hbA) hpm).1
      rw [memF_lev x hpm] at hP
      obtain ⟨m, hm, hm1, hm4⟩ := part_bytes hpm
      obtain ⟨v, hv⟩ : ∃ v, v = fld x p.ix := ⟨_, rfl⟩
      rw [← hv] at hP
      rw [hm] at g0 hbA hP
      have HX := Lib.hid (show headS x ++ (pl.take (k + 1)).flatMap (partS x) = headS x ++ (pl.take k).flatMap (partS x) ++ bytesL v m by
        rw [take_snoc hx, List.flatMap_append, List.append_assoc, hv]; simp [partS, hm])
      have hfl : ((pl.take k).flatMap (partS x)).length ≤ 4 * k := by
        have := flat_len x (pl.take k) fun q hq => by
          obtain ⟨m', hm', _, h4⟩ := part_bytes (k := x.kind) (by rw [← HPL.out]; exact List.mem_of_mem_take hq)
          omega
        have := List.length_take_le k pl
        omega
      obtain ⟨L, hL2⟩ : ∃ L, L = headS x ++ (pl.take k).flatMap (partS x) := ⟨_, rfl⟩
      have hLl : L.length ≤ 3 + 4 * k := by rw [hL2, List.length_append]; omega
      have hk7 : k ≤ 7 := by omega
      rw [← hL2] at HX ⊢
      have hbM := bytesL_length m v
      obtain ⟨M, hM⟩ : ∃ M, M = bytesL v m := ⟨_, rfl⟩
      have hcb := fun W => bytes_any v m W hm4
      rw [← hM] at HX hbM hcb
      have HCB := Lib.hid hcb
      clear hcb
      clear hx hpm hv hm hM hL2 hfl
      go_wp2_with fail
      go_region_with (go_at_call 162; refine (HCB.out _).mono ?_; rintro e w4 ⟨rfl, hb4⟩)
      all_goals go_wp2_with fail
      all_goals go_roundg (n - (k + 1))
      all_goals first
        | omega
        | exact ⟨k + 1, by omega, by omega, by go_num, by rw [HX.out, str_add], hbA.drew.trans (hb4.mono hbA.size)⟩
    · obtain rfl : k = n := by omega
      have HT := Lib.hid (show pl.take k = pl from List.take_of_length_le (Nat.le_of_eq hS.len))
      go_wp2_with fail
      go_ret2
      exact ⟨by rw [okL_zero, HE.out, HT.out]; rfl, hb.trans (hb3.mono hb.size)⟩
end Go.Proofs.YtoilcdgpeilgaaaGreat
