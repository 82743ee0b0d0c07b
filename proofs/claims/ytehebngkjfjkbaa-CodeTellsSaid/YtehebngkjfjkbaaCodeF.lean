/-
  Requests: code.bare, code.Check.
-/
import Derived.Test.YtehebngkjfjkbaaCodeE
import Derived.LaidEqlPtr
namespace Go.Proofs.Ytehebngkjfjkbaa
open Go.RowKit Go.Shelf

/-- A request without what parts hold. -/
def zf (l : List Part) (x : Ask) : Ask := l.foldl (fun y p => setF y p.ix 0) x
theorem zf_snoc (l : List Part) (x : Ask) (p : Part) : zf (l ++ [p]) x = setF (zf l x) p.ix 0 := by simp [zf]
/-- Is there nothing that a kind does not name? -/
def bareAsk (x : Ask) : Ask := { zf (partsL x.kind) x with level := if (partsL x.kind).any (fun p => p.ix == 4) then false else x.level }
def bareB (x : Ask) : Bool := decide (bareAsk x = { (default : Ask) with number := x.number, kind := x.kind })
theorem zf_same (l : List Part) (x : Ask) : (zf l x).level = x.level ∧ (zf l x).number = x.number ∧ (zf l x).kind = x.kind := by
  have key : ∀ (l : List Part) (x y : Ask), y.level = x.level ∧ y.number = x.number ∧ y.kind = x.kind → (l.foldl (fun y p => setF y p.ix 0) y).level = x.level ∧ (l.foldl (fun y p => setF y p.ix 0) y).number = x.number ∧ (l.foldl (fun y p => setF y p.ix 0) y).kind = x.kind := by
    intro l
    induction l with
    | nil => intro x y h; exact h
    | cons p l ih => intro x y h; rw [List.foldl_cons]; exact ih x _ h
  exact key l x x ⟨rfl, rfl, rfl⟩

set_option maxHeartbeats 1000000 in
theorem IndexFunc_part (ba bl : Nat) (A : Option Addr) (n cap : Nat) (l : List Part) (g : Nat) (lb : Array Value) (p : Part → Bool) (w : World) (h : Sl (partC ba bl) 3 w All A n cap l)
    (eg : ∀ args w, (callFunc g args).run Try.prog w = .ok (.enter g args) w)
    (hp : ∀ (x : Part) (w1 : World), x ∈ l → Below w.heap.size w w1 → Calls Try.prog g (#[.agg #[.int .i64 x.bytes, .int .i64 x.most, .pointer (some (partAt ba bl x.ix))]] ++ lb) w1 fun e w' => e = .returned (.bool (p x)) ∧ Below w1.heap.size w1 w') :
    Calls Try.prog 102 #[.slice A n cap, .func (.func g) #[] lb] w fun e w' => e = .returned (.int .i64 (idxF p l)) ∧ Below w.heap.size w w' := by
  have Hp := Lib.hid hp
  clear hp
  have hbd := h.bd
  go_enter Try.func102, Try.ntmps102
  go_wp2_with fail
  go_loopg [8] n (fun gk i wr => ∃ k : Nat, k ≤ n ∧ n - k ≤ gk ∧ i = .int .i64 k ∧ Aside ((l.take k).any p = false) ∧ Below w.heap.size w wr)
  case atStart => exact ⟨0, Nat.zero_le _, by omega, rfl, rfl, Below.refl _ _⟩
  case round =>
    obtain ⟨k, hk, hgk, rfl, HA, hb⟩ := hrel
    by_cases hlt : k < n
    · obtain ⟨b, off, x, c0, c1, c2, rfl, hx, hc, g0, g1, g2⟩ := (h.below (partC_good ba bl) (by omega) hb).at3 hlt
      obtain ⟨hc, hw⟩ := hc
      simp only [List.cons.injEq, and_true] at hc
      obtain ⟨rfl, rfl, rfl⟩ := hc
      have HX := Lib.hid hx
      have HM := Lib.hid (List.mem_of_getElem? hx)
      clear hx
      have hcall := fun w1 (hb1 : Below w.heap.size w w1) => Hp.out x w1 HM.out hb1
      cases hq : p x with
      | true =>
        rw [hq] at hcall
        have HQ := Lib.hid hq
        clear hq
        go_wp2_with (go_at_fn g; refine (hcall _ hb).mono ?_; rintro e w1 ⟨rfl, hb1⟩; replace hb1 := hb.trans (hb1.mono hb.size); clear hcall)
        go_ret
        exact ⟨retI (idxF_at HA HX.out HQ.out).symm, hb1⟩
      | false =>
        rw [hq] at hcall
        have HQ := Lib.hid hq
        clear hq
        go_wp2_with (go_at_fn g; refine (hcall _ hb).mono ?_; rintro e w1 ⟨rfl, hb1⟩; replace hb1 := hb.trans (hb1.mono hb.size); clear hcall)
        go_roundg (n - (k + 1))
        case measure => omega
        case rel => exact ⟨k + 1, by omega, by omega, by go_num, by show _ = _; rw [any_take_succ HX.out, HA, HQ.out]; rfl, hb1⟩
    · have : k = n := by omega
      subst this
      have HT := Lib.hid (List.take_of_length_le (Nat.le_of_eq h.len))
      go_wp2_with fail
      go_ret
      exact ⟨retI (by rw [idxF_none (by rw [← HT.out]; exact HA)]), hb⟩

theorem ContainsFunc_part (ba bl : Nat) (A : Option Addr) (n cap : Nat) (l : List Part) (g : Nat) (lb : Array Value) (p : Part → Bool) (w : World) (h : Sl (partC ba bl) 3 w All A n cap l)
    (eg : ∀ args w, (callFunc g args).run Try.prog w = .ok (.enter g args) w)
    (hp : ∀ (x : Part) (w1 : World), x ∈ l → Below w.heap.size w w1 → Calls Try.prog g (#[.agg #[.int .i64 x.bytes, .int .i64 x.most, .pointer (some (partAt ba bl x.ix))]] ++ lb) w1 fun e w' => e = .returned (.bool (p x)) ∧ Below w1.heap.size w1 w') :
    Calls Try.prog 94 #[.slice A n cap, .func (.func g) #[] lb] w fun e w' => e = .returned (.bool (l.any p)) ∧ Below w.heap.size w w' := by
  have HC := IndexFunc_part ba bl A n cap l g lb p w h eg hp
  clear hp
  go_enter Try.func94, Try.ntmps94
  go_wp2_with fail
  refine HC.mono ?_
  rintro e w1 ⟨rfl, hb⟩
  have HI := Lib.hid (idxF_any (p := p) (l := l))
  have hbd := idxF_bd (p := p) (l := l) (by have := h.bd; have := h.len; omega)
  go_wp2_with fail
  go_ret
  exact ⟨retB HI.out, hb⟩


theorem AskAt.all {w : World} {b : Nat} {x : Ask} (h : AskAt w b x) :
    w.cell? ⟨b, 0, none⟩ = some (.int .i64 x.number) ∧ w.cell? ⟨b, 1, none⟩ = some (.int .i64 x.kind) ∧ w.cell? ⟨b, 2, none⟩ = some (.int .i64 x.id) ∧ w.cell? ⟨b, 3, none⟩ = some (.int .i64 x.guests) ∧ w.cell? ⟨b, 4, none⟩ = some (.bool x.level) ∧
    w.cell? ⟨b, 5, none⟩ = some (.int .i64 x.cabin) ∧ w.cell? ⟨b, 6, none⟩ = some (.int .i64 x.category) ∧ w.cell? ⟨b, 7, none⟩ = some (.int .i64 x.frm) ∧ w.cell? ⟨b, 8, none⟩ = some (.int .i64 x.upto) ∧ w.cell? ⟨b, 9, none⟩ = some (.int .i64 x.til) ∧
    w.cell? ⟨b, 10, none⟩ = some (.int .i64 x.amount) :=
  ⟨h.cell rfl, h.cell rfl, h.cell rfl, h.cell rfl, h.cell rfl, h.cell rfl, h.cell rfl, h.cell rfl, h.cell rfl, h.cell rfl, h.cell rfl⟩

theorem int_info : ∃ j, Try.prog.info? 3 = some j ∧ j.size ≠ 0 := by
  have hi : (Try.prog.info? 3).isSome = true := by kernel_rfl
  have hz : ((Try.prog.info? 3).map fun j => decide (j.size ≠ 0)) = some true := by kernel_rfl
  obtain ⟨j, hj⟩ := Option.isSome_iff_exists.1 hi
  rw [hj] at hz
  exact ⟨j, hj, by simpa using hz⟩
set_option maxRecDepth 100000 in
theorem bare1_any (ba bl : Nat) (p : Part) (y : Ask) (w : World) (hne : ba ≠ bl) (hA : AskAt w ba y) (hL : Blk w bl #[.int .i64 0] 3) :
    Calls Try.prog 95 #[.agg #[.int .i64 p.bytes, .int .i64 p.most, .pointer (some (partAt ba bl p.ix))], .pointer (some ⟨bl, 0, none⟩)] w fun e w' => e = .returned (.bool (p.ix == 4)) ∧ Below w.heap.size w w' := by
  obtain ⟨j, hj, hj0⟩ := int_info
  have hA2 := hA.bel (bel1 w (.cells #[.int .i64 p.bytes, .int .i64 p.most, .pointer (some (partAt ba bl p.ix))] 101))
  have hL2 := hL.bel (bel1 w (.cells #[.int .i64 p.bytes, .int .i64 p.most, .pointer (some (partAt ba bl p.ix))] 101))
  by_cases h : p.ix = 4
  · have hp : partAt ba bl p.ix = ⟨bl, 0, none⟩ := by unfold partAt; rw [if_pos h]
    have HH := Lib.hid (show (p.ix == 4) = true by simpa using h)
    rw [hp] at hA2 hL2 ⊢
    have kp := run_eql_ptr_same (P := Try.prog) (w.alloc (.cells #[.int .i64 p.bytes, .int .i64 p.most, .pointer (some ⟨bl, 0, none⟩)] 101)) ⟨bl, 0, none⟩ Try.underlying99 hj
    clear h hp hA2 hL2 hj hj0
    go_enter Try.func95, Try.ntmps95
    go_wp2_with fail
    go_ret
    exact ⟨retB (by rw [HH.out]), bel1 _ _⟩
  · have hp : partAt ba bl p.ix = ⟨ba, p.ix, none⟩ := by unfold partAt; rw [if_neg h]
    have HH := Lib.hid (show (p.ix == 4) = false by simpa using h)
    rw [hp] at hA2 hL2 ⊢
    have kp := run_eql_ptr_other (P := Try.prog) (w.alloc (.cells #[.int .i64 p.bytes, .int .i64 p.most, .pointer (some ⟨ba, p.ix, none⟩)] 101)) (a := ⟨ba, p.ix, none⟩) (b := ⟨bl, 0, none⟩) Try.underlying99 hj hj0 (fun e => hne (congrArg Addr.block e)) hA2 hL2
    clear h hp hA2 hL2 hj hj0
    go_enter Try.func95, Try.ntmps95
    go_wp2_with fail
    go_ret
    exact ⟨retB (by rw [HH.out]), bel1 _ _⟩

/-- '==' at requests. -/
def askQ (a b : Ask) : Bool := decide (a = b)
set_option maxRecDepth 100000 in
set_option maxHeartbeats 2000000 in
theorem ask_eq (a b : Ask) (W : World) : (binOp .eql 57 (.agg (askA a)) (.agg (askA b))).run Try.prog W = .ok (.bool (askQ a b)) W := by
  unfold askQ
  obtain ⟨a0, a1, a2, a3, a4, a5, a6, a7, a8, a9, a10⟩ := a
  obtain ⟨b0, b1, b2, b3, b4, b5, b6, b7, b8, b9, b10⟩ := b
  unfold askA
  simp only [Ask.mk.injEq]
  go_simp
  repeat' split
  all_goals simp_all

set_option maxRecDepth 100000 in
set_option maxHeartbeats 2000000 in
theorem bare_any (x : Ask) (w : World) : Calls Try.prog 78 #[.agg (askA x)] w fun e w' => e = .returned (.bool (bareB x)) ∧ Below w.heap.size w w' := by
  unfold askA
  go_enter Try.func78, Try.ntmps78
  go_upto_region 1 with (fail)
  go_cut [1, 3, 4] (fun a b c wx => ∃ b0 b1 b2, a = .pointer (some ⟨b0, 0, none⟩) ∧ b = .pointer (some ⟨b1, 0, none⟩) ∧ c = .pointer (some ⟨b2, 0, none⟩) ∧ AskAt wx b0 x ∧ AskAt wx b1 x ∧ Blk wx b2 #[.int .i64 0] 3 ∧ Below w.heap.size w wx ∧ w.heap.size ≤ b1 ∧ w.heap.size ≤ b2 ∧ b0 ≠ b1 ∧ b0 ≠ b2 ∧ b1 ≠ b2)
  case first => as_aux_lemma =>
    go_wp2_with fail
    go_meet
    exact ⟨_, _, _, rfl, rfl, rfl, blk3_0 _ _ _ _, blk3_1 _ _ _ _, blk3_2 _ _ _ _, bel3 _ _ _ _, by omega, by omega, by omega, by omega, by omega⟩
  obtain ⟨b0, b1, b2, rfl, rfl, rfl, hA, hB, hL, hb, ge1, ge2, n01, n02, n12⟩ := hcut
  go_wp2_with fail
  refine (parts_any b1 b2 x.kind _ (hB.cell rfl)).mono ?_
  rintro e w2 ⟨A, n, cap, rfl, hS, hb2⟩
  have ltc1 := Blk.lt hB
  have ltc2 := hL.lt
  replace hA := hA.bel hb2
  replace hB := hB.bel hb2
  replace hL := hL.bel hb2
  replace hb := hb.trans (hb2.mono hb.size)
  have lt0 := Blk.lt hA
  have lt1 := Blk.lt hB
  have lt2 := hL.lt
  clear hb2
  obtain ⟨pl, hpl⟩ : ∃ pl, pl = partsL x.kind := ⟨_, rfl⟩
  rw [← hpl] at hS
  have HPL := Lib.hid hpl
  clear hpl
  have hbd := hS.bd
  go_wp2_with fail
  go_loopg [16] n (fun gk i wr => ∃ k : Nat, k ≤ n ∧ n - k ≤ gk ∧ i = .int .i64 k ∧ AskAt wr b1 (zf (pl.take k) x) ∧ Blk wr b2 #[.int .i64 0] 3 ∧ Kept (fun j => j = b1 ∨ j = b2) w2 wr)
  case atStart => exact ⟨0, Nat.zero_le _, by omega, rfl, hB, hL, Kept.refl _ _⟩
  case round =>
    obtain ⟨k, hk, hgk, rfl, hB, hL, hK⟩ := hrel
    have hS2 := hS.kept hK (fun b _ hT => by have hT : wc.heap.size ≤ b := hT; rintro (rfl | rfl) <;> omega)
    by_cases hlt : k < n
    · obtain ⟨b, off, p, c0, c1, c2, rfl, hx, ⟨hc, _⟩, g0, g1, g2⟩ := hS2.at3 hlt
      simp only [List.cons.injEq, and_true] at hc
      obtain ⟨rfl, rfl, rfl⟩ := hc
      have hpm : p ∈ partsL x.kind := by rw [← HPL.out]; exact List.mem_of_getElem? hx
      have hw3 := bel1 wr (.cells #[.int .i64 p.bytes, .int .i64 p.most, .pointer (some (partAt b1 b2 p.ix))] 101)
      have hP := mem_at (hB.bel hw3) (hL.bel hw3) hpm
      have hP1 := hP.1
      have hP2 := hP.2
      have hN := mem_set (hB.bel hw3) (hL.bel hw3) n12 hpm 0
      have HN := Lib.hid hN
      have HZ := Lib.hid (show zf (pl.take (k + 1)) x = setF (zf (pl.take k) x) p.ix 0 by rw [take_snoc hx, zf_snoc])
      have HM := Lib.hid hpm
      clear hx hN hP hpm hS2
      go_wp2_with fail
      go_roundg (n - (k + 1))
      case measure => omega
      case rel =>
        refine ⟨k + 1, by omega, by omega, by go_num, by rw [HZ.out]; exact HN.out.1, ?_, ?_⟩
        · have := HN.out.2
          rwa [show levF 0 p.ix 0 = 0 by unfold levF; split <;> rfl] at this
        · refine (hK.alloc _).setCell (.inl ?_) _
          unfold partAt; split
          · exact .inr rfl
          · exact .inl rfl
    · obtain rfl : k = n := by omega
      have HT := Lib.hid (show pl.take k = pl from List.take_of_length_le (Nat.le_of_eq hS.len))
      have hkl := hK.below (B := w.heap.size) hb.size (by rintro j hj (rfl | rfl) <;> omega)
      replace hb := hb.trans hkl
      have hcon := ContainsFunc_part b1 b2 A k cap pl 95 #[.pointer (some ⟨b2, 0, none⟩)] (fun p => p.ix == 4) wr (hS2.all (partC_good _ _) (by omega)) (enters_of Try.func95 (by kernel_rfl) rfl) (fun p w1 _ hb1 => bare1_any b1 b2 p _ w1 n12 (hB.bel hb1) (hL.bel hb1))
      have HC := Lib.hid hcon
      clear hcon
      go_wp2_with fail
      refine HC.out.mono ?_
      rintro e w3 ⟨rfl, hb3⟩
      have hA3 : AskAt w3 b0 x := (hK.block b0 lt0 (by rintro (h | h) <;> omega)).trans hA |> fun h => AskAt.bel h hb3
      have hB3 := hB.bel hb3
      rw [HT.out] at hB3
      obtain ⟨a0, a1, _⟩ := hA3.all
      have he : bareAsk x = { zf pl x with level := if pl.any (fun p => p.ix == 4) then false else x.level } := by rw [HPL.out]; rfl
      replace hb := hb.trans (hb3.mono hb.size)
      cases q : pl.any (fun p => p.ix == 4) with
      | true =>
        rw [if_pos q] at he
        obtain ⟨y, hy⟩ : ∃ y, y = bareAsk x := ⟨_, rfl⟩
        have HB := Lib.hid (show bareB x = askQ y ⟨x.number, x.kind, 0, 0, false, 0, 0, 0, 0, 0, 0⟩ by rw [hy]; rfl)
        have f4 := hB3.free 4
        have g4 := hB3.cell (j := 4) rfl
        have hC : AskAt (w3.setCell ⟨b1, 4, none⟩ (.bool false)) b1 y := by rw [hy, he]; exact hB3.set _
        obtain ⟨c0, c1, c2, c3, c4, c5, c6, c7, c8, c9, c10⟩ := hC.all
        have kq := fun W => ask_eq y ⟨x.number, x.kind, 0, 0, false, 0, 0, 0, 0, 0, 0⟩ W
        dsimp only [askA] at kq
        clear he hy q
        go_wp2_with fail
        go_ret
        exact ⟨retB HB.out.symm, hb.setCell (p := ⟨b1, 4, none⟩) ge1 _⟩
      | false =>
        rw [if_neg (by simp [q])] at he
        obtain ⟨y, hy⟩ : ∃ y, y = bareAsk x := ⟨_, rfl⟩
        have HB := Lib.hid (show bareB x = askQ y ⟨x.number, x.kind, 0, 0, false, 0, 0, 0, 0, 0, 0⟩ by rw [hy]; rfl)
        have hC : AskAt w3 b1 y := by
          rw [hy, he, ← (zf_same pl x).1]; exact hB3
        obtain ⟨c0, c1, c2, c3, c4, c5, c6, c7, c8, c9, c10⟩ := hC.all
        have kq := fun W => ask_eq y ⟨x.number, x.kind, 0, 0, false, 0, 0, 0, 0, 0, 0⟩ W
        dsimp only [askA] at kq
        clear he hy q
        go_wp2_with fail
        go_ret
        exact ⟨retB HB.out.symm, hb⟩

/-- What is wrong with a request. -/
def partOk (x : Ask) (p : Part) : Bool := betB (memF x 0 p.ix) 0 p.most
def codeE (x : Ask) : Int :=
  if betB x.kind 1 8 = false then 7 else if betB x.number 1 65535 = false then 3 else if bareB x = false then 1 else if (partsL x.kind).all (partOk x) then 0 else 3
end Go.Proofs.Ytehebngkjfjkbaa
