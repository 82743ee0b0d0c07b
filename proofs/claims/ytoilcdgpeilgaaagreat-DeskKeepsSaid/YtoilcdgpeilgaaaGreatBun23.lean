/-
  Words, laws and contracts: DeskA.
-/
import Derived.Test.YtoilcdgpeilgaaaGreatBun7
import Derived.Test.YtoilcdgpeilgaaaGreatBun18
import Derived.BigQuiet
set_option linter.unusedSimpArgs false
set_option linter.unusedVariables false
namespace Go.Proofs.YtoilcdgpeilgaaaGreat
open Go.RowKit Go.Shelf
structure Ans where
  errno : Int
  owed : Int
  deriving DecidableEq, Inhabited
structure Don where
  ask : Ask
  ans : Ans
  deriving DecidableEq, Inhabited
abbrev ansA (x : Ans) : Array Value := #[.int .i64 x.errno, .int .i64 x.owed]
def donA (x : Don) : Array Value := #[.int .i64 x.ask.number, .int .i64 x.ask.kind, .int .i64 x.ask.id, .int .i64 x.ask.guests, .bool x.ask.level, .int .i64 x.ask.cabin, .int .i64 x.ask.category, .int .i64 x.ask.frm, .int .i64 x.ask.upto, .int .i64 x.ask.til, .int .i64 x.ask.amount, .int .i64 x.ans.errno, .int .i64 x.ans.owed]
def DonIn (x : Don) : Prop := AskIn x.ask ∧ InI x.ans.errno ∧ InI x.ans.owed
def donC : Cod Don := fun _ _ x cs => cs = (donA x).toList ∧ DonIn x
theorem donC_flat : Flat donC := fun _ _ _ _ _ _ h => h
theorem donC_good : Good donC := .of_flat donC_flat fun h u hu => by obtain ⟨rfl, _⟩ := h; simp [donA] at hu; rcases hu with rfl | rfl | rfl | rfl | rfl | rfl | rfl | rfl | rfl | rfl | rfl | rfl | rfl <;> rfl
instance donK : CodK donC 13 := ⟨donC_good, by omega⟩
theorem don_elem : ElemOf Tryz.prog 81 128 13 104 := .mk' Tryz.underlying81 (z := .agg #[.int .i64 0, .int .i64 0, .int .i64 0, .int .i64 0, .bool false, .int .i64 0, .int .i64 0, .int .i64 0, .int .i64 0, .int .i64 0, .int .i64 0, .int .i64 0, .int .i64 0]) (by kernel_rfl) rfl (by omega)
theorem dn13 {w : World} {a o : Nat} {x : Don} (h : ∀ j u, (donA x).toList[j]? = some u → w.cell? ⟨a, o + j, none⟩ = some u) : w.cell? ⟨a, o, none⟩ = some (.int .i64 x.ask.number) ∧ w.cell? ⟨a, o + 1, none⟩ = some (.int .i64 x.ask.kind) ∧ w.cell? ⟨a, o + 2, none⟩ = some (.int .i64 x.ask.id) ∧
    w.cell? ⟨a, o + 3, none⟩ = some (.int .i64 x.ask.guests) ∧ w.cell? ⟨a, o + 4, none⟩ = some (.bool x.ask.level) ∧ w.cell? ⟨a, o + 5, none⟩ = some (.int .i64 x.ask.cabin) ∧ w.cell? ⟨a, o + 6, none⟩ = some (.int .i64 x.ask.category) ∧ w.cell? ⟨a, o + 7, none⟩ = some (.int .i64 x.ask.frm) ∧
    w.cell? ⟨a, o + 8, none⟩ = some (.int .i64 x.ask.upto) ∧ w.cell? ⟨a, o + 9, none⟩ = some (.int .i64 x.ask.til) ∧ w.cell? ⟨a, o + 10, none⟩ = some (.int .i64 x.ask.amount) ∧ w.cell? ⟨a, o + 11, none⟩ = some (.int .i64 x.ans.errno) ∧ w.cell? ⟨a, o + 12, none⟩ = some (.int .i64 x.ans.owed) :=
  ⟨h 0 _ rfl, h 1 _ rfl, h 2 _ rfl, h 3 _ rfl, h 4 _ rfl, h 5 _ rfl, h 6 _ rfl, h 7 _ rfl, h 8 _ rfl, h 9 _ rfl, h 10 _ rfl, h 11 _ rfl, h 12 _ rfl⟩
theorem Sl.don {w : World} {S : Nat → Prop} {A : Option Addr} {n cap : Nat} {l : List Don} (h : Sl donC 13 w S A n cap l) {k : Nat} (hk : k < n) : ∃ b off x, A = some ⟨b, off, none⟩ ∧ l[k]? = some x ∧ DonIn x ∧ ∀ j u, (donA x).toList[j]? = some u → w.cell? ⟨b, off + k * 13 + j, none⟩ = some u := by
  have hl := h.len
  obtain ⟨b, off, cs, hA, -, ⟨rfl, hi⟩, -, hcell⟩ := h.rd k (l[k]'(by omega)) (List.getElem?_eq_getElem (by omega))
  exact ⟨b, off, _, hA, List.getElem?_eq_getElem (by omega), hi, hcell⟩
set_option maxRecDepth 100000 in
set_option maxHeartbeats 4000000 in
theorem IndexFunc_don (A : Option Addr) (n cap : Nat) (l : List Don) (g : Nat) (lb : Array Value) (p : Don → Bool) (w : World) (h : Sl donC 13 w All A n cap l)
    (eg : ∀ args w, (callFunc g args).run Tryz.prog w = .ok (.enter g args) w)
    (hp : ∀ (x : Don) (w1 : World), x ∈ l → Below w.heap.size w w1 → Calls Tryz.prog g (#[.agg (donA x)] ++ lb) w1 fun e w' => e = .returned (.bool (p x)) ∧ Below w1.heap.size w1 w') :
    Calls Tryz.prog 159 #[.slice A n cap, .func (.func g) #[] lb] w fun e w' => e = .returned (.int .i64 (idxF p l)) ∧ Below w.heap.size w w' := by
  have Hp := Lib.hid hp
  clear hp
  have hbd := h.bd
  have HL := Lib.hid h
  have HN := Lib.hid h.len
  clear h
  go_enter Tryz.func159, Tryz.ntmps159
  go_wp2_with fail
  go_loopg [8] n (fun gk i wr => ∃ k : Nat, k ≤ n ∧ n - k ≤ gk ∧ i = .int .i64 k ∧ Aside ((l.take k).any p = false) ∧ Below w.heap.size w wr)
  case atStart => exact ⟨0, Nat.zero_le _, by omega, rfl, rfl, Below.refl _ _⟩
  case round =>
    obtain ⟨k, hk, hgk, rfl, HA, hb⟩ := hrel
    by_cases hlt : k < n
    · obtain ⟨b, off, x, rfl, hx, hi, hc⟩ := (HL.out.bel hb).don hlt
      obtain ⟨c0, c1, c2, c3, c4, c5, c6, c7, c8, c9, c10, c11, c12⟩ := dn13 hc
      have HX := Lib.hid hx
      have HM := Lib.hid (List.mem_of_getElem? hx)
      have hcall := Hp.out _ wr HM.out hb
      obtain ⟨q, hq⟩ : ∃ q, q = p x := ⟨_, rfl⟩
      rw [← hq] at hcall
      have HCALL := Lib.hid hcall
      clear hcall
      have HQ := Lib.hid hq
      clear hq
      clear hx hi hc
      cases q
      · skip
        go_wp2_with fail
        go_at_fn g
        refine HCALL.out.mono ?_
        rintro e w1 ⟨rfl, hb1⟩
        replace hb1 := hb.trans (hb1.mono hb.size)
        go_wp2_with fail
        go_roundg (n - (k + 1))
        case measure => omega
        case rel => exact ⟨k + 1, by omega, by omega, by go_num, by show _ = _; rw [any_take_succ HX.out, HA, ← HQ.out]; rfl, hb1⟩
      · skip
        go_wp2_with fail
        go_at_fn g
        refine HCALL.out.mono ?_
        rintro e w1 ⟨rfl, hb1⟩
        replace hb1 := hb.trans (hb1.mono hb.size)
        go_wp2_with fail
        go_ret
        exact ⟨retI (idxF_at HA HX.out HQ.out.symm).symm, hb1⟩
    · obtain rfl : k = n := by omega
      have HT := Lib.hid (List.take_of_length_le (Nat.le_of_eq HN.out))
      go_wp2_with fail
      go_ret
      exact ⟨retI (by rw [idxF_none (by rw [← HT.out]; exact HA)]), hb⟩
theorem ContainsFunc_don (A : Option Addr) (n cap : Nat) (l : List Don) (g : Nat) (lb : Array Value) (p : Don → Bool) (w : World) (h : Sl donC 13 w All A n cap l)
    (eg : ∀ args w, (callFunc g args).run Tryz.prog w = .ok (.enter g args) w)
    (hp : ∀ (x : Don) (w1 : World), x ∈ l → Below w.heap.size w w1 → Calls Tryz.prog g (#[.agg (donA x)] ++ lb) w1 fun e w' => e = .returned (.bool (p x)) ∧ Below w1.heap.size w1 w') :
    Calls Tryz.prog 211 #[.slice A n cap, .func (.func g) #[] lb] w fun e w' => e = .returned (.bool (l.any p)) ∧ Below w.heap.size w w' := by
  have HC := IndexFunc_don A n cap l g lb p w h eg hp
  clear hp
  go_enter Tryz.func211, Tryz.ntmps211
  go_wp2_with fail
  refine HC.mono ?_
  rintro e w1 ⟨rfl, hb⟩
  have HI := Lib.hid (idxF_any (p := p) (l := l))
  have hbd := idxF_bd (p := p) (l := l) (by have := h.bd; have := h.len; omega)
  go_wp2_with fail
  go_ret
  exact ⟨retB HI.out, hb⟩
set_option maxHeartbeats 1000000 in
theorem Clone_don (A : Option Addr) (n cap : Nat) (l : List Don) (w : World) (h : Sl donC 13 w All A n cap l) (hn : n * 104 ≤ 140737488355328) :
    Calls Tryz.prog 136 #[.slice A n cap] w fun e w' => ∃ v xs, e = .returned v ∧ Own donC 13 128 w' w.heap.size v l xs ∧ Below w.heap.size w w' := by
  have hnil := fun (W : World) (a : Option Addr) => Lib.run_eql_slice_nil (P := Tryz.prog) W 81 128 a n cap 0 0 Tryz.underlying81
  rcases A with _ | a
  · have hl : l = [] := by
      rcases l with _ | ⟨x, l⟩
      · rfl
      · obtain ⟨b, off, cs, hA, _⟩ := h.rd 0 x rfl
        cases hA
    subst hl
    go_enter Tryz.func136, Tryz.ntmps136
    go_wp2
    go_ret
    exact ⟨_, _, rfl, Own.nil _ _ _ _ _, Below.refl _ _⟩
  · go_enter Tryz.func136, Tryz.ntmps136
    go_wp2_with (at_builtin; refine list_app (t := 81) (e := 128) (bytes := 104) rfl (.tmp 5) (.tmp 6) rfl don_elem donC_good rfl (Own.made w donC 13 128 w.heap.size #[] 0 (Nat.le_refl _) (by simp [maxLen]) rfl) rfl (h.below donC_good (by omega) ((Below.refl _ _).alloc (Nat.le_refl _) _)) (fun _ _ hc => hc) (by simp; omega) (by omega) (by simp) ?_; intro v' w' xs' hown hg _)
    go_ret
    exact ⟨_, _, rfl, hown, below_app (Below.alloc (Below.refl _ _) (Nat.le_refl _) _) (Own.made w donC 13 128 w.heap.size #[] 0 (Nat.le_refl _) (by simp [maxLen]) rfl) hg (by simp)⟩
end Go.Proofs.YtoilcdgpeilgaaaGreat
