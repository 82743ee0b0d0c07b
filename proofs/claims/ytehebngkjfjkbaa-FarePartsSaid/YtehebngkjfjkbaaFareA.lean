/-
  Fares: data; small functions; the generic functions at [][]int and []api.Band; slices.Grow and slices.Concat.
-/
import Derived.Test.YtehebngkjfjkbaaCountF
import Derived.Lib.AppendZerosOnto
namespace Go.Proofs.Ytehebngkjfjkbaa
open Go.RowKit Go.Shelf

theorem slC_good {α : Type} {c : Cod α} {size : Nat} (hg : Good c) (hs : 0 < size) : Good (slC c size) :=
  ⟨fun ⟨A, n, cap, e, h⟩ hk => ⟨A, n, cap, e, h.keep hg hs hk⟩, fun ⟨A, n, cap, e, _⟩ u hu => by subst e; simp at hu; subst hu; rfl⟩

structure Band where
  days : Int
  part : Int
  deriving DecidableEq, Inhabited
def bandC : Cod Band := fun _ _ x cs => cs = [.int .i64 x.days, .int .i64 x.part] ∧ InI x.days ∧ InI x.part
theorem bandC_flat : Flat bandC := fun _ _ _ _ _ _ h => h
theorem bandC_good : Good bandC := .of_flat bandC_flat fun h u hu => by obtain ⟨rfl, _⟩ := h; simp at hu; rcases hu with rfl | rfl <;> rfl

structure Fares where
  leg : List (List Int)
  alone : Int
  third : Int
  bands : List Band
  down : Int
def fareC : Cod Fares := fun w S x cs => ∃ A n cap B m cap2, cs = [.slice A n cap, .int .i64 x.alone, .int .i64 x.third, .slice B m cap2, .int .i64 x.down] ∧
  Sl (slC intC 1) 1 w S A n cap x.leg ∧ Sl bandC 2 w S B m cap2 x.bands ∧ InI x.alone ∧ InI x.third ∧ InI x.down

set_option maxHeartbeats 1000000 in
theorem IndexFunc_band (A : Option Addr) (n cap : Nat) (l : List Band) (g : Nat) (lb : Array Value) (p : Band → Bool) (w : World) (h : Sl bandC 2 w All A n cap l)
    (eg : ∀ args w, (callFunc g args).run Try.prog w = .ok (.enter g args) w)
    (hp : ∀ (x : Band) (w1 : World), x ∈ l → Below w.heap.size w w1 → Calls Try.prog g (#[.agg #[.int .i64 x.days, .int .i64 x.part]] ++ lb) w1 fun e w' => e = .returned (.bool (p x)) ∧ Below w1.heap.size w1 w') :
    Calls Try.prog 96 #[.slice A n cap, .func (.func g) #[] lb] w fun e w' => e = .returned (.int .i64 (idxF p l)) ∧ Below w.heap.size w w' := by
  have Hp := Lib.hid hp
  clear hp
  have hbd := h.bd
  go_enter Try.func96, Try.ntmps96
  go_wp2_with fail
  go_loopg [8] n (fun gk i wr => ∃ k : Nat, k ≤ n ∧ n - k ≤ gk ∧ i = .int .i64 k ∧ Aside ((l.take k).any p = false) ∧ Below w.heap.size w wr)
  case atStart => exact ⟨0, Nat.zero_le _, by omega, rfl, rfl, Below.refl _ _⟩
  case round =>
    obtain ⟨k, hk, hgk, rfl, HA, hb⟩ := hrel
    by_cases hlt : k < n
    · obtain ⟨b, off, x, c0, c1, rfl, hx, hc, g0, g1⟩ := (h.below bandC_good (by omega) hb).at2 hlt
      obtain ⟨hc, hw⟩ := hc
      simp only [List.cons.injEq, and_true] at hc
      obtain ⟨rfl, rfl⟩ := hc
      have HX := Lib.hid hx
      have HM := Lib.hid (List.mem_of_getElem? hx)
      clear hx
      have hcall := fun w1 (hb1 : Below w.heap.size w w1) => Hp.out x w1 HM.out hb1
      cases hq : p x with
      | true =>
        rw [hq] at hcall
        have HQ := Lib.hid hq
        clear hq
        go_wp2_with (go_at_fn g; refine (hcall _ hb).mono ?_; rintro e w1 ⟨rfl, hb1⟩; replace hb1 := hb.trans (hb1.mono hb.size); clear hcall)
        go_ret
        exact ⟨retI (idxF_at HA HX.out HQ.out).symm, hb1⟩
      | false =>
        rw [hq] at hcall
        have HQ := Lib.hid hq
        clear hq
        go_wp2_with (go_at_fn g; refine (hcall _ hb).mono ?_; rintro e w1 ⟨rfl, hb1⟩; replace hb1 := hb.trans (hb1.mono hb.size); clear hcall)
        go_roundg (n - (k + 1))
        case measure => omega
        case rel => exact ⟨k + 1, by omega, by omega, by go_num, by show _ = _; rw [any_take_succ HX.out, HA, HQ.out]; rfl, hb1⟩
    · have : k = n := by omega
      subst this
      have HT := Lib.hid (List.take_of_length_le (Nat.le_of_eq h.len))
      go_wp2_with fail
      go_ret
      exact ⟨retI (by rw [idxF_none (by rw [← HT.out]; exact HA)]), hb⟩
set_option maxHeartbeats 1000000 in
theorem IndexFunc_ints (A : Option Addr) (n cap : Nat) (l : List (List Int)) (g : Nat) (lb : Array Value) (p : (List Int) → Bool) (w : World) (h : Sl (slC intC 1) 1 w All A n cap l)
    (eg : ∀ args w, (callFunc g args).run Try.prog w = .ok (.enter g args) w)
    (hp : ∀ (x : (List Int)) (w1 : World) (B : Option Addr) (q c2 : Nat), x ∈ l → Below w.heap.size w w1 → Sl intC 1 w1 All B q c2 x → Calls Try.prog g (#[.slice B q c2] ++ lb) w1 fun e w' => e = .returned (.bool (p x)) ∧ Below w1.heap.size w1 w') :
    Calls Try.prog 103 #[.slice A n cap, .func (.func g) #[] lb] w fun e w' => e = .returned (.int .i64 (idxF p l)) ∧ Below w.heap.size w w' := by
  have Hp := Lib.hid hp
  clear hp
  have hbd := h.bd
  go_enter Try.func103, Try.ntmps103
  go_wp2_with fail
  go_loopg [8] n (fun gk i wr => ∃ k : Nat, k ≤ n ∧ n - k ≤ gk ∧ i = .int .i64 k ∧ Aside ((l.take k).any p = false) ∧ Below w.heap.size w wr)
  case atStart => exact ⟨0, Nat.zero_le _, by omega, rfl, rfl, Below.refl _ _⟩
  case round =>
    obtain ⟨k, hk, hgk, rfl, HA, hb⟩ := hrel
    by_cases hlt : k < n
    · obtain ⟨b, off, x, c0, rfl, hx, hc, g0⟩ := (h.below (slC_good intC_good (by omega)) (by omega) hb).at1 hlt
      obtain ⟨B, q, c2, hc, hw⟩ := hc
      simp only [List.cons.injEq, and_true] at hc
      subst hc
      have HX := Lib.hid hx
      have HM := Lib.hid (List.mem_of_getElem? hx)
      clear hx
      have hcall := Hp.out x wr B q c2 HM.out hb hw
      cases hq : p x with
      | true =>
        rw [hq] at hcall
        have HQ := Lib.hid hq
        clear hq
        go_wp2_with (go_at_fn g; refine hcall.mono ?_; rintro e w1 ⟨rfl, hb1⟩; replace hb1 := hb.trans (hb1.mono hb.size); clear hcall)
        go_ret
        exact ⟨retI (idxF_at HA HX.out HQ.out).symm, hb1⟩
      | false =>
        rw [hq] at hcall
        have HQ := Lib.hid hq
        clear hq
        go_wp2_with (go_at_fn g; refine hcall.mono ?_; rintro e w1 ⟨rfl, hb1⟩; replace hb1 := hb.trans (hb1.mono hb.size); clear hcall)
        go_roundg (n - (k + 1))
        case measure => omega
        case rel => exact ⟨k + 1, by omega, by omega, by go_num, by show _ = _; rw [any_take_succ HX.out, HA, HQ.out]; rfl, hb1⟩
    · have : k = n := by omega
      subst this
      have HT := Lib.hid (List.take_of_length_le (Nat.le_of_eq h.len))
      go_wp2_with fail
      go_ret
      exact ⟨retI (by rw [idxF_none (by rw [← HT.out]; exact HA)]), hb⟩

theorem ContainsFunc_ints (A : Option Addr) (n cap : Nat) (l : List (List Int)) (g : Nat) (lb : Array Value) (p : (List Int) → Bool) (w : World) (h : Sl (slC intC 1) 1 w All A n cap l)
    (eg : ∀ args w, (callFunc g args).run Try.prog w = .ok (.enter g args) w)
    (hp : ∀ (x : (List Int)) (w1 : World) (B : Option Addr) (q c2 : Nat), x ∈ l → Below w.heap.size w w1 → Sl intC 1 w1 All B q c2 x → Calls Try.prog g (#[.slice B q c2] ++ lb) w1 fun e w' => e = .returned (.bool (p x)) ∧ Below w1.heap.size w1 w') :
    Calls Try.prog 98 #[.slice A n cap, .func (.func g) #[] lb] w fun e w' => e = .returned (.bool (l.any p)) ∧ Below w.heap.size w w' := by
  have HC := IndexFunc_ints A n cap l g lb p w h eg hp
  clear hp
  go_enter Try.func98, Try.ntmps98
  go_wp2_with fail
  refine HC.mono ?_
  rintro e w1 ⟨rfl, hb⟩
  have HI := Lib.hid (idxF_any (p := p) (l := l))
  have hbd := idxF_bd (p := p) (l := l) (by have := h.bd; have := h.len; omega)
  go_wp2_with fail
  go_ret
  exact ⟨retB HI.out, hb⟩

theorem within_any (n a b : Int) (w : World) : Calls Try.prog 79 #[.int .i64 n, .int .i64 a, .int .i64 b] w fun e w' => e = .returned (.bool (betB n a b)) ∧ w' = w := by
  go_enter Try.func79, Try.ntmps79
  go_wp2
  all_goals go_ret
  all_goals exact ⟨retB (by unfold betB; simp; try omega), rfl⟩

/-- So many hundredths of an amount. -/
def partV (n h : Int) : Int := (n * h + 50) / 100
theorem mul_bd {n h : Int} {N H : Nat} (h0 : 0 ≤ n) (h1 : n ≤ N) (h2 : 0 ≤ h) (h3 : h ≤ H) : 0 ≤ n * h ∧ n * h ≤ ((N * H : Nat) : Int) := by
  refine ⟨Int.mul_nonneg h0 h2, ?_⟩
  have := Int.mul_le_mul h1 h3 h2 (by omega)
  simpa using this

theorem part_any (n h : Int) (w : World) (h0 : 0 ≤ n) (h1 : n ≤ 1000000000) (h2 : 0 ≤ h) (h3 : h ≤ 1000) : Calls Try.prog 83 #[.int .i64 n, .int .i64 h] w fun e w' => e = .returned (.int .i64 (partV n h)) ∧ w' = w := by
  have hm := mul_bd (N := 1000000000) (H := 1000) h0 h1 h2 h3
  obtain ⟨q, hq⟩ : ∃ q, q = n * h := ⟨_, rfl⟩
  have hp : partV n h = (q + 50) / 100 := by rw [hq]; rfl
  rw [hp]
  rw [← hq] at hm
  have hw : wrap64 (n * h) = q := by rw [← hq]; unfold wrap64; omega
  have hw2 : IntKind.i64.wrap (n * h) = q := by rw [← hq]; exact IntWalk.i64_in _ (by omega)
  clear hq hp
  go_enter Try.func83, Try.ntmps83
  go_wp2
  go_ret
  exact ⟨retI (by first | omega | (rw [hw]; unfold wrap64; omega)), rfl⟩

/-- append with a plain run of its own: one operation of a list. -/
theorem list_builtin_append {P : Program} {t t2 : TypeId} {ops : Array Oper} {rest : List Oper} {o : Oper} {a : Act} {w w' : World} {v u v' : Value} {Q : Exit → Act → World → Prop} (hgd : o.guard = none) (s x : Operand)
    (ho : o.op = .call { callee := .builtin .append, args := #[s, x], argTypes := #[t, t2] }) (hs : a.eval s = v) (hx : a.eval x = u)
    (hrun : (Builtin.append_ #[t, t2] o.type #[v, u]).run P w = .ok v' w') (h : wpList P ops Q rest (a.put o.dst v') w') : wpList P ops Q (o :: rest) a w :=
  wpList_plain hgd fun _ hK => by
    unfold Oper.wp execOp
    simp only [ho, resolve, invoke, builtin, Sem.run_bind, Sem.run_pure, Result.andThen_ok, List.map_toArray, List.map_cons, List.map_nil, hs, hx, hrun]
    exact hK _ _ h

end Go.Proofs.Ytehebngkjfjkbaa
