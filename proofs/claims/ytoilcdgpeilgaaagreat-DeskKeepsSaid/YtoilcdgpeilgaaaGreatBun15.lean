/-
  Words, laws and contracts: FareA, FareB, FareC, FareD, FareE, FareF, FareG, FareI.
-/
import Derived.Test.YtoilcdgpeilgaaaGreatBun1
import Derived.Lib.AppendZerosOnto
set_option linter.unusedSimpArgs false
set_option linter.unusedVariables false
namespace Go.Proofs.YtoilcdgpeilgaaaGreat
open Go.RowKit Go.Shelf
structure Band where
  days : Int
  part : Int
  deriving DecidableEq, Inhabited
def bandC : Cod Band := fun _ _ x cs => cs = [.int .i64 x.days, .int .i64 x.part] ∧ InI x.days ∧ InI x.part
theorem bandC_flat : Flat bandC := fun _ _ _ _ _ _ h => h
theorem bandC_good : Good bandC := .of_flat bandC_flat fun h u hu => by obtain ⟨rfl, _⟩ := h; simp at hu; rcases hu with rfl | rfl <;> rfl
structure Fares where
  leg : List (List Int)
  alone : Int
  third : Int
  bands : List Band
  down : Int
set_option maxHeartbeats 1000000 in
theorem IndexFunc_ints (A : Option Addr) (n cap : Nat) (l : List (List Int)) (g : Nat) (lb : Array Value) (p : (List Int) → Bool) (w : World) (h : Sl (slC intC 1) 1 w All A n cap l)
    (eg : ∀ args w, (callFunc g args).run Tryz.prog w = .ok (.enter g args) w)
    (hp : ∀ (x : (List Int)) (w1 : World) (B : Option Addr) (q c2 : Nat), x ∈ l → Below w.heap.size w w1 → Sl intC 1 w1 All B q c2 x → Calls Tryz.prog g (#[.slice B q c2] ++ lb) w1 fun e w' => e = .returned (.bool (p x)) ∧ Below w1.heap.size w1 w') :
    Calls Tryz.prog 256 #[.slice A n cap, .func (.func g) #[] lb] w fun e w' => e = .returned (.int .i64 (idxF p l)) ∧ Below w.heap.size w w' := by
  have Hp := Lib.hid hp
  clear hp
  have hbd := h.bd
  go_enter Tryz.func256, Tryz.ntmps256
  go_wp2_with fail
  go_loopg [8] n (fun gk i wr => ∃ k : Nat, k ≤ n ∧ n - k ≤ gk ∧ i = .int .i64 k ∧ Aside ((l.take k).any p = false) ∧ Below w.heap.size w wr)
  case atStart => exact ⟨0, Nat.zero_le _, by omega, rfl, rfl, Below.refl _ _⟩
  case round =>
    obtain ⟨k, hk, hgk, rfl, HA, hb⟩ := hrel
    by_cases hlt : k < n
    · obtain ⟨b, off, x, c0, rfl, hx, hc, g0⟩ := (h.below (slC_good intC_good (by omega)) (by omega) hb).at1 hlt
      obtain ⟨B, q, c2, hc, hw⟩ := hc
      simp only [List.cons.injEq, and_true] at hc
      subst hc
      have HX := Lib.hid hx
      have HM := Lib.hid (List.mem_of_getElem? hx)
      clear hx
      have hcall := Hp.out x wr B q c2 HM.out hb hw
      cases hq : p x with
      | true =>
        rw [hq] at hcall
        have HQ := Lib.hid hq
        clear hq
        go_wp2_with (go_at_fn g; refine hcall.mono ?_; rintro e w1 ⟨rfl, hb1⟩; replace hb1 := hb.trans (hb1.mono hb.size); clear hcall)
        go_ret
        exact ⟨retI (idxF_at HA HX.out HQ.out).symm, hb1⟩
      | false =>
        rw [hq] at hcall
        have HQ := Lib.hid hq
        clear hq
        go_wp2_with (go_at_fn g; refine hcall.mono ?_; rintro e w1 ⟨rfl, hb1⟩; replace hb1 := hb.trans (hb1.mono hb.size); clear hcall)
        go_roundg (n - (k + 1))
        case measure => omega
        case rel => exact ⟨k + 1, by omega, by omega, by go_num, by show _ = _; rw [any_take_succ HX.out, HA, HQ.out]; rfl, hb1⟩
    · have : k = n := by omega
      subst this
      have HT := Lib.hid (List.take_of_length_le (Nat.le_of_eq h.len))
      go_wp2_with fail
      go_ret
      exact ⟨retI (by rw [idxF_none (by rw [← HT.out]; exact HA)]), hb⟩
theorem ContainsFunc_ints (A : Option Addr) (n cap : Nat) (l : List (List Int)) (g : Nat) (lb : Array Value) (p : (List Int) → Bool) (w : World) (h : Sl (slC intC 1) 1 w All A n cap l)
    (eg : ∀ args w, (callFunc g args).run Tryz.prog w = .ok (.enter g args) w)
    (hp : ∀ (x : (List Int)) (w1 : World) (B : Option Addr) (q c2 : Nat), x ∈ l → Below w.heap.size w w1 → Sl intC 1 w1 All B q c2 x → Calls Tryz.prog g (#[.slice B q c2] ++ lb) w1 fun e w' => e = .returned (.bool (p x)) ∧ Below w1.heap.size w1 w') :
    Calls Tryz.prog 233 #[.slice A n cap, .func (.func g) #[] lb] w fun e w' => e = .returned (.bool (l.any p)) ∧ Below w.heap.size w w' := by
  have HC := IndexFunc_ints A n cap l g lb p w h eg hp
  clear hp
  go_enter Tryz.func233, Tryz.ntmps233
  go_wp2_with fail
  refine HC.mono ?_
  rintro e w1 ⟨rfl, hb⟩
  have HI := Lib.hid (idxF_any (p := p) (l := l))
  have hbd := idxF_bd (p := p) (l := l) (by have := h.bd; have := h.len; omega)
  go_wp2_with fail
  go_ret
  exact ⟨retB HI.out, hb⟩
theorem within_any (n a b : Int) (w : World) : Calls Tryz.prog 155 #[.int .i64 n, .int .i64 a, .int .i64 b] w fun e w' => e = .returned (.bool (betB n a b)) ∧ w' = w := by
  go_enter Tryz.func155, Tryz.ntmps155
  go_wp2
  all_goals go_ret
  all_goals exact ⟨retB (by unfold betB; simp; try omega), rfl⟩
def partV (n h : Int) : Int := (n * h + 50) / 100
theorem mul_bd {n h : Int} {N H : Nat} (h0 : 0 ≤ n) (h1 : n ≤ N) (h2 : 0 ≤ h) (h3 : h ≤ H) : 0 ≤ n * h ∧ n * h ≤ ((N * H : Nat) : Int) := by
  refine ⟨Int.mul_nonneg h0 h2, ?_⟩
  have := Int.mul_le_mul h1 h3 h2 (by omega)
  simpa using this
theorem part_any (n h : Int) (w : World) (h0 : 0 ≤ n) (h1 : n ≤ 1000000000) (h2 : 0 ≤ h) (h3 : h ≤ 1000) : Calls Tryz.prog 215 #[.int .i64 n, .int .i64 h] w fun e w' => e = .returned (.int .i64 (partV n h)) ∧ w' = w := by
  have hm := mul_bd (N := 1000000000) (H := 1000) h0 h1 h2 h3
  obtain ⟨q, hq⟩ : ∃ q, q = n * h := ⟨_, rfl⟩
  have hp : partV n h = (q + 50) / 100 := by rw [hq]; rfl
  rw [hp]
  rw [← hq] at hm
  have hw : wrap64 (n * h) = q := by rw [← hq]; unfold wrap64; omega
  have hw2 : IntKind.i64.wrap (n * h) = q := by rw [← hq]; exact IntWalk.i64_in _ (by omega)
  clear hq hp
  go_enter Tryz.func215, Tryz.ntmps215
  go_wp2
  go_ret
  exact ⟨retI (by first | omega | (rw [hw]; unfold wrap64; omega)), rfl⟩
end Go.Proofs.YtoilcdgpeilgaaaGreat
namespace Go.Proofs.YtoilcdgpeilgaaaGreat
open Go.RowKit Go.Shelf
set_option maxHeartbeats 1000000 in
theorem Grow_nil (m : Nat) (w : World) (hm : m ≤ 1000000) :
    Calls Tryz.prog 257 #[.slice none 0 0, .int .i64 m] w fun e w' => ∃ v xs, e = .returned v ∧ Own intC 1 3 w' w.heap.size v [] xs ∧ Below w.heap.size w w' := by
  rcases Nat.eq_zero_or_pos m with rfl | hpos
  · go_enter Tryz.func257, Tryz.ntmps257
    go_wp2
    go_ret
    exact ⟨_, _, rfl, Own.nil _ _ _ _ _, Below.refl _ _⟩
  · obtain ⟨i, z, hi, hz, hs, hb, hzs⟩ := int_elem.hi
    have hold : (Builtin.firstCells i.size 0 (.slice none 0 0)).run Tryz.prog w.drew = .ok ([] : List Value).toArray w.drew := run_firstCells_none w.drew i.size 0 0 0
    have hrun := fun ty => Lib.run_append_grow_zeros (P := Tryz.prog) w 47 3 ty 3 i z .i64 .i64 Tryz.underlying47 Tryz.underlying3 hi hz none 0 0 [] hold m hpos (by omega) (by omega) (by omega) (by rw [hb]; omega) (by rw [Nat.zero_add]; exact growslice_fits (by omega) (by rw [hb]; omega))
    have hG1 := grownCap_ge w (0 + m) 0 3
    have hG2 := grownCap_le_maxLen w (0 + m) 0 3 (by unfold maxLen; omega)
    obtain ⟨G, hG⟩ : ∃ G, G = grownCap w (0 + m) 0 3 := ⟨_, rfl⟩
    rw [← hG] at hrun hG1 hG2
    obtain ⟨cur, hcur⟩ : ∃ cur, cur = ([] : List Value).toArray ++ Builtin.zeroCells z.cells m ++ Builtin.zeroCells z.cells (G - (0 + m)) := ⟨_, rfl⟩
    have hcs : cur.size = G := by
      rw [hcur, Array.size_append, Array.size_append, size_zeroCells, size_zeroCells, hzs]
      simp; omega
    rw [← hcur, Nat.zero_add] at hrun
    have HR := Lib.hid hrun
    have HG2 := Lib.hid hG2
    have hG3 : G ≤ 9223372036854775807 := by unfold maxLen at hG2; omega
    have hG4 : m ≤ G := by omega
    have HC := Lib.hid hcs
    clear hrun hG hcur hold hi hz hs hb hzs hcs hG1 hG2
    go_enter Tryz.func257, Tryz.ntmps257
    go_wp2_with (at_builtin; refine list_builtin_append (t := 47) (t2 := 3) rfl (.tmp 20) (.tmp 21) rfl rfl rfl (HR.out _) ?_)
    go_ret
    exact ⟨_, _, rfl, ⟨World.ownsRow_made w.drew cur G (by simp) HG2.out (by rw [HC.out]; omega), fun i x h => by simp at h⟩, (Below.refl w.heap.size w).drew.alloc (by simp) _⟩
theorem flat_succ {l : List (List Int)} {k : Nat} {x : List Int} (hx : l[k]? = some x) : (l.take (k + 1)).flatten = (l.take k).flatten ++ x := by rw [take_snoc hx]; simp
theorem flat_le (l : List (List Int)) (k : Nat) : (l.take k).flatten.length ≤ l.flatten.length := by
  have : l.flatten = (l.take k).flatten ++ (l.drop k).flatten := by rw [← List.flatten_append, List.take_append_drop]
  rw [this, List.length_append]; omega
set_option maxHeartbeats 2000000 in
theorem Concat_ints (A : Option Addr) (n cap : Nat) (l : List (List Int)) (w : World) (h : Sl (slC intC 1) 1 w All A n cap l) (hm : l.flatten.length ≤ 1000000) :
    Calls Tryz.prog 235 #[.slice A n cap] w fun e w' => ∃ v xs, e = .returned v ∧ Own intC 1 3 w' w.heap.size v l.flatten xs ∧ Below w.heap.size w w' := by
  have hbd := h.bd
  have hg := slC_good intC_good (show 0 < 1 by omega)
  go_enter Tryz.func235, Tryz.ntmps235
  go_wp2_with fail
  go_loopg [3, 11] n (fun gk s i wr => ∃ k : Nat, k ≤ n ∧ n - k ≤ gk ∧ i = .int .i64 k ∧ (∃ q : Nat, s = .int .i64 q ∧ Aside (q = (l.take k).flatten.length)) ∧ wr = w)
  case atStart => exact ⟨0, Nat.zero_le _, by omega, rfl, ⟨0, rfl, rfl⟩, rfl⟩
  case round =>
    obtain ⟨k, hk, hgk, rfl, ⟨s, rfl, HS⟩, rfl⟩ := hrel
    have hsb : s ≤ 1000000 := by have h1 : s = (l.take k).flatten.length := HS; have := flat_le l k; omega
    by_cases hlt : k < n
    · obtain ⟨b, off, x, c0, rfl, hx, hc, g0⟩ := h.at1 hlt
      obtain ⟨B, q, c2, hc, hw⟩ := hc
      simp only [List.cons.injEq, and_true] at hc
      subst hc
      have hq := hw.len
      have hsb2 : s + q ≤ 1000000 := by have h1 : s = (l.take k).flatten.length := HS; have := flat_le l (k + 1); rw [flat_succ hx, List.length_append] at this; omega
      have HN := Lib.hid (show s + q = (l.take (k + 1)).flatten.length by rw [flat_succ hx, List.length_append, hq]; have h1 : s = (l.take k).flatten.length := HS; omega)
      clear hx hq
      go_wp2_with fail
      go_roundg (n - (k + 1))
      case measure => omega
      case rel => exact ⟨k + 1, by omega, by omega, by go_num, ⟨s + q, by go_num, HN.out⟩, rfl⟩
    · have : k = n := by omega
      subst this
      have HT := Lib.hid (List.take_of_length_le (Nat.le_of_eq h.len))
      go_wp2_with fail
      refine (Grow_nil s wr hsb).mono ?_
      rintro e w1 ⟨v1, xs1, rfl, ho1, hb1⟩
      obtain ⟨A1, n1, c1, rfl, hs1⟩ := ho1.sl intC_good
      clear hs1
      go_wp2_with fail
      go_loopg [6, 27] k (fun gk out i wz => ∃ j : Nat, j ≤ k ∧ k - j ≤ gk ∧ i = .int .i64 j ∧ (∃ xs, Own intC 1 3 wz wr.heap.size out (l.take j).flatten xs) ∧ Below wr.heap.size wr wz)
      case atStart => exact ⟨0, Nat.zero_le _, by omega, rfl, ⟨_, ho1⟩, hb1⟩
      case round =>
        obtain ⟨j, hj, hgj, rfl, ⟨xs2, ho2⟩, hb2⟩ := hrel
        obtain ⟨A2, n2, c2', rfl, hs2⟩ := ho2.sl intC_good
        clear hs2
        by_cases hjt : j < k
        · obtain ⟨b, off, x, c0, rfl, hx, hc, g0⟩ := (h.below hg (by omega) hb2).at1 hjt
          obtain ⟨B, q, c2, hc, hw⟩ := hc
          simp only [List.cons.injEq, and_true] at hc
          subst hc
          have hq := hw.len
          have hz : (((l.take j).flatten).length + q) * 8 ≤ 140737488355328 := by have := flat_le l (j + 1); rw [flat_succ hx, List.length_append] at this; omega
          have HF := Lib.hid (flat_succ hx)
          have hbs := hb2.size
          clear hx hq
          go_wp2_with (at_builtin; refine list_app (t := 47) (e := 3) (bytes := 8) rfl (.tmp 31) (.tmp 32) rfl int_elem intC_good rfl ho2 rfl hw (fun _ _ hc => hc) hz (by omega) hbs ?_; intro v' w' xs' hown' hg' _)
          go_roundg (k - (j + 1))
          case measure => omega
          case rel => exact ⟨j + 1, by omega, by omega, by go_num, ⟨_, by rw [HF.out]; exact hown'⟩, below_app hb2 ho2 hg' hbs⟩
        · have : j = k := by omega
          subst this
          go_wp2_with fail
          go_ret
          exact ⟨_, _, rfl, by rw [HT.out] at ho2; exact ho2, hb2⟩
end Go.Proofs.YtoilcdgpeilgaaaGreat
namespace Go.Proofs.YtoilcdgpeilgaaaGreat
open Go.RowKit Go.Shelf
def legsE (L : List (List Int)) (c many : Int) : Int :=
  if (L.length : Int) ≠ c ∨ L.any (fun x => ((x.length : Int) != many)) = true then 1 else if L.flatten.any (fun x => !betB x 0 100000) then 3 else 0
def bandErr (l : List Band) (i : Nat) : Int :=
  if betB (l[i]?.getD default).days 0 999 = false ∨ betB (l[i]?.getD default).part 0 100 = false then 3 else
  if 0 < i ∧ ((l[i]?.getD default).days ≤ (l[i - 1]?.getD default).days ∨ (l[i - 1]?.getD default).part < (l[i]?.getD default).part) then 4 else 0
def bandsE (l : List Band) : Int := if 4 < l.length then 2 else firstErr (bandErr l) l.length
def fareE (x : Fares) (c many : Int) : Int :=
  if betB c 1 5 = false ∨ legsB many = false then 3 else
  if legsE x.leg c many ≠ 0 then legsE x.leg c many else
  if betB x.alone 0 200 = false ∨ betB x.third 0 100 = false ∨ betB x.down 0 100 = false then 3 else bandsE x.bands
theorem legs1_any (A : Option Addr) (n cap : Nat) (x : List Int) (many : Int) (B : Nat) (w : World) (h : Sl intC 1 w All A n cap x) (hB : w.cell? ⟨B, 0, none⟩ = some (.int .i64 many)) :
    Calls Tryz.prog 234 #[.slice A n cap, .pointer (some ⟨B, 0, none⟩)] w fun e w' => e = .returned (.bool ((x.length : Int) != many)) ∧ Below w.heap.size w w' := by
  have hl := h.len
  subst hl
  go_enter Tryz.func234, Tryz.ntmps234
  go_wp2_with fail
  go_ret
  exact ⟨rfl, Below.refl _ _⟩
theorem legs2_any (x : Int) (w : World) : Calls Tryz.prog 236 #[.int .i64 x] w fun e w' => e = .returned (.bool (!betB x 0 100000)) ∧ Below w.heap.size w w' := by
  go_enter Tryz.func236, Tryz.ntmps236
  go_wp2_with (go_at_call 155; refine (within_any _ _ _ _).mono ?_; rintro e w' ⟨rfl, rfl⟩)
  go_ret
  exact ⟨rfl, Below.refl _ _⟩
theorem flatten_len {L : List (List Int)} {m : Nat} (h : ∀ x ∈ L, x.length ≤ m) : L.flatten.length ≤ L.length * m := by
  induction L with
  | nil => simp
  | cons x L ih =>
    have h1 := h x (by simp)
    have h2 := ih fun y hy => h y (by simp [hy])
    rw [List.flatten_cons, List.length_append, List.length_cons, Nat.add_mul]; omega
set_option maxHeartbeats 2000000 in
theorem legs_any' (A : Option Addr) (n cap : Nat) (L : List (List Int)) (c many : Int) (w : World) (h : Sl (slC intC 1) 1 w All A n cap L) (hc : c ≤ 5) (hm : many ≤ 7) :
    Calls Tryz.prog 174 #[.slice A n cap, .int .i64 c, .int .i64 many] w fun e w' => e = .returned (.int .i64 (legsE L c many)) ∧ Below w.heap.size w w' := by
  have hg := slC_good intC_good (show 0 < 1 by omega)
  have HN := Lib.hid h.len
  have hb0 : Below w.heap.size w (w.alloc (.cells #[.int .i64 many] 3)) := (Below.refl _ _).alloc (Nat.le_refl _) _
  obtain ⟨r, hr⟩ : ∃ r, r = legsE L c many := ⟨_, rfl⟩
  rw [← hr]
  have HR := Lib.hid hr
  clear hr
  by_cases hn : (n : Int) = c
  · have hn' : ((n : Int) != c) = false := by simpa using hn
    obtain ⟨t, ht⟩ : ∃ t, t = L.any (fun x => ((x.length : Int) != many)) := ⟨_, rfl⟩
    have hcf := ContainsFunc_ints A n cap L 234 #[.pointer (some ⟨w.heap.size, 0, none⟩)] (fun x => ((x.length : Int) != many)) _ (h.below hg (by omega) hb0) (enters_of Tryz.func234 (by kernel_rfl) rfl)
      (fun x w1 B q c2 _ hb hsl => by simpa using legs1_any B q c2 x many w.heap.size w1 hsl (cell_of_one ((hb.block _ (by simp)).trans (blk1 _ _))))
    rw [← ht] at hcf
    have HC := Lib.hid hcf
    have HT := Lib.hid ht
    have HNN := Lib.hid hn
    clear ht hcf hn
    cases t
    · have hflat : L.flatten.length ≤ 1000 := by
        have h1 := flatten_len (L := L) (m := 7) fun x hx => by
          have := List.any_eq_false.1 HT.out.symm x hx
          simp at this
          omega
        have := HN.out
        have := HNN.out
        omega
      have HFL := Lib.hid hflat
      clear hflat
      obtain ⟨q, hq⟩ : ∃ q, q = L.flatten.any (fun x => !betB x 0 100000) := ⟨_, rfl⟩
      have HQ := Lib.hid hq
      clear hq
      go_enter Tryz.func174, Tryz.ntmps174
      go_wp2_with fail
      refine HC.out.mono ?_
      rintro e w1 ⟨rfl, hb1⟩
      replace hb1 := hb0.trans (hb1.mono hb0.size)
      go_wp2_with fail
      refine (Concat_ints _ _ _ L _ (h.below hg (by omega) hb1) (by have := HFL.out; omega)).mono ?_
      rintro e w2 ⟨v, xs, rfl, ho, hb2⟩
      obtain ⟨A2, n2, c2, rfl, hs2⟩ := ho.sl intC_good
      replace hs2 := hs2.all intC_good (by omega)
      replace hb1 := hb1.trans (hb2.mono hb1.size)
      clear hb2 ho
      have hcf := ContainsFunc_int _ _ _ _ 236 #[] (fun x => !betB x 0 100000) w2 hs2 (enters_of Tryz.func236 (by kernel_rfl) rfl) (fun x w1 _ _ => by simpa using legs2_any x w1)
      rw [← HQ.out] at hcf
      have HCF := Lib.hid hcf
      clear hcf hs2
      cases q
      all_goals
        go_wp2_with fail
        refine HCF.out.mono ?_
        rintro e w3 ⟨rfl, hb3⟩
        go_wp2_with fail
        go_ret
        exact ⟨retI (by rw [HR.out]; unfold legsE; rw [if_neg (by rw [HN.out, ← HT.out]; simp [HNN.out]), ← HQ.out]; rfl), hb1.trans (hb3.mono hb1.size)⟩
    · go_enter Tryz.func174, Tryz.ntmps174
      go_wp2_with fail
      refine HC.out.mono ?_
      rintro e w1 ⟨rfl, hb1⟩
      go_wp2_with fail
      go_ret
      exact ⟨retI (by rw [HR.out]; unfold legsE; rw [if_pos (.inr HT.out.symm)]), hb0.trans (hb1.mono hb0.size)⟩
  · have hn' : ((n : Int) != c) = true := by simpa using hn
    have HNN := Lib.hid hn
    clear hn
    go_enter Tryz.func174, Tryz.ntmps174
    go_wp2_with fail
    go_ret
    exact ⟨retI (by rw [HR.out]; unfold legsE; rw [if_pos (.inl (by rw [HN.out]; exact HNN.out))]), hb0⟩
set_option maxHeartbeats 4000000 in
theorem bands_any (A : Option Addr) (n cap : Nat) (l : List Band) (w : World) (h : Sl bandC 2 w All A n cap l) :
    Calls Tryz.prog 175 #[.slice A n cap] w fun e w' => e = .returned (.int .i64 (bandsE l)) ∧ Below w.heap.size w w' := by
  have hbd := h.bd
  have hlen := Lib.hid h.len
  obtain ⟨r, hr⟩ : ∃ r, r = bandsE l := ⟨_, rfl⟩
  rw [← hr]
  have HR := Lib.hid hr
  clear hr
  by_cases hn : 4 < n
  · have hr : r = 2 := by rw [HR.out]; unfold bandsE; rw [hlen.out, if_pos hn]
    subst hr
    go_enter Tryz.func175, Tryz.ntmps175
    go_wp2_with fail
    go_ret
    exact ⟨rfl, Below.refl _ _⟩
  · have hr : r = firstErr (bandErr l) n := by rw [HR.out]; unfold bandsE; rw [hlen.out, if_neg hn]
    have HV := Lib.hid hr
    clear hr
    go_enter Tryz.func175, Tryz.ntmps175
    go_wp2_with fail
    go_loopg [10] n (fun gk i wr => ∃ k : Nat, k ≤ n ∧ n - k ≤ gk ∧ i = .int .i64 k ∧ Aside (firstErr (bandErr l) k = 0) ∧ Below w.heap.size w wr)
    case atStart => exact ⟨0, Nat.zero_le _, by omega, rfl, rfl, Below.refl _ _⟩
    case round =>
      obtain ⟨k, hk, hgk, rfl, HE, hb⟩ := hrel
      by_cases hlt : k < n
      · obtain ⟨b, off, x, c0, c1, rfl, hx, ⟨hc, b0, b1⟩, g0, g1⟩ := (h.below bandC_good (by omega) hb).at2 hlt
        simp only [List.cons.injEq, and_true] at hc
        obtain ⟨rfl, rfl⟩ := hc
        have HX := Lib.hid hx
        clear hx
        have fin : ∀ q : Int, bandErr l k = q → q ≠ 0 → r = q := fun q h1 h2 => by
          rw [HV.out, firstErr_at (n := n) HE.out (by rw [h1]; exact h2) hlt, h1]
        have Fin := Lib.hid fin
        clear fin
        have hw1 := fun W => within_any x.days 0 999 W
        have hw2 := fun W => within_any x.part 0 100 W
        have hbA := hb.alloc hb.size (.cells #[.int .i64 x.days, .int .i64 x.part] 186)
        cases hd : betB x.days 0 999
        · have hr : r = 3 := Fin.out 3 (by unfold bandErr; rw [HX.out, Option.getD_some, if_pos (.inl hd)]) (by decide)
          subst hr
          rw [hd] at hw1
          clear hd
          go_wp2_with fail
          refine (hw1 _).mono ?_
          rintro e w1 ⟨rfl, rfl⟩
          go_wp2_with fail
          go_ret
          exact ⟨rfl, hbA⟩
        · rw [hd] at hw1
          cases hp : betB x.part 0 100
          · have hr : r = 3 := Fin.out 3 (by unfold bandErr; rw [HX.out, Option.getD_some, if_pos (.inr hp)]) (by decide)
            subst hr
            rw [hp] at hw2
            clear hd hp
            go_wp2_with fail
            refine (hw1 _).mono ?_
            rintro e w1 ⟨rfl, rfl⟩
            go_wp2_with fail
            refine (hw2 _).mono ?_
            rintro e w1 ⟨rfl, rfl⟩
            go_wp2_with fail
            go_ret
            exact ⟨rfl, hbA⟩
          · rw [hp] at hw2
            have herr0 : k = 0 → bandErr l k = 0 := fun h0 => by
              unfold bandErr
              rw [HX.out, Option.getD_some, if_neg (by rw [hd, hp]; simp), if_neg (by omega)]
            have herr : ∀ y, l[k - 1]? = some y → 0 < k → bandErr l k = if x.days ≤ y.days ∨ y.part < x.part then 4 else 0 := fun y hy h0 => by
              unfold bandErr
              rw [HX.out, Option.getD_some, if_neg (by rw [hd, hp]; simp), hy, Option.getD_some]
              by_cases e : x.days ≤ y.days ∨ y.part < x.part
              · rw [if_pos ⟨h0, e⟩, if_pos e]
              · rw [if_neg (fun h => e h.2), if_neg e]
            have Herr := Lib.hid herr
            have Herr0 := Lib.hid herr0
            clear herr herr0 hd hp
            rcases k with _ | k
            · simp only [Nat.zero_mul, Nat.add_zero] at g0 g1
              go_wp2_with fail
              refine (hw1 _).mono ?_
              rintro e w1 ⟨rfl, rfl⟩
              go_wp2_with fail
              refine (hw2 _).mono ?_
              rintro e w1 ⟨rfl, rfl⟩
              go_wp2_with fail
              go_quiet (fail)
              go_wp2_with fail
              go_roundg (n - 1)
              case measure => omega
              case rel => exact ⟨1, by omega, by omega, rfl, (show Aside _ from (firstErr_succ HE.out).trans (Herr0.out (by trivial))), below_drewN hbA _⟩
            · obtain ⟨b2, off2, y, d0, d1, hA2, hy, ⟨hc2, y0, y1⟩, e0, e1⟩ := (h.below bandC_good (by omega) hbA).at2 (show k < n by omega)
              injection hA2 with hA2
              injection hA2 with hb2 ho2 _
              subst hb2 ho2
              simp only [List.cons.injEq, and_true] at hc2
              obtain ⟨rfl, rfl⟩ := hc2
              have Hy := Lib.hid hy
              clear hy
              have hw : IntKind.i64.wrap (k : Int) = k := IntWalk.i64_in _ (by omega)
              have hgt : decide ((0 : Int) < (k : Int) + 1) = true := decide_eq_true (by omega)
              have fini : x.days ≤ y.days ∨ y.part < x.part → r = 4 := fun hc => Fin.out 4 (by rw [Herr.out y (by simpa using Hy.out) (by omega), if_pos hc]) (by decide)
              have Fini := Lib.hid fini
              clear fini
              by_cases hd : x.days ≤ y.days
              · have hr : r = 4 := Fini.out (.inl hd)
                subst hr
                have hd' : decide (x.days ≤ y.days) = true := decide_eq_true hd
                go_wp2_with fail
                refine (hw1 _).mono ?_
                rintro e w1 ⟨rfl, rfl⟩
                go_wp2_with fail
                refine (hw2 _).mono ?_
                rintro e w1 ⟨rfl, rfl⟩
                go_wp2_with fail
                go_quiet (fail)
                go_wp2_with fail
                go_ret
                exact ⟨rfl, below_drewN hbA _⟩
              · have hd' : decide (x.days ≤ y.days) = false := decide_eq_false hd
                by_cases hp : y.part < x.part
                · have hr : r = 4 := Fini.out (.inr hp)
                  subst hr
                  go_wp2_with fail
                  refine (hw1 _).mono ?_
                  rintro e w1 ⟨rfl, rfl⟩
                  go_wp2_with fail
                  refine (hw2 _).mono ?_
                  rintro e w1 ⟨rfl, rfl⟩
                  go_wp2_with fail
                  go_quiet (fail)
                  go_wp2_with fail
                  go_ret
                  exact ⟨rfl, below_drewN hbA _⟩
                · go_wp2_with fail
                  refine (hw1 _).mono ?_
                  rintro e w1 ⟨rfl, rfl⟩
                  go_wp2_with fail
                  refine (hw2 _).mono ?_
                  rintro e w1 ⟨rfl, rfl⟩
                  go_wp2_with fail
                  go_quiet (fail)
                  go_wp2_with fail
                  go_roundg (n - (k + 1 + 1))
                  case measure => omega
                  case rel => exact ⟨k + 1 + 1, by omega, by omega, by go_num, (show Aside _ from (firstErr_succ HE.out).trans (by rw [Herr.out y (by simpa using Hy.out) (by omega), if_neg (by omega)])), below_drewN hbA _⟩
      · obtain rfl : k = n := by omega
        have hr : r = 0 := by rw [HV.out]; exact HE.out
        subst hr
        go_wp2_with fail
        go_ret
        exact ⟨rfl, hb⟩
end Go.Proofs.YtoilcdgpeilgaaaGreat
namespace Go.Proofs.YtoilcdgpeilgaaaGreat
open Go.RowKit Go.Shelf
def FareAt (w : World) (b : Nat) (A : Option Addr) (n cap : Nat) (x : Fares) (B : Option Addr) (m cap2 : Nat) : Prop :=
  w.heap[b]? = some (.cells #[.slice A n cap, .int .i64 x.alone, .int .i64 x.third, .slice B m cap2, .int .i64 x.down] 29 (0, 0))
section
variable {w w' : World} {b : Nat} {A : Option Addr} {n cap : Nat} {x : Fares} {B : Option Addr} {m cap2 : Nat}
theorem FareAt.c0 (h : FareAt w b A n cap x B m cap2) : w.cell? ⟨b, 0, none⟩ = some (.slice A n cap) := cell_of_blk h rfl
theorem FareAt.c1 (h : FareAt w b A n cap x B m cap2) : w.cell? ⟨b, 1, none⟩ = some (.int .i64 x.alone) := cell_of_blk h rfl
theorem FareAt.c2 (h : FareAt w b A n cap x B m cap2) : w.cell? ⟨b, 2, none⟩ = some (.int .i64 x.third) := cell_of_blk h rfl
theorem FareAt.c3 (h : FareAt w b A n cap x B m cap2) : w.cell? ⟨b, 3, none⟩ = some (.slice B m cap2) := cell_of_blk h rfl
theorem FareAt.c4 (h : FareAt w b A n cap x B m cap2) : w.cell? ⟨b, 4, none⟩ = some (.int .i64 x.down) := cell_of_blk h rfl
theorem FareAt.below (h : FareAt w b A n cap x B m cap2) (hb : Below w.heap.size w w') : FareAt w' b A n cap x B m cap2 := (hb.block _ (lt_of_block h)).trans h
theorem FareAt.new (w : World) : FareAt (w.alloc (.cells #[.slice A n cap, .int .i64 x.alone, .int .i64 x.third, .slice B m cap2, .int .i64 x.down] 29)) w.heap.size A n cap x B m cap2 := blk1 _ _
end
structure FareR (w : World) (A : Option Addr) (n cap : Nat) (x : Fares) (B : Option Addr) (m cap2 : Nat) : Prop where
  leg : Sl (slC intC 1) 1 w All A n cap x.leg
  bands : Sl bandC 2 w All B m cap2 x.bands
  a : InI x.alone
  t : InI x.third
  d : InI x.down
theorem FareR.below {w w' : World} {A : Option Addr} {n cap : Nat} {x : Fares} {B : Option Addr} {m cap2 : Nat} (h : FareR w A n cap x B m cap2) (hb : Below w.heap.size w w') : FareR w' A n cap x B m cap2 :=
  ⟨h.leg.below (slC_good intC_good (by omega)) (by omega) hb, h.bands.below bandC_good (by omega) hb, h.a, h.t, h.d⟩
set_option maxHeartbeats 4000000 in
theorem fareCheck_any (A : Option Addr) (n cap : Nat) (x : Fares) (B : Option Addr) (m cap2 : Nat) (c many : Int) (w : World) (h : FareR w A n cap x B m cap2) :
    Calls Tryz.prog 89 #[.agg #[.slice A n cap, .int .i64 x.alone, .int .i64 x.third, .slice B m cap2, .int .i64 x.down], .int .i64 c, .int .i64 many] w fun e w' => e = .returned (.int .i64 (fareE x c many)) ∧ Below w.heap.size w w' := by
  have hb0 : Below w.heap.size w (w.alloc (.cells #[.slice A n cap, .int .i64 x.alone, .int .i64 x.third, .slice B m cap2, .int .i64 x.down] 29)) := (Below.refl _ _).alloc (Nat.le_refl _) _
  have hF : FareAt (w.alloc (.cells #[.slice A n cap, .int .i64 x.alone, .int .i64 x.third, .slice B m cap2, .int .i64 x.down] 29)) w.heap.size A n cap x B m cap2 := FareAt.new w
  obtain ⟨r, hr⟩ : ∃ r, r = fareE x c many := ⟨_, rfl⟩
  rw [← hr]
  have HR := Lib.hid hr
  clear hr
  have hw1 := fun W => within_any c 1 5 W
  have hw2 := fun W => legs_any many W
  cases hq1 : betB c 1 5
  · have hr : r = 3 := by rw [HR.out]; unfold fareE; rw [if_pos (.inl hq1)]
    subst hr
    rw [hq1] at hw1
    clear hq1
    go_enter Tryz.func89, Tryz.ntmps89
    go_wp2_with fail
    refine (hw1 _).mono ?_
    rintro e w1 ⟨rfl, rfl⟩
    go_wp2_with fail
    go_ret
    exact ⟨rfl, hb0⟩
  · rw [hq1] at hw1
    cases hq2 : legsB many
    · have hr : r = 3 := by rw [HR.out]; unfold fareE; rw [if_pos (.inr hq2)]
      subst hr
      rw [hq2] at hw2
      clear hq1 hq2
      go_enter Tryz.func89, Tryz.ntmps89
      go_wp2_with fail
      refine (hw1 _).mono ?_
      rintro e w1 ⟨rfl, rfl⟩
      go_wp2_with fail
      refine (hw2 _).mono ?_
      rintro e w1 ⟨rfl, rfl⟩
      go_wp2_with fail
      go_ret
      exact ⟨rfl, hb0⟩
    · rw [hq2] at hw2
      have HV := Lib.hid (show r = if legsE x.leg c many ≠ 0 then legsE x.leg c many else if betB x.alone 0 200 = false ∨ betB x.third 0 100 = false ∨ betB x.down 0 100 = false then 3 else bandsE x.bands by rw [HR.out]; unfold fareE; rw [if_neg (by rw [hq1, hq2]; simp)])
      have hl := legs_any' A n cap x.leg c many _ (h.leg.below (slC_good intC_good (by omega)) (by omega) hb0) (betB_iff.1 hq1).2 (betB_iff.1 hq2).2
      obtain ⟨q, hq⟩ : ∃ q, q = legsE x.leg c many := ⟨_, rfl⟩
      rw [← hq] at hl HV
      have HL := Lib.hid hl
      clear hl hq hq1 hq2 HR
      by_cases hq0 : q = 0
      · subst hq0
        have HV2 := Lib.hid (show r = if betB x.alone 0 200 = false ∨ betB x.third 0 100 = false ∨ betB x.down 0 100 = false then 3 else bandsE x.bands by rw [HV.out]; rw [if_neg (by simp)])
        clear HV
        have hwa := fun W => within_any x.alone 0 200 W
        have hwt := fun W => within_any x.third 0 100 W
        have hwd := fun W => within_any x.down 0 100 W
        cases qa : betB x.alone 0 200
        · have hr : r = 3 := by rw [HV2.out, if_pos (.inl qa)]
          subst hr
          rw [qa] at hwa
          clear qa
          go_enter Tryz.func89, Tryz.ntmps89
          go_wp2_with fail
          refine (hw1 _).mono ?_
          rintro e w1 ⟨rfl, rfl⟩
          go_wp2_with fail
          refine (hw2 _).mono ?_
          rintro e w1 ⟨rfl, rfl⟩
          go_wp2_with fail
          refine HL.out.mono ?_
          rintro e w1 ⟨rfl, hb1⟩
          have k1 := (hF.below hb1).c1
          go_wp2_with fail
          refine (hwa _).mono ?_
          rintro e w2 ⟨rfl, rfl⟩
          go_wp2_with fail
          go_ret
          exact ⟨rfl, hb0.trans (hb1.mono hb0.size)⟩
        · rw [qa] at hwa
          cases qt : betB x.third 0 100
          · have hr : r = 3 := by rw [HV2.out, if_pos (.inr (.inl qt))]
            subst hr
            rw [qt] at hwt
            clear qa qt
            go_enter Tryz.func89, Tryz.ntmps89
            go_wp2_with fail
            refine (hw1 _).mono ?_
            rintro e w1 ⟨rfl, rfl⟩
            go_wp2_with fail
            refine (hw2 _).mono ?_
            rintro e w1 ⟨rfl, rfl⟩
            go_wp2_with fail
            refine HL.out.mono ?_
            rintro e w1 ⟨rfl, hb1⟩
            have k1 := (hF.below hb1).c1
            have k2 := (hF.below hb1).c2
            go_wp2_with fail
            refine (hwa _).mono ?_
            rintro e w2 ⟨rfl, rfl⟩
            go_wp2_with fail
            refine (hwt _).mono ?_
            rintro e w2 ⟨rfl, rfl⟩
            go_wp2_with fail
            go_ret
            exact ⟨rfl, hb0.trans (hb1.mono hb0.size)⟩
          · rw [qt] at hwt
            cases qd : betB x.down 0 100
            · have hr : r = 3 := by rw [HV2.out, if_pos (.inr (.inr qd))]
              subst hr
              rw [qd] at hwd
              clear qa qt qd
              go_enter Tryz.func89, Tryz.ntmps89
              go_wp2_with fail
              refine (hw1 _).mono ?_
              rintro e w1 ⟨rfl, rfl⟩
              go_wp2_with fail
              refine (hw2 _).mono ?_
              rintro e w1 ⟨rfl, rfl⟩
              go_wp2_with fail
              refine HL.out.mono ?_
              rintro e w1 ⟨rfl, hb1⟩
              have k1 := (hF.below hb1).c1
              have k2 := (hF.below hb1).c2
              have k4 := (hF.below hb1).c4
              go_wp2_with fail
              refine (hwa _).mono ?_
              rintro e w2 ⟨rfl, rfl⟩
              go_wp2_with fail
              refine (hwt _).mono ?_
              rintro e w2 ⟨rfl, rfl⟩
              go_wp2_with fail
              refine (hwd _).mono ?_
              rintro e w2 ⟨rfl, rfl⟩
              go_wp2_with fail
              go_ret
              exact ⟨rfl, hb0.trans (hb1.mono hb0.size)⟩
            · have HV3 := Lib.hid (show r = bandsE x.bands by rw [HV2.out, if_neg (by rw [qa, qt, qd]; simp)])
              rw [qd] at hwd
              clear qa qt qd
              go_enter Tryz.func89, Tryz.ntmps89
              go_wp2_with fail
              refine (hw1 _).mono ?_
              rintro e w1 ⟨rfl, rfl⟩
              go_wp2_with fail
              refine (hw2 _).mono ?_
              rintro e w1 ⟨rfl, rfl⟩
              go_wp2_with fail
              refine HL.out.mono ?_
              rintro e w1 ⟨rfl, hb1⟩
              have k1 := (hF.below hb1).c1
              have k2 := (hF.below hb1).c2
              have k3 := (hF.below hb1).c3
              have k4 := (hF.below hb1).c4
              replace hb1 := hb0.trans (hb1.mono hb0.size)
              go_wp2_with fail
              refine (hwa _).mono ?_
              rintro e w2 ⟨rfl, rfl⟩
              go_wp2_with fail
              refine (hwt _).mono ?_
              rintro e w2 ⟨rfl, rfl⟩
              go_wp2_with fail
              refine (hwd _).mono ?_
              rintro e w2 ⟨rfl, rfl⟩
              go_wp2_with fail
              have hbd := bands_any _ _ _ _ _ (h.bands.below bandC_good (by omega) hb1)
              rw [← HV3.out] at hbd
              refine hbd.mono ?_
              rintro e w3 ⟨rfl, hb3⟩
              go_wp2_with fail
              go_ret
              exact ⟨rfl, hb1.trans (hb3.mono hb1.size)⟩
      · have hq1 : (q != 0) = true := by simpa using hq0
        have hr : r = q := by rw [HV.out, if_pos hq0]
        subst hr
        clear hq0 HV
        go_enter Tryz.func89, Tryz.ntmps89
        go_wp2_with fail
        refine (hw1 _).mono ?_
        rintro e w1 ⟨rfl, rfl⟩
        go_wp2_with fail
        refine (hw2 _).mono ?_
        rintro e w1 ⟨rfl, rfl⟩
        go_wp2_with fail
        refine HL.out.mono ?_
        rintro e w1 ⟨rfl, hb1⟩
        go_wp2_with fail
        go_ret
        exact ⟨rfl, hb0.trans (hb1.mono hb0.size)⟩
end Go.Proofs.YtoilcdgpeilgaaaGreat
namespace Go.Proofs.YtoilcdgpeilgaaaGreat
open Go.RowKit Go.Shelf
theorem firstErr_zero {f : Nat → Int} : ∀ {n : Nat}, firstErr f n = 0 → ∀ i, i < n → f i = 0 := by
  intro n
  induction n with
  | zero => intro _ i hi; omega
  | succ n ih =>
    intro h i hi
    simp only [firstErr] at h
    by_cases e : firstErr f n = 0
    · rw [if_pos e] at h
      by_cases e2 : i = n
      · rw [e2]; exact h
      · exact ih e i (by omega)
    · rw [if_neg e] at h; exact absurd h e
structure FareOk (x : Fares) (c many : Int) : Prop where
  cr : 1 ≤ c ∧ c ≤ 5
  mr : 1 ≤ many ∧ many ≤ 7
  len : (x.leg.length : Int) = c
  lens : ∀ y ∈ x.leg, (y.length : Int) = many
  leg : ∀ y ∈ x.leg, ∀ v ∈ y, 0 ≤ v ∧ v ≤ 100000
  a : 0 ≤ x.alone ∧ x.alone ≤ 200
  t : 0 ≤ x.third ∧ x.third ≤ 100
  d : 0 ≤ x.down ∧ x.down ≤ 100
  four : x.bands.length ≤ 4
  band : ∀ b ∈ x.bands, 0 ≤ b.days ∧ b.days ≤ 999 ∧ 0 ≤ b.part ∧ b.part ≤ 100
  ord : ∀ i y z, x.bands[i]? = some y → x.bands[i + 1]? = some z → y.days < z.days ∧ z.part ≤ y.part
theorem bool_true {b : Bool} (h : ¬ b = false) : b = true := by cases b <;> simp_all
theorem bands_ok {l : List Band} (h : bandsE l = 0) : l.length ≤ 4 ∧ (∀ b ∈ l, 0 ≤ b.days ∧ b.days ≤ 999 ∧ 0 ≤ b.part ∧ b.part ≤ 100) ∧ ∀ i y z, l[i]? = some y → l[i + 1]? = some z → y.days < z.days ∧ z.part ≤ y.part := by
  unfold bandsE at h
  by_cases h4 : 4 < l.length
  · rw [if_pos h4] at h; omega
  · rw [if_neg h4] at h
    have hall := firstErr_zero h
    have one : ∀ i y, l[i]? = some y → betB y.days 0 999 = true ∧ betB y.part 0 100 = true ∧ ¬ (0 < i ∧ (y.days ≤ (l[i - 1]?.getD default).days ∨ (l[i - 1]?.getD default).part < y.part)) := by
      intro i y hy
      have hi := hall i (List.getElem?_eq_some_iff.1 hy).1
      unfold bandErr at hi
      rw [hy, Option.getD_some] at hi
      by_cases e1 : betB y.days 0 999 = false ∨ betB y.part 0 100 = false
      · rw [if_pos e1] at hi; omega
      · rw [if_neg e1] at hi
        by_cases e2 : 0 < i ∧ (y.days ≤ (l[i - 1]?.getD default).days ∨ (l[i - 1]?.getD default).part < y.part)
        · rw [if_pos e2] at hi; omega
        · exact ⟨bool_true fun e => e1 (.inl e), bool_true fun e => e1 (.inr e), e2⟩
    refine ⟨by omega, fun b hb => ?_, fun i y z hy hz => ?_⟩
    · obtain ⟨i, hi⟩ := List.getElem?_of_mem hb
      obtain ⟨h1, h2, _⟩ := one i b hi
      have := betB_iff.1 h1
      have := betB_iff.1 h2
      omega
    · obtain ⟨_, _, h3⟩ := one (i + 1) z hz
      rw [show i + 1 - 1 = i by omega, hy, Option.getD_some] at h3
      omega
theorem legs_ok {L : List (List Int)} {c many : Int} (h : legsE L c many = 0) : (L.length : Int) = c ∧ (∀ y ∈ L, (y.length : Int) = many) ∧ ∀ y ∈ L, ∀ v ∈ y, 0 ≤ v ∧ v ≤ 100000 := by
  unfold legsE at h
  by_cases e1 : (L.length : Int) ≠ c ∨ L.any (fun x => ((x.length : Int) != many)) = true
  · rw [if_pos e1] at h; omega
  · rw [if_neg e1] at h
    have e2 : L.any (fun x => ((x.length : Int) != many)) = false := by
      cases e : L.any (fun x => ((x.length : Int) != many)) with
      | false => rfl
      | true => exact absurd (.inr e) e1
    have e3 : L.flatten.any (fun x => !betB x 0 100000) = false := by
      cases e : L.flatten.any (fun x => !betB x 0 100000) with
      | false => rfl
      | true => rw [e] at h; simp at h
    refine ⟨by omega, fun y hy => ?_, fun y hy v hv => ?_⟩
    · have := List.any_eq_false.1 e2 y hy
      simpa using this
    · have := List.any_eq_false.1 e3 v (List.mem_flatten.2 ⟨y, hy, hv⟩)
      exact betB_iff.1 (by simpa using this)
theorem fare_ok {x : Fares} {c many : Int} (h : fareE x c many = 0) : FareOk x c many := by
  unfold fareE at h
  by_cases e1 : betB c 1 5 = false ∨ legsB many = false
  · rw [if_pos e1] at h; omega
  · rw [if_neg e1] at h
    by_cases e2 : legsE x.leg c many = 0
    · rw [if_neg (by simp [e2])] at h
      by_cases e3 : betB x.alone 0 200 = false ∨ betB x.third 0 100 = false ∨ betB x.down 0 100 = false
      · rw [if_pos e3] at h; omega
      · rw [if_neg e3] at h
        obtain ⟨l1, l2, l3⟩ := legs_ok e2
        obtain ⟨b1, b2, b3⟩ := bands_ok h
        exact ⟨betB_iff.1 (bool_true fun e => e1 (.inl e)), betB_iff.1 (bool_true fun e => e1 (.inr e)), l1, l2, l3, betB_iff.1 (bool_true fun e => e3 (.inl e)), betB_iff.1 (bool_true fun e => e3 (.inr (.inl e))), betB_iff.1 (bool_true fun e => e3 (.inr (.inr e))), b1, b2, b3⟩
    · rw [if_pos e2] at h; exact absurd h e2
end Go.Proofs.YtoilcdgpeilgaaaGreat
namespace Go.Proofs.YtoilcdgpeilgaaaGreat
open Go.RowKit Go.Shelf
def paysV (x : Fares) (s g : Int) : Int := if g = 1 then s + partV s x.alone else 2 * s + (g - 2) * partV s x.third
def ofV (x : Fares) (cat : Int) (s : Span) (g : Int) : Int := paysV x (seg (x.leg[cat.toNat]?.getD []) s.frm s.upto).sum g
theorem sum_bd {l : List Int} {M : Nat} (h : ∀ v ∈ l, 0 ≤ v ∧ v ≤ (M : Int)) : 0 ≤ l.sum ∧ l.sum ≤ ((l.length * M : Nat) : Int) := by
  induction l with
  | nil => simp
  | cons y l ih =>
    have h1 := h y (by simp)
    have h2 := ih fun v hv => h v (by simp [hv])
    rw [List.sum_cons, List.length_cons, Nat.add_mul]
    omega
theorem sum_take_succ {l : List Int} {k : Nat} {y : Int} (h : l[k]? = some y) : (l.take (k + 1)).sum = (l.take k).sum + y := by rw [take_snoc h]; simp
theorem partV_bd {s h : Int} (h0 : 0 ≤ s) (h1 : s ≤ 1000000) (h2 : 0 ≤ h) (h3 : h ≤ 200) : 0 ≤ partV s h ∧ partV s h ≤ 2000001 := by
  have := mul_bd (N := 1000000) (H := 200) h0 h1 h2 h3
  unfold partV
  omega
set_option maxHeartbeats 4000000 in
theorem Of_any (A : Option Addr) (n cap : Nat) (x : Fares) (B : Option Addr) (m cap2 : Nat) (k f t : Nat) (g : Int) (L : List Int) (w : World) (h : FareR w A n cap x B m cap2) (hL : x.leg[k]? = some L) (hft : f < t) (ht : t ≤ L.length) (h7 : L.length ≤ 7)
    (hv : ∀ v ∈ L, 0 ≤ v ∧ v ≤ 100000) (ha : 0 ≤ x.alone ∧ x.alone ≤ 200) (hth : 0 ≤ x.third ∧ x.third ≤ 100) (hg : 1 ≤ g ∧ g ≤ 4) :
    Calls Tryz.prog 156 #[.agg #[.slice A n cap, .int .i64 x.alone, .int .i64 x.third, .slice B m cap2, .int .i64 x.down], .int .i64 k, .agg #[.int .i64 f, .int .i64 t], .int .i64 g] w fun e w' => e = .returned (.int .i64 (paysV x (seg L f t).sum g)) ∧ Below w.heap.size w w' := by
  have hb0 : Below w.heap.size w ((w.alloc (.cells #[.slice A n cap, .int .i64 x.alone, .int .i64 x.third, .slice B m cap2, .int .i64 x.down] 29)).alloc (.cells #[.int .i64 f, .int .i64 t] 34)) := ((Below.refl _ _).alloc (Nat.le_refl _) _).alloc (by simp) _
  have hF : FareAt ((w.alloc (.cells #[.slice A n cap, .int .i64 x.alone, .int .i64 x.third, .slice B m cap2, .int .i64 x.down] 29)).alloc (.cells #[.int .i64 f, .int .i64 t] 34)) w.heap.size A n cap x B m cap2 := blk2_0 _ _ _
  have hS : SpanAt ((w.alloc (.cells #[.slice A n cap, .int .i64 x.alone, .int .i64 x.third, .slice B m cap2, .int .i64 x.down] 29)).alloc (.cells #[.int .i64 f, .int .i64 t] 34)) (w.heap.size + 1) f t := blk2_1 _ _ _
  have hkn : k < n := by have := (List.getElem?_eq_some_iff.1 hL).1; have := h.leg.len; omega
  have hbd := h.leg.bd
  obtain ⟨b, off, L', c0, hA, hL', ⟨B', q, c2, hc, hsl⟩, g0⟩ := ((h.below hb0).leg).at1 hkn
  obtain rfl : L' = L := by rw [hL] at hL'; injection hL' with e; exact e.symm
  simp only [List.cons.injEq, and_true] at hc
  subst hc
  subst hA
  have hq := hsl.len
  have hqc := hsl.le
  have hqb := hsl.max
  have htq : t ≤ q := by omega
  have hsg := hsl.segm hft htq
  have hsb : ∀ j, 0 ≤ ((seg L' f t).take j).sum ∧ ((seg L' f t).take j).sum ≤ 700000 := fun j => by
    have h1 := sum_bd (l := (seg L' f t).take j) (M := 100000) fun v hv' => hv v (seg_mem (List.mem_of_mem_take hv'))
    have h2 : ((seg L' f t).take j).length ≤ 7 := by rw [List.length_take]; have := hsg.len; omega
    omega
  have HV := Lib.hid (fun v (hv' : v ∈ seg L' f t) => hv v (seg_mem hv'))
  have HSB := Lib.hid hsb
  have HLEN := Lib.hid hsg.len
  have hlf : (f : Int) ≤ (t : Int) := by omega
  have htc : (t : Int) ≤ (c2 : Int) := by omega
  have hkz : (k : Int) < (n : Int) := by omega
  have j0 := hF.c0
  have j1 := hF.c1
  have j2 := hF.c2
  have s0 := hS.c0
  have s1 := hS.c1
  have hc63 : c2 ≤ 9223372036854775807 := by unfold maxLen at hqb; omega
  clear hL hL' hv hsb hq hqb
  go_enter Tryz.func156, Tryz.ntmps156
  go_upto_region 2 with (fail)
  go_quiet (fail)
  go_wp2_with fail
  obtain ⟨b3, off3, hA3⟩ : ∃ b3 off3, Option.map (fun a : Addr => a.add f) B' = some ⟨b3, off3, none⟩ := by
    obtain ⟨b3, off3, _, _, h3, _⟩ := hsg.at1 (k := 0) (by omega)
    exact ⟨b3, off3, h3⟩
  rw [hA3] at hsg ⊢
  go_loopg [9, 23] (t - f) (fun gk s i wr => ∃ j : Nat, j ≤ t - f ∧ (t - f) - j ≤ gk ∧ i = .int .i64 j ∧ s = .int .i64 ((seg L' f t).take j).sum ∧ wr = ((w.alloc (.cells #[.slice (some ⟨b, off, none⟩) n cap, .int .i64 x.alone, .int .i64 x.third, .slice B m cap2, .int .i64 x.down] 29)).alloc (.cells #[.int .i64 f, .int .i64 t] 34)).drewN nq)
  case atStart => exact ⟨0, Nat.zero_le _, by omega, rfl, rfl, rfl⟩
  case round =>
    obtain ⟨j, hj, hgj, rfl, rfl, rfl⟩ := hrel
    by_cases hlt : j < t - f
    · obtain ⟨b4, off4, v, d0, hA4, hv, ⟨hd, v0⟩, e0⟩ := (hsg.below intC_good (by omega) (below_drewN (Below.refl _ _) nq)).at1 hlt
      simp only [List.cons.injEq, and_true] at hd
      subst hd
      have hvb := HV.out v (List.mem_of_getElem? hv)
      have HS := Lib.hid (sum_take_succ hv)
      have hs0 := HSB.out j
      injection hA4 with hA4
      injection hA4 with e1 e2 _
      subst e1 e2
      clear hv
      go_wp2_with fail
      go_roundg ((t - f) - (j + 1))
      case measure => omega
      case rel => exact ⟨j + 1, by omega, by omega, by go_num, by rw [HS.out], rfl⟩
    · have : j = t - f := by omega
      subst this
      have hs0 := HSB.out (t - f)
      have HT := Lib.hid (List.take_of_length_le (Nat.le_of_eq HLEN.out))
      rw [HT.out] at hs0
      obtain ⟨S, hS'⟩ : ∃ S, S = (seg L' f t).sum := ⟨_, rfl⟩
      rw [HT.out]
      rw [← hS'] at hs0 ⊢
      have HP := Lib.hid (show paysV x (seg L' f t).sum g = if g = 1 then S + partV S x.alone else 2 * S + (g - 2) * partV S x.third by rw [← hS']; rfl)
      clear hS'
      have hpa := fun W => part_any S x.alone W hs0.1 (by omega) ha.1 (by omega)
      have hpt := fun W => part_any S x.third W hs0.1 (by omega) hth.1 (by omega)
      have ba := partV_bd hs0.1 (by omega) ha.1 ha.2
      have bt := partV_bd hs0.1 (by omega) hth.1 (show x.third ≤ 200 by omega)
      generalize partV S x.alone = pa at *
      generalize partV S x.third = pt at *
      rcases (show g = 1 ∨ g = 2 ∨ g = 3 ∨ g = 4 by omega) with rfl | rfl | rfl | rfl
      · go_wp2_with fail
        refine (hpa _).mono ?_
        rintro e w2 ⟨rfl, rfl⟩
        go_wp2_with fail
        go_ret
        exact ⟨retI (by rw [HP.out]; simp), below_drewN hb0 _⟩
      all_goals
        go_wp2_with fail
        refine (hpt _).mono ?_
        rintro e w2 ⟨rfl, rfl⟩
        go_wp2_with fail
        go_ret
        exact ⟨retI (by rw [HP.out, if_neg (by omega)]; try omega), below_drewN hb0 _⟩
end Go.Proofs.YtoilcdgpeilgaaaGreat
namespace Go.Proofs.YtoilcdgpeilgaaaGreat
open Go.RowKit Go.Shelf
def upto (s pt : Int) (j : Nat) : Int := if j ≤ 1 then 0 else if j = 2 then s else if j = 3 then 2 * s else if j = 4 then 2 * s + pt else 2 * s + 2 * pt
end Go.Proofs.YtoilcdgpeilgaaaGreat
namespace Go.Proofs.YtoilcdgpeilgaaaGreat
open Go.RowKit Go.Shelf
instance bandK : CodK bandC 2 := ⟨bandC_good, by omega⟩
instance intsK : CodK (slC intC 1) 1 := ⟨slC_good intC_good (by omega), by omega⟩
def tableX : Fares := ⟨[[100, 200, 301], [150, 250, 350], [500, 500, 500]], 50, 33, [⟨7, 100⟩, ⟨30, 50⟩], 20⟩
end Go.Proofs.YtoilcdgpeilgaaaGreat
