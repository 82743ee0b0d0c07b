/-
  Words, laws and contracts: FolioA, FolioB, FolioC, FolioD, FolioE, FolioF, FolioG.
-/
import Derived.Test.YtoilcdgpeilgaaaGreatBun1
import Derived.RangeFuncNested
import Derived.RangeFuncBound
import Derived.RangeFuncCalls
import Derived.RangeFuncLeaves
import Derived.RangeFuncFrom
import Derived.Shelf.RegionOpen
import Derived.OwnWalkIn
import Derived.TacticsInMore
import Derived.LoopNIn
import Derived.LoopIn
set_option linter.unusedSimpArgs false
set_option linter.unusedVariables false
namespace Go.Proofs.YtoilcdgpeilgaaaGreat
open Go.RowKit Go.Shelf
structure Entry where
  day : Int
  kind : Int
  amount : Int
  deriving DecidableEq, Inhabited
def entryC : Cod Entry := fun _ _ x cs => cs = [.int .i64 x.day, .int .i64 x.kind, .int .i64 x.amount] ∧ InI x.day ∧ InI x.kind ∧ InI x.amount
theorem entryC_flat : Flat entryC := fun _ _ _ _ _ _ h => h
theorem entryC_good : Good entryC := .of_flat entryC_flat fun h u hu => by obtain ⟨rfl, _⟩ := h; simp at hu; rcases hu with rfl | rfl | rfl <;> rfl
theorem entry_elem : ElemOf Tryz.prog 35 57 3 24 := .mk' Tryz.underlying35 (z := .agg #[.int .i64 0, .int .i64 0, .int .i64 0]) (by kernel_rfl) rfl (by omega)
def amountB (n : Int) : Bool := decide (-100000000 ≤ n) && decide (n ≤ 100000000)
def entryE (x : Entry) : Int :=
  if x.kind < 1 ∨ 4 < x.kind then 7 else
  if x.day < 0 ∨ 9999 < x.day ∨ x.amount < -100000000 ∨ 100000000 < x.amount then 3 else
  if x.amount < 0 ∧ (x.kind = 1 ∨ x.kind = 3) ∨ 0 < x.amount ∧ x.kind = 2 then 4 else 0
theorem amount_any (n : Int) (w : World) : Calls Tryz.prog 200 #[.int .i64 n] w fun e w' => e = .returned (.bool (amountB n)) ∧ w = w' := by
  go_enter Tryz.func200, Tryz.ntmps200
  go_wp2
  all_goals go_ret
  all_goals exact ⟨retB (by simp only [amountB]; simp; omega), rfl⟩
set_option maxHeartbeats 1000000 in
theorem entry_any (d k m : Int) (w : World) :
    Calls Tryz.prog 198 #[.agg #[.int .i64 d, .int .i64 k, .int .i64 m]] w fun e w' => e = .returned (.int .i64 (entryE ⟨d, k, m⟩)) ∧ Below w.heap.size w w' := by
  go_enter Tryz.func198, Tryz.ntmps198
  go_wp2
  all_goals go_ret
  all_goals refine ⟨retI ?_, (Below.refl _ _).alloc (Nat.le_refl _) _⟩
  all_goals (try simp at *)
  all_goals unfold entryE
  all_goals dsimp only
  all_goals (repeat' split)
  all_goals omega
def sumBy (p : Int → Bool) (l : List Entry) : Int := ((l.filter fun x => p x.kind).map (·.amount)).sum
def Small (l : List Entry) : Prop := l.length ≤ 1000 ∧ ∀ x ∈ l, -10000000000 ≤ x.amount ∧ x.amount ≤ 10000000000
theorem sumBy_bd (p : Int → Bool) (l : List Entry) (h : ∀ x ∈ l, -10000000000 ≤ x.amount ∧ x.amount ≤ 10000000000) : -10000000000 * (l.length : Int) ≤ sumBy p l ∧ sumBy p l ≤ 10000000000 * (l.length : Int) := by
  induction l with
  | nil => simp [sumBy]
  | cons x l ih =>
    have h1 := h x (by simp)
    have h2 := ih fun y hy => h y (by simp [hy])
    simp only [sumBy, List.filter_cons] at h2 ⊢
    by_cases hp : p x.kind <;> simp [hp] <;> omega
theorem sumBy_snoc (p : Int → Bool) (l : List Entry) (x : Entry) : sumBy p (l ++ [x]) = sumBy p l + if p x.kind then x.amount else 0 := by
  simp only [sumBy, List.filter_append, List.map_append, List.sum_append, List.filter_cons, List.filter_nil]
  by_cases hp : p x.kind <;> simp [hp]
theorem Small.take {l : List Entry} (h : Small l) (k : Nat) (p : Int → Bool) : -10000000000000 ≤ sumBy p (l.take k) ∧ sumBy p (l.take k) ≤ 10000000000000 := by
  have := sumBy_bd p (l.take k) fun x hx => h.2 x (List.mem_of_mem_take hx)
  have h1 : (l.take k).length ≤ 1000 := Nat.le_trans (List.length_take_le' _ _) h.1
  omega
theorem Small.sum {l : List Entry} (h : Small l) (p : Int → Bool) : -10000000000000 ≤ sumBy p l ∧ sumBy p l ≤ 10000000000000 := by
  have := h.take l.length p
  rwa [List.take_length] at this
set_option maxHeartbeats 1000000 in
theorem Sum_any (A : Option Addr) (n cap : Nat) (l : List Entry) (g : Nat) (lb : Array Value) (p : Int → Bool) (w : World) (h : Sl entryC 3 w All A n cap l) (hs : Small l)
    (eg : ∀ args w, (callFunc g args).run Tryz.prog w = .ok (.enter g args) w)
    (hp : ∀ (k : Int) (w : World), Calls Tryz.prog g (#[.int .i64 k] ++ lb) w fun e w' => e = .returned (.bool (p k)) ∧ w = w') :
    Calls Tryz.prog 180 #[.slice A n cap, .func (.func g) #[] lb] w fun e w' => e = .returned (.int .i64 (sumBy p l)) ∧ Below w.heap.size w w' := by
  have Hp := Lib.hid hp
  clear hp
  have hbd := h.bd
  go_enter Tryz.func180, Tryz.ntmps180
  go_wp2_with fail
  go_loopg [5, 10] n (fun gk s i wr => ∃ k : Nat, k ≤ n ∧ n - k ≤ gk ∧ i = .int .i64 k ∧ s = .int .i64 (sumBy p (l.take k)) ∧ Below w.heap.size w wr)
  case atStart => exact ⟨0, Nat.zero_le _, by omega, rfl, rfl, Below.refl _ _⟩
  case round =>
    obtain ⟨k, hk, hgk, rfl, rfl, hb⟩ := hrel
    by_cases hlt : k < n
    · obtain ⟨b, off, x, c0, c1, c2, rfl, hx, ⟨hc, b0, b1, b2⟩, g0, g1, g2⟩ := (h.below entryC_good (by omega) hb).at3 hlt
      simp only [List.cons.injEq, and_true] at hc
      obtain ⟨rfl, rfl, rfl⟩ := hc
      have s1 := hs.take k p
      have HS := Lib.hid (sumBy_snoc p (l.take k) x)
      have HT := Lib.hid (take_snoc hx)
      have s3 := hs.2 x (List.mem_of_getElem? hx)
      clear hx
      have hcall := Hp.out x.kind
      cases hq : p x.kind with
      | true =>
        rw [hq] at hcall
        go_wp2_with (go_at_fn g; refine (hcall _).mono ?_; rintro e w' ⟨rfl, rfl⟩)
        go_roundg (n - (k + 1))
        case measure => omega
        case rel => exact ⟨k + 1, by omega, by omega, by go_num, by rw [HT.out, HS.out, hq]; rfl, hb.alloc hb.size _⟩
      | false =>
        rw [hq] at hcall
        go_wp2_with (go_at_fn g; refine (hcall _).mono ?_; rintro e w' ⟨rfl, rfl⟩)
        go_roundg (n - (k + 1))
        case measure => omega
        case rel => exact ⟨k + 1, by omega, by omega, by go_num, by rw [HT.out, HS.out, hq]; simp, hb.alloc hb.size _⟩
    · have : k = n := by omega
      subst this
      have HT := Lib.hid (List.take_of_length_le (Nat.le_of_eq h.len))
      go_wp2_with fail
      go_ret
      exact ⟨retI (by rw [HT.out]), hb⟩
end Go.Proofs.YtoilcdgpeilgaaaGreat
namespace Go.Proofs.YtoilcdgpeilgaaaGreat
open Go.RowKit Go.Shelf
def dueOf (l : List Entry) : Int := sumBy (fun _ => true) l
theorem all_any (k : Int) (w : World) : Calls Tryz.prog 181 #[.int .i64 k] w fun e w' => e = .returned (.bool true) ∧ w = w' := by
  go_enter Tryz.func181, Tryz.ntmps181
  go_wp2
  go_ret
  exact ⟨rfl, rfl⟩
theorem Due_any (A : Option Addr) (n cap : Nat) (l : List Entry) (w : World) (h : Sl entryC 3 w All A n cap l) (hs : Small l) :
    Calls Tryz.prog 99 #[.slice A n cap] w fun e w' => e = .returned (.int .i64 (dueOf l)) ∧ Below w.heap.size w w' := by
  go_enter Tryz.func99, Tryz.ntmps99
  go_wp2_with (go_at_call 180; refine (Sum_any A n cap l 181 #[] (fun _ => true) _ h hs (enters_of Tryz.func181 (by kernel_rfl) rfl) (fun k w => by simpa using all_any k w)).mono ?_; rintro e w' ⟨rfl, hb⟩)
  go_ret
  exact ⟨rfl, hb⟩
set_option maxHeartbeats 1000000 in
theorem Clone_entry (A : Option Addr) (n cap : Nat) (l : List Entry) (w : World) (h : Sl entryC 3 w All A n cap l) (hn : n ≤ 1000000000) :
    Calls Tryz.prog 196 #[.slice A n cap] w fun e w' => ∃ v xs, e = .returned v ∧ Own entryC 3 57 w' w.heap.size v l xs ∧ Below w.heap.size w w' := by
  have hnil := fun (W : World) (a : Option Addr) => Lib.run_eql_slice_nil (P := Tryz.prog) W 35 57 a n cap 0 0 Tryz.underlying35
  rcases A with _ | a
  · have hl : l = [] := by
      rcases l with _ | ⟨x, l⟩
      · rfl
      · obtain ⟨b, off, cs, hA, _⟩ := h.rd 0 x rfl
        cases hA
    subst hl
    go_enter Tryz.func196, Tryz.ntmps196
    go_wp2
    go_ret
    exact ⟨_, _, rfl, Own.nil _ _ _ _ _, Below.refl _ _⟩
  · go_enter Tryz.func196, Tryz.ntmps196
    go_wp2_with (at_builtin; refine list_app (t := 35) (e := 57) (bytes := 24) rfl (.tmp 5) (.tmp 6) rfl entry_elem entryC_good rfl (Own.made w entryC 3 57 w.heap.size #[] 0 (Nat.le_refl _) (by simp [maxLen]) rfl) rfl (h.below entryC_good (by omega) ((Below.refl _ _).alloc (Nat.le_refl _) _)) (fun _ _ hc => hc) (by simp; omega) (by omega) (by simp) ?_; intro v' w' xs' hown hg _)
    go_ret
    exact ⟨_, _, rfl, hown, below_app (Below.alloc (Below.refl _ _) (Nat.le_refl _) _) (Own.made w entryC 3 57 w.heap.size #[] 0 (Nat.le_refl _) (by simp [maxLen]) rfl) hg (by simp)⟩
end Go.Proofs.YtoilcdgpeilgaaaGreat
namespace Go.Proofs.YtoilcdgpeilgaaaGreat
open Go.RowKit Go.Shelf
attribute [local go_sem] Oper.semAt_some
def pref (l : List Entry) (k : Nat) : List Int := (List.range k).map fun j => dueOf (l.take (j + 1))
theorem pref_succ (l : List Entry) (k : Nat) : pref l (k + 1) = pref l k ++ [dueOf (l.take (k + 1))] := by simp [pref, List.range_succ]
theorem pref_length (l : List Entry) (k : Nat) : (pref l k).length = k := by simp [pref]
theorem dueOf_snoc (l : List Entry) (x : Entry) : dueOf (l ++ [x]) = dueOf l + x.amount := by simp [dueOf, sumBy_snoc]
theorem sums_any (A : Option Addr) (n cap : Nat) (w : World) :
    Calls Tryz.prog 199 #[.slice A n cap] w fun e w' => e = .returned (.func (.func 241) #[] #[.pointer (some ⟨w.heap.size, 0, none⟩)]) ∧ w.alloc (.cells #[.slice A n cap] 35) = w' := by
  go_enter Tryz.func199, Tryz.ntmps199
  go_wp2
  go_ret
  exact ⟨rfl, rfl⟩
set_option maxRecDepth 100000 in
set_option maxHeartbeats 2000000 in
theorem sums1_in (F : Fence) (m : Nat) (hF : F.fn 241) (hro : F.round = none) (hm : 1 ≤ m) (l Bs n₀ : Nat) (A : Option Addr) (n cap : Nat) (es : List Entry) (hs : Small es) (J Jx : List Int → World → Prop)
    (W : World) (hn₀ : n₀ ≤ W.heap.size) (hJ : AbidesFrom W.heap.size J)
    (hY : ∀ pre x W1, J pre W1 → pre.length < n → YieldAt F (m - 1) Tryz.prog l #[.int .i64 x] W1 fun e W' =>
      (e = .returned (.bool true) ∧ J (pre ++ [x]) W' ∧ Below n₀ W1 W') ∨ (e = .returned (.bool false) ∧ Jx (pre ++ [x]) W'))
    (hBs : W.cell? ⟨Bs, 0, none⟩ = some (.slice A n cap)) (hc : Sl entryC 3 W (fun b => b < n₀) A n cap es) (h0 : J [] W) :
    CallsIn F m Tryz.prog 241 #[.func (.yield l) #[] #[], .pointer (some ⟨Bs, 0, none⟩)] W fun e W' => (∃ v, e = .returned v) ∧
      ((∃ ys, ys = pref es n ∧ J ys W') ∨ (∃ pre, (∃ k, k < n ∧ pre = pref es (k + 1)) ∧ Jx pre W')) := by
  have hbd := hc.bd
  refine callsIn_of_wp Tryz.func241 rfl hF ?_ hro
  simp only [Tryz.ntmps241, List.size_toArray, List.length_cons, List.length_nil, Nat.reduceAdd, Nat.reduceSub, Array.replicate_succ, Array.replicate_zero, List.push_toArray, List.append_toArray, List.nil_append, List.cons_append]
  gi_wp2
  gi_loopw [3, 8] (fun s i wr => ∃ k : Nat, k ≤ n ∧ i = .int .i64 k ∧ s = .int .i64 (dueOf (es.take k)) ∧ J (pref es k) wr ∧ Below n₀ W wr)
    (fun _ i _ => n - (intOf i).toNat)
  case atStart => exact ⟨0, Nat.zero_le _, rfl, rfl, h0, Below.refl _ _⟩
  case round =>
    obtain ⟨k, hk, rfl, rfl, hJs, hnx⟩ := hrel
    by_cases hlt : k < n
    · obtain ⟨b, off, x, c0, c1, c2, rfl, hx, ⟨hc0, b0, b1, b2⟩, g0, g1, g2⟩ := (hc.keep (w' := wr) (S' := All) entryC_good (by omega) (fun b hS hl => ⟨hnx.block b hS, trivial⟩)).at3 hlt
      simp only [List.cons.injEq, and_true] at hc0
      obtain ⟨rfl, rfl, rfl⟩ := hc0
      have hJ2 : J (pref es k) (wr.alloc (.cells #[.int .i64 x.day, .int .i64 x.kind, .int .i64 x.amount] 57)) := hJ _ wr _ none hJs (World.grownBy_alloc _ _ _) (by simp)
      have HD := Lib.hid ((congrArg dueOf (take_snoc hx)).trans (dueOf_snoc (es.take k) x))
      have s1 := hs.take k (fun _ => true)
      have s1' : -10000000000000 ≤ dueOf (es.take k) ∧ dueOf (es.take k) ≤ 10000000000000 := s1
      have s3 := hs.2 x (List.mem_of_getElem? hx)
      have HP := Lib.hid (pref_succ es k)
      obtain ⟨fn, tmps, assign, body, hy, hR⟩ := hY _ (dueOf (es.take k) + x.amount) _ hJ2 (by rw [pref_length]; exact hlt)
      clear hx s1
      gi_wp2
      refine hR.mono ?_
      rintro e W3 (⟨rfl, hJ3, hk3⟩ | ⟨rfl, hJx3⟩)
      · gi_wp2
        go_roundw
        case rel => exact ⟨k + 1, by omega, by simp, by rw [HD.out], by rw [HP.out, HD.out]; exact hJ3, (hnx.alloc (Nat.le_trans hn₀ hnx.size) _).trans hk3⟩
        case measure => simp [intOf]; omega
      · gi_wp2
        refine bodyPost_ret (results_none rfl _ _ _) rfl ?_
        exact ⟨⟨_, rfl⟩, .inr ⟨_, ⟨k, hlt, rfl⟩, by rw [HP.out, HD.out]; exact hJx3⟩⟩
    · obtain rfl : k = n := by omega
      gi_wp2
      go_end0
      exact ⟨⟨_, rfl⟩, .inl ⟨_, rfl, hJs⟩⟩
theorem sums_stops (F : Fence) (m : Nat) (hF : F.fn 241) (hro : F.round = none) (hm : 1 ≤ m) (Bs n₀ : Nat) (A : Option Addr) (n cap : Nat) (es : List Entry) (hs : Small es) (w : World) (hn₀ : n₀ ≤ w.heap.size)
    (hBs : w.cell? ⟨Bs, 0, none⟩ = some (.slice A n cap)) (hc : Sl entryC 3 w (fun b => b < n₀) A n cap es) :
    SeqStopsK F m Tryz.prog 241 #[.pointer (some ⟨Bs, 0, none⟩)] (fun x : Int => #[Value.int .i64 x]) (Below n₀) (fun ys => ys = pref es n) (fun pre => ∃ k, k < n ∧ pre = pref es (k + 1)) n w := fun l J Jx W hW hJ _ hY h0 => by
  have hlt : Bs < w.heap.size := cell_lt hBs
  exact sums1_in F m hF hro hm l Bs n₀ A n cap es hs J Jx W (Nat.le_trans hn₀ hW.size) hJ hY ((hW.cell (p := ⟨Bs, 0, none⟩) hlt).trans hBs)
    (hc.keep entryC_good (by omega) (fun b hS hl => ⟨hW.block b hl, hS⟩)) h0
end Go.Proofs.YtoilcdgpeilgaaaGreat
namespace Go.Proofs.YtoilcdgpeilgaaaGreat
open Go.RowKit Go.Shelf
attribute [local go_sem] Oper.semAt_some
def errAt (l : List Entry) (i : Nat) : Int :=
  if entryE (l[i]?.getD default) ≠ 0 then entryE (l[i]?.getD default) else
  if 0 < i ∧ (l[i]?.getD default).day < (l[i - 1]?.getD default).day then 4 else 0
def sumErr (l : List Entry) (i : Nat) : Int := if amountB (dueOf (l.take (i + 1))) then 0 else 3
def checkFolio (l : List Entry) : Int :=
  if 12 < l.length then 2 else
  if firstErr (errAt l) l.length ≠ 0 then firstErr (errAt l) l.length else firstErr (sumErr l) l.length
theorem leavesM_ret {F : Fence} {n : Nat} {P : Program} {fn : Func} {R : Ending → World → Prop} {a : Act} {w : World} {v : Value} (hd : a.defers = []) (hr : (results fn a.tmps).run P w = .ok v w) (h : R (.returned v) w) :
    bodyPostM F n P fn R .ret a w := by
  show LeavesInM F n P fn a.tmps R a.defers .returning w
  rw [hd]
  exact ⟨v, hr, h⟩
theorem cell_new_l (w : World) (v : Value) (t : TypeId) : (w.alloc (.cells #[v] t)).cell? ⟨w.heap.size, 0, none⟩ = some v ∧ (w.alloc (.cells #[v] t)).frozen? ⟨w.heap.size, 0, none⟩ = false := by
  constructor <;> simp
theorem amountB_of_entry {x : Entry} (h : entryE x = 0) : -100000000 ≤ x.amount ∧ x.amount ≤ 100000000 := by
  unfold entryE at h
  by_cases h1 : x.kind < 1 ∨ 4 < x.kind
  · rw [if_pos h1] at h; omega
  · rw [if_neg h1] at h
    by_cases h2 : x.day < 0 ∨ 9999 < x.day ∨ x.amount < -100000000 ∨ 100000000 < x.amount
    · rw [if_pos h2] at h; omega
    · omega
theorem small_of_check {l : List Entry} (hl : l.length ≤ 12) (h : firstErr (errAt l) l.length = 0) : Small l := by
  refine ⟨by omega, fun x hx => ?_⟩
  obtain ⟨i, hi, rfl⟩ := List.getElem_of_mem hx
  have hall : ∀ n, firstErr (errAt l) n = 0 → ∀ i, i < n → errAt l i = 0 := by
    intro n
    induction n with
    | zero => intro _ i hi; omega
    | succ n ih =>
      intro h i hi
      simp only [firstErr] at h
      by_cases e : firstErr (errAt l) n = 0
      · rw [if_pos e] at h
        by_cases e2 : i = n
        · rw [e2]; exact h
        · exact ih e i (by omega)
      · rw [if_neg e] at h; exact absurd h e
  have h0 := hall _ h i hi
  have : entryE (l[i]?.getD default) = 0 := by
    unfold errAt at h0
    by_cases e : entryE (l[i]?.getD default) = 0
    · exact e
    · rw [if_pos e] at h0; exact h0
  rw [List.getElem?_eq_getElem hi, Option.getD_some] at this
  have := amountB_of_entry this
  omega
theorem Sl.lastBlock {w : World} {A : Option Addr} {n cap : Nat} {l : List Entry} (h : Sl entryC 3 w All A n cap l) : Sl entryC 3 w (fun b => b < w.heap.size) A n cap l :=
  h.keep entryC_good (by omega) fun _ _ hlt => ⟨rfl, hlt⟩
theorem sums_ok (l : List Entry) : ∀ k, (∀ s ∈ pref l k, amountB s = true) → firstErr (sumErr l) k = 0 := by
  intro k
  induction k with
  | zero => intro _; rfl
  | succ k ih =>
    intro h
    rw [pref_succ] at h
    rw [firstErr_succ (ih fun s hs => h s (by simp [hs]))]
    unfold sumErr
    rw [h _ (by simp)]
    rfl
theorem checkFolio_sums {l : List Entry} (h : ¬ 12 < l.length) (h1 : firstErr (errAt l) l.length = 0) : checkFolio l = firstErr (sumErr l) l.length := by
  unfold checkFolio
  rw [if_neg h, if_neg (by rw [h1]; simp)]
set_option maxRecDepth 100000 in
set_option maxHeartbeats 4000000 in
theorem Check_any (A : Option Addr) (n cap : Nat) (l : List Entry) (w : World) (h : Sl entryC 3 w All A n cap l) :
    Calls Tryz.prog 117 #[.slice A n cap] w fun e w' => e = .returned (.int .i64 (checkFolio l)) ∧ Below w.heap.size w w' := by
  have hbd := h.bd
  have hlen := Lib.hid h.len
  refine callsIn_wide.1 (callsIn_of_wp_marks (n := 9) Tryz.func117 rfl trivial ?_ rfl)
  simp only [Tryz.ntmps117, List.size_toArray, List.length_cons, List.length_nil, Nat.reduceAdd, Nat.reduceSub, Array.replicate_succ, Array.replicate_zero, List.push_toArray, List.append_toArray, List.nil_append, List.cons_append]
  refine wpIn_wide.2 ?_
  by_cases hn : 12 < n
  · have hn' : (12 : Int) < (n : Int) := by omega
    go_wp2_with fail
    refine leavesM_ret rfl (v := .int .i64 2) (by simp [results, Tryz.f117, go_sem]) ⟨retI ?_, ?_⟩
    · unfold checkFolio; rw [hlen.out, if_pos hn]
    · exact ((Below.refl _ _).alloc (Nat.le_refl _) _)
  · have hn' : ¬ (12 : Int) < (n : Int) := by omega
    go_wp2_with fail
    go_loopg [12] n (fun gk i wr => ∃ k : Nat, k ≤ n ∧ n - k ≤ gk ∧ i = .int .i64 k ∧ Aside (firstErr (errAt l) k = 0) ∧ Below w.heap.size w wr ∧ w.heap.size < wr.heap.size ∧ wr.cell? ⟨w.heap.size, 0, none⟩ = some (.int .i64 0) ∧ wr.frozen? ⟨w.heap.size, 0, none⟩ = false)
    case atStart => exact ⟨0, Nat.zero_le _, by omega, rfl, rfl, (Below.refl _ _).alloc (Nat.le_refl _) _, by simp, by simp, by simp⟩
    case round =>
      obtain ⟨k, hk, hgk, rfl, HE, hb, hlt0, hc0, hf0⟩ := hrel
      by_cases hlt : k < n
      · obtain ⟨b, off, x, c0, c1, c2, rfl, hx, ⟨hc, b0, b1, b2⟩, g0, g1, g2⟩ := (h.below entryC_good (by omega) hb).at3 hlt
        simp only [List.cons.injEq, and_true] at hc
        obtain ⟨rfl, rfl, rfl⟩ := hc
        have HX := Lib.hid hx
        clear hx
        go_wp2_with fail
        refine (entry_any _ _ _ _).mono ?_
        rintro e w1 ⟨rfl, hbe⟩
        have hc1 : w1.cell? ⟨w.heap.size, 0, none⟩ = some (.int .i64 0) := (hbe.cell (p := ⟨w.heap.size, 0, none⟩) (by simp; omega)).trans (by rw [World.cell?_alloc_lt (a := ⟨w.heap.size, 0, none⟩) wr _ hlt0]; exact hc0)
        have hf1 : w1.frozen? ⟨w.heap.size, 0, none⟩ = false := (hbe.frozen (p := ⟨w.heap.size, 0, none⟩) (by simp; omega)).trans (by rw [World.frozen?_alloc_old (a := ⟨w.heap.size, 0, none⟩) wr _ (by simp; omega)]; exact hf0)
        have hx1 : w1.cell? ⟨wr.heap.size, 0, none⟩ = some (.int .i64 x.day) := (hbe.cell (p := ⟨wr.heap.size, 0, none⟩) (by simp)).trans (by simp)
        have hb1 : Below w.heap.size w w1 := (hb.alloc hb.size _).trans (hbe.mono (by simp; omega))
        have hlt1 : w.heap.size < w1.heap.size := by have := hbe.size; simp at this; omega
        clear hbe hc0 hf0 g0 g1 g2
        obtain ⟨r, hr⟩ : ∃ r, r = entryE x := ⟨_, rfl⟩
        have HR := Lib.hid hr
        have hr' : entryE { day := x.day, kind := x.kind, amount := x.amount } = r := hr.symm
        rw [hr']
        clear hr hr'
        have fin : ∀ r : Int, errAt l k = r → r ≠ 0 → r = checkFolio l := fun r h1 h2 => by
          unfold checkFolio
          rw [hlen.out, if_neg hn]
          have := firstErr_at (n := n) HE.out (by rw [h1]; exact h2) hlt
          rw [this, h1, if_pos h2]
        have Fin := Lib.hid fin
        clear fin
        by_cases hr0 : r = 0
        · subst hr0
          have herr : (∀ y, l[k - 1]? = some y → 0 < k → errAt l k = if x.day < y.day then 4 else 0) := fun y hy h0 => by
            unfold errAt
            rw [HX.out, Option.getD_some, ← HR.out, if_neg (by simp), hy, Option.getD_some]
            by_cases e : x.day < y.day
            · rw [if_pos ⟨h0, e⟩, if_pos e]
            · rw [if_neg (fun h => e h.2), if_neg e]
          have herr0 : k = 0 → errAt l k = 0 := fun h0 => by
            unfold errAt
            rw [HX.out, Option.getD_some, ← HR.out, if_neg (by simp), if_neg (by omega)]
          have Herr := Lib.hid herr
          have Herr0 := Lib.hid herr0
          clear herr herr0
          rcases k with _ | k
          · go_wp2_with fail
            go_quiet (fail)
            go_wp2_with fail
            go_roundg (n - 1)
            case measure => omega
            case rel => exact ⟨1, by omega, by omega, rfl, (show Aside _ from (firstErr_succ HE.out).trans (Herr0.out (by trivial))), below_drewN hb1 _, hlt1, hc1, hf1⟩
          · obtain ⟨b2, off2, y, d0, d1, d2, hA2, hy, ⟨hc2, y0, y1, y2⟩, e0, e1, e2⟩ := (h.below entryC_good (by omega) hb1).at3 (show k < n by omega)
            injection hA2 with hA2
            injection hA2 with hb2 ho2 _
            subst hb2 ho2
            simp only [List.cons.injEq, and_true] at hc2
            obtain ⟨rfl, rfl, rfl⟩ := hc2
            have Hy := Lib.hid hy
            clear hy e1 e2
            have hw : IntKind.i64.wrap (k : Int) = k := IntWalk.i64_in _ (by omega)
            have hgt : decide ((0 : Int) < (k : Int) + 1) = true := decide_eq_true (by omega)
            by_cases hd : x.day < y.day
            · go_wp2_with fail
              go_quiet (fail)
              go_wp2_with fail
              refine leavesM_ret rfl (v := .int .i64 4) (by simp [results, Tryz.f117, go_sem, World.cell?_setCell_same (w := w1.drewN _) (h := hc1)]) ⟨retI (Fin.out _ ?_ (by omega)), ?_⟩
              · rw [Herr.out y (by simpa using Hy.out) (by omega), if_pos hd]
              · exact (below_drewN hb1 _).setCell (p := ⟨w.heap.size, 0, none⟩) (Nat.le_refl _) _
            · go_wp2_with fail
              go_quiet (fail)
              go_wp2_with fail
              go_roundg (n - (k + 1 + 1))
              case measure => omega
              case rel => exact ⟨k + 1 + 1, by omega, by omega, by go_num, (show Aside _ from (firstErr_succ HE.out).trans (by rw [Herr.out y (by simpa using Hy.out) (by omega), if_neg (by omega)])), below_drewN hb1 _, hlt1, hc1, hf1⟩
        · have hr1 : (r != 0) = true := by simpa using hr0
          have hr2 : ¬ r = 0 := hr0
          clear hr0
          go_wp2_with fail
          refine leavesM_ret rfl (v := .int .i64 r) (by simp [results, Tryz.f117, go_sem, World.cell?_setCell_same (h := hc1)]) ⟨retI (Fin.out _ ?_ hr2), ?_⟩
          · unfold errAt
            rw [HX.out, Option.getD_some, ← HR.out, if_pos hr2]
          · exact hb1.setCell (p := ⟨w.heap.size, 0, none⟩) (Nat.le_refl _) _
      · obtain rfl : k = n := by omega
        have hsm := small_of_check (l := l) (by rw [hlen.out]; omega) (by rw [hlen.out]; exact HE.out)
        have h1 := h.lastBlock
        go_wp2_with (go_at_call 199; refine (sums_any _ _ _ _).mono ?_; rintro e w' ⟨rfl, rfl⟩)
        have hB0 : Below w.heap.size w (wr.alloc (.cells #[.slice A k cap] 35)) := hb.alloc hb.size _
        have c2 := cell_new_l wr (.slice A k cap) 35
        have hsl := (h.below entryC_good (by omega) hb).lastBlock.keep (w' := wr.alloc (.cells #[.slice A k cap] 35)) (S' := fun b => b < wr.heap.size) entryC_good (by omega) (fun b hS _ => ⟨Below.heap_alloc _ _ _ hS, hS⟩)
        refine (wpIn_wide (n := 9)).1 ?_
        refine wpIn_rangeFunc_ownF rfl (by omega) (gf := 241) (lb := #[.pointer (some ⟨wr.heap.size, 0, none⟩)]) rfl trivial (enters_of Tryz.func241 (by kernel_rfl) rfl)
          (sums_stops Fence.wide 8 trivial rfl (by omega) wr.heap.size wr.heap.size A k cap l hsm _ (by simp) c2.1 hsl) belowK_t (belowK_b (by simp)) (Below.refl _ _) (fun _ => rfl)
          (fun pre W => ((∀ s ∈ pre, amountB s = true) ∧ W.cell? ⟨w.heap.size, 0, none⟩ = some (.int .i64 0) ∧ W.frozen? ⟨w.heap.size, 0, none⟩ = false) ∧ Below w.heap.size w W)
          (fun c pre W => (c = .ret ∧ (∃ p s, pre = p ++ [s] ∧ (∀ q ∈ p, amountB q = true) ∧ amountB s = false) ∧ W.cell? ⟨w.heap.size, 0, none⟩ = some (.int .i64 3)) ∧ Below w.heap.size w W)
          (OwnFrom.and (Go.Own.from (fun s A B row hs hg hr => ⟨hs.1, cell_kept hs.2.1 hg hr, (frozen_kept hs.2.1 hg hr).trans hs.2.2⟩) _) (ownFrom_below (Nat.le_refl _) (by simp; omega)))
          (fun c => OwnFrom.and (Go.Own.from (fun s A B row hs hg hr => ⟨hs.1, hs.2.1, cell_kept hs.2.2 hg hr⟩) _) (ownFrom_below (Nat.le_refl _) (by simp; omega)))
          ⟨⟨by simp, by rw [World.cell?_alloc_lt (a := ⟨w.heap.size, 0, none⟩) wr _ hlt0]; exact hc0, by rw [World.frozen?_alloc_old (a := ⟨w.heap.size, 0, none⟩) wr _ (by simp; omega)]; exact hf0⟩, hB0⟩
          ?a1 ?assign ?body ?done ?stop
        case assign =>
          intro l x W K hK
          gi_wp2
          exact hK
        case body =>
          rintro l pre x W ⟨⟨hp, hcr, hfr⟩, hB⟩ _
          cases hq : amountB x with
          | true =>
            have hq' := Lib.hid hq
            clear hq
            gi_wp2_with (refine ⟨trivial, ?_⟩; gi_at_call 200; refine (CallsIn.inRound l (callsIn_wide.2 (amount_any _ _))).mono ?_; rintro e w' ⟨rfl, rfl⟩; rw [hq'.out])
            exact ⟨KeepsOthers.refl _, Below.refl _ _, ⟨fun y hy => (List.mem_append.1 hy).elim (hp y) (fun e => by simp at e; subst e; exact hq'.out), hcr, hfr⟩, hB⟩
          | false =>
            have hq' := Lib.hid hq
            clear hq
            gi_wp2_with (refine ⟨trivial, ?_⟩; gi_at_call 200; refine (CallsIn.inRound l (callsIn_wide.2 (amount_any _ _))).mono ?_; rintro e w' ⟨rfl, rfl⟩; rw [hq'.out])
            exact ⟨KeepsOthers.setCell _ _ _, ⟨rfl, ⟨pre, x, rfl, hp, hq'.out⟩, World.cell?_setCell_same _ _ _ hcr⟩, hB.setCell (p := ⟨w.heap.size, 0, none⟩) (Nat.le_refl _) _⟩
        case done =>
          rintro D ys W hD rfl ⟨⟨hne, hcr, hfr⟩, hB⟩ hK
          have HN := Lib.hid hne
          clear hne
          go_wp2_with fail
          have hK' := (KeepsOthers.setCell W ⟨w.heap.size, 0, none⟩ (.int .i64 0)).same D _ hK rfl
          refine ⟨by simp, .inl ⟨_, _, rfl, run_takeDeferred hK', ?_⟩⟩
          have hc5 := cell_kept (World.cell?_setCell_same (v := .int .i64 0) (h := hcr)) (grownBy_putObj' _ D (.deferred none)) (fun r e => by cases e; exact ⟨_, hK', rfl⟩)
          refine ⟨.int .i64 0, ?_, retI ?_, (hB.setCell (p := ⟨w.heap.size, 0, none⟩) (Nat.le_refl _) _).trans (belowK_b (w := w) (Nat.le_refl _) _ D _ _ (by simp at hD; omega) hK' rfl rfl)⟩
          · simp [results, Tryz.f117, go_sem, hc5]
          · rw [checkFolio_sums (by rw [hlen.out]; exact hn) (by rw [hlen.out]; exact HE.out), hlen.out, sums_ok _ _ HN.out]
        case stop =>
          rintro D c pre W hD hpre ⟨⟨rfl, hin, hcr⟩, hB⟩ hK
          have HP := Lib.hid hpre
          have HI := Lib.hid hin
          clear hpre hin
          gi_wp2
          refine ⟨by simp, .inl ⟨_, _, rfl, run_takeDeferred hK, ?_⟩⟩
          have hc5 := cell_kept hcr (grownBy_putObj' _ D (.deferred none)) (fun r e => by cases e; exact ⟨_, hK, rfl⟩)
          refine ⟨.int .i64 3, ?_, retI ?_, hB.trans (belowK_b (w := w) (Nat.le_refl _) W D _ _ (by simp at hD; omega) hK rfl rfl)⟩
          · simp [results, Tryz.f117, go_sem, hc5]
          · rw [checkFolio_sums (by rw [hlen.out]; exact hn) (by rw [hlen.out]; exact HE.out), hlen.out]
            obtain ⟨j, hj, rfl⟩ := HP.out
            obtain ⟨p, s, he, hp, hs⟩ := HI.out
            rw [pref_succ] at he
            obtain ⟨he1, he2⟩ := List.append_inj' he rfl
            injection he2 with he2
            subst he1 he2
            have hj0 : sumErr l j = 3 := by unfold sumErr; rw [hs]; rfl
            rw [firstErr_at (sums_ok _ _ hp) (by rw [hj0]; omega) hj, hj0]
end Go.Proofs.YtoilcdgpeilgaaaGreat
namespace Go.Proofs.YtoilcdgpeilgaaaGreat
open Go.RowKit Go.Shelf
theorem check_len {l : List Entry} (h : checkFolio l = 0) : l.length ≤ 12 := by
  unfold checkFolio at h
  by_cases e : 12 < l.length
  · rw [if_pos e] at h; omega
  · omega
theorem check_small {l : List Entry} (h : checkFolio l = 0) : Small l := by
  have hl := check_len h
  refine small_of_check hl ?_
  unfold checkFolio at h
  rw [if_neg (by omega)] at h
  by_cases e : firstErr (errAt l) l.length = 0
  · exact e
  · rw [if_pos e] at h; exact absurd h e
end Go.Proofs.YtoilcdgpeilgaaaGreat
namespace Go.Proofs.YtoilcdgpeilgaaaGreat
open Go.RowKit Go.Shelf
theorem check_amounts {l : List Entry} (h : checkFolio l = 0) : ∀ x ∈ l, -100000000 ≤ x.amount ∧ x.amount ≤ 100000000 := by
  have hl := check_len h
  have h0 : firstErr (errAt l) l.length = 0 := by
    unfold checkFolio at h
    rw [if_neg (by omega)] at h
    by_cases e : firstErr (errAt l) l.length = 0
    · exact e
    · rw [if_pos e] at h; exact absurd h e
  have hall : ∀ n, firstErr (errAt l) n = 0 → ∀ i, i < n → errAt l i = 0 := by
    intro n
    induction n with
    | zero => intro _ i hi; omega
    | succ n ih =>
      intro h i hi
      simp only [firstErr] at h
      by_cases e : firstErr (errAt l) n = 0
      · rw [if_pos e] at h
        by_cases e2 : i = n
        · rw [e2]; exact h
        · exact ih e i (by omega)
      · rw [if_neg e] at h; exact absurd h e
  intro x hx
  obtain ⟨i, hi, rfl⟩ := List.getElem_of_mem hx
  have := hall _ h0 i hi
  unfold errAt at this
  have he : entryE (l[i]?.getD default) = 0 := by
    by_cases e : entryE (l[i]?.getD default) = 0
    · exact e
    · rw [if_pos e] at this; exact this
  rw [List.getElem?_eq_getElem hi, Option.getD_some] at he
  exact amountB_of_entry he
theorem sumBy_bd8 (p : Int → Bool) (l : List Entry) (h : ∀ x ∈ l, -100000000 ≤ x.amount ∧ x.amount ≤ 100000000) : -100000000 * (l.length : Int) ≤ sumBy p l ∧ sumBy p l ≤ 100000000 * (l.length : Int) := by
  induction l with
  | nil => simp [sumBy]
  | cons x l ih =>
    have h1 := h x (by simp)
    have h2 := ih fun y hy => h y (by simp [hy])
    simp only [sumBy, List.filter_cons] at h2 ⊢
    by_cases hp : p x.kind <;> simp [hp] <;> omega
theorem check_sum {l : List Entry} (h : checkFolio l = 0) (p : Int → Bool) : -1200000000 ≤ sumBy p l ∧ sumBy p l ≤ 1200000000 := by
  have := sumBy_bd8 p l (check_amounts h)
  have := check_len h
  omega
structure Puts (w : World) (O D : Nat) (d : Int) (l : List Entry) (W : World) (A : Option Addr) (n cap : Nat) (xs : List Value) : Prop where
  o : W.heap[O]? = some (.cells #[.slice A n cap] 35 (0, 0))
  d : W.heap[D]? = some (.cells #[.int .i64 d] 3 (0, 0))
  own : Own entryC 3 57 W w.heap.size (.slice A n cap) l xs
  ne : (Value.slice A n cap).ownBlock ≠ some O
  neD : (Value.slice A n cap).ownBlock ≠ some D
  od : O ≠ D
  b : Below w.heap.size w W
  le : w.heap.size ≤ O
  len : l.length ≤ 1000
theorem Puts.below {w W W' : World} {O D : Nat} {d : Int} {l : List Entry} {A : Option Addr} {n cap : Nat} {xs : List Value} (h : Puts w O D d l W A n cap xs) (hb : Below W.heap.size W W') : Puts w O D d l W' A n cap xs :=
  ⟨(hb.block O (lt_of_block h.o)).trans h.o, (hb.block D (lt_of_block h.d)).trans h.d, h.own.below entryC_good hb, h.ne, h.neD, h.od, h.b.trans (hb.mono h.b.size), h.le, h.len⟩
end Go.Proofs.YtoilcdgpeilgaaaGreat
namespace Go.Proofs.YtoilcdgpeilgaaaGreat
open Go.RowKit Go.Shelf
theorem entry_under : Tryz.prog.underlying 57 = some (.struct (Tryz.prog.fieldsOf 57)) := by kernel_rfl
theorem entry_stood : Tryz.prog.stoodInHeld 57 = false := by kernel_rfl
theorem entry_guard : Tryz.prog.eqGuardType Tryz.prog.depth 57 = false := by kernel_rfl
theorem neq_entry (a b c d e f : Int) (w : World) : (binOp .neq 57 (.agg #[.int .i64 a, .int .i64 b, .int .i64 c]) (.agg #[.int .i64 d, .int .i64 e, .int .i64 f])).run Tryz.prog w = .ok (.bool (!(a == d && b == e && c == f))) w := by
  have u3 := Tryz.underlying3
  have a3 := Tryz.isAgg3
  have z3 := Tryz.sizeOf3
  rw [run_neq_struct, run_equalIn_agg (P := Tryz.prog) w 9999 57 _ _ entry_under entry_stood]
  simp only [Program.fieldsOf, Tryz.underlying57]
  go_simp
  by_cases h1 : a = d <;> by_cases h2 : b = e <;> by_cases h3 : c = f <;> simp [h1, h2, h3]
theorem entry_ne {x y : Entry} (h : ¬ x = y) : (!(x.day == y.day && x.kind == y.kind && x.amount == y.amount)) = true := by
  rcases x with ⟨a, b, c⟩
  rcases y with ⟨d, e, f⟩
  simp at h ⊢
  omega
set_option maxHeartbeats 1000000 in
theorem SameFolio_any (A B : Option Addr) (n cap m cap2 : Nat) (l l2 : List Entry) (w : World) (h : Sl entryC 3 w All A n cap l) (h2 : Sl entryC 3 w All B m cap2 l2) :
    Calls Tryz.prog 72 #[.slice A n cap, .slice B m cap2] w fun e w' => e = .returned (.bool (decide (l = l2))) ∧ ∃ q, w' = w.drewN q := by
  have hbd := h.bd
  have hlen := Lib.hid h.len
  have hlen2 := Lib.hid h2.len
  by_cases hnm : n = m
  · subst hnm
    go_enter Tryz.func72, Tryz.ntmps72
    go_wp2_with fail
    go_loopg [5] n (fun gk i wr => ∃ k q : Nat, k ≤ n ∧ n - k ≤ gk ∧ i = .int .i64 k ∧ Aside (∀ j, j < k → l[j]? = l2[j]?) ∧ wr = w.drewN q)
    case atStart => exact ⟨0, 0, Nat.zero_le _, by omega, rfl, fun j hj => absurd hj (by omega), rfl⟩
    case round =>
      obtain ⟨k, q, hk, hgk, rfl, HE, rfl⟩ := hrel
      by_cases hlt : k < n
      · obtain ⟨b, off, x, c0, c1, c2, rfl, hx, ⟨hc, b0, b1, b2⟩, g0, g1, g2⟩ := h.at3 hlt
        simp only [List.cons.injEq, and_true] at hc
        obtain ⟨rfl, rfl, rfl⟩ := hc
        obtain ⟨b', off', y, d0, d1, d2, rfl, hy, ⟨hd, b0', b1', b2'⟩, g0', g1', g2'⟩ := h2.at3 hlt
        simp only [List.cons.injEq, and_true] at hd
        obtain ⟨rfl, rfl, rfl⟩ := hd
        have HX := Lib.hid hx
        have HY := Lib.hid hy
        clear hx hy
        have q1 := entry_guard
        have q2 := neq_entry
        by_cases hxy : x = y
        · have he : (!(x.day == y.day && x.kind == y.kind && x.amount == y.amount)) = false := by subst hxy; simp
          have HXY := Lib.hid hxy
          clear hxy
          go_wp2_with fail
          go_quiet (fail)
          go_wp2_with fail
          go_roundg (n - (k + 1))
          case measure => omega
          case rel =>
            refine ⟨k + 1, _, by omega, by omega, by go_num, (show Aside _ from fun j hj => ?_), rfl⟩
            by_cases e : j = k
            · subst e; rw [HX.out, HY.out, HXY.out]
            · exact HE.out j (by omega)
        · have he : (!(x.day == y.day && x.kind == y.kind && x.amount == y.amount)) = true := by
            exact entry_ne hxy
          have HXY := Lib.hid hxy
          clear hxy
          go_wp2_with fail
          go_quiet (fail)
          go_wp2_with fail
          go_ret
          refine ⟨retB ?_, _, World.drewN_drewN _ _ _⟩
          symm
          rw [decide_eq_false_iff_not]
          intro hll
          subst hll
          rw [HX.out] at HY
          exact HXY.out (by have := HY.out; injection this)
      · obtain rfl : k = n := by omega
        have hll : l = l2 := by
          apply List.ext_getElem?
          intro j
          by_cases hj : j < k
          · exact HE.out j hj
          · rw [List.getElem?_eq_none (by rw [hlen.out]; omega), List.getElem?_eq_none (by rw [hlen2.out]; omega)]
        have HLL := Lib.hid hll
        clear hll
        go_wp2_with fail
        go_ret
        exact ⟨retB (by rw [decide_eq_true HLL.out]), _, rfl⟩
  · have hnm' : ((n : Int) != (m : Int)) = true := by simp; omega
    have hll : ¬ l = l2 := fun e => hnm (by rw [← hlen.out, ← hlen2.out, e])
    have HLL := Lib.hid hll
    clear hll hnm
    go_enter Tryz.func72, Tryz.ntmps72
    go_wp2_with fail
    go_ret
    exact ⟨retB (by rw [decide_eq_false HLL.out]), 0, rfl⟩
end Go.Proofs.YtoilcdgpeilgaaaGreat
