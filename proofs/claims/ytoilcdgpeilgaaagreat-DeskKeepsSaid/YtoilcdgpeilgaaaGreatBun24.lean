/-
  Words, laws and contracts: Elem, StockZ, SellA, SellB.
-/
import Derived.Test.YtoilcdgpeilgaaaGreatBun22
import Derived.Deep.MidRow
import Derived.BigQuiet
set_option linter.unusedSimpArgs false
set_option linter.unusedVariables false
namespace Go.Proofs.YtoilcdgpeilgaaaGreat
open Go.RowKit Go.Shelf
theorem freshB {n : Nat} {a w : World} (_ : Below n a w) (cs : Array Value) (t : TypeId) : Blk (w.alloc (.cells cs t)) w.heap.size cs t := Blk.new w cs t
section
variable {α : Type} {c : Cod α} {size : Nat} {e : TypeId} {w w' : World} {base g n cap : Nat} {l : List α} {xs : List Value}
theorem Own.len (h : Own c size e w base (.slice (some ⟨g, 0, none⟩) n cap) l xs) : n = l.length := by
  rcases h.row.2 with ⟨hv, _⟩ | ⟨g', cap', cur, hv, _⟩
  · cases hv
  · injection hv
theorem idx_in {i L k s : Nat} (hi : i < L) (hk : k < s) : i * s + k < L * s := by
  have : (i + 1) * s ≤ L * s := Nat.mul_le_mul_right _ hi
  rw [Nat.add_mul] at this; omega
theorem idx_lt {i k s j : Nat} (hi : k < i) (hj : j < s) : k * s + j < i * s := by
  have : (k + 1) * s ≤ i * s := Nat.mul_le_mul_right _ hi
  rw [Nat.add_mul] at this; omega
theorem Own.range (h : Own c size e w base (.slice (some ⟨g, 0, none⟩) n cap) l xs) {i : Nat} {x : α} (hx : l[i]? = some x) :
    ∃ cs, c w (Beside base (.slice (some ⟨g, 0, none⟩) n cap)) x cs ∧ cs.length = size ∧ w.rangeAt g (i * size) cs ∧ w.there g (i * size) size := by
  obtain ⟨cs, h1, h2, h3, h4⟩ := h.cells hx
  refine ⟨cs, h1, h2, h3, fun j hj => ⟨?_, h4 _⟩⟩
  rw [h3 j _ (List.getElem?_eq_getElem (by omega))]; rfl
end
end Go.Proofs.YtoilcdgpeilgaaaGreat
namespace Go.Proofs.YtoilcdgpeilgaaaGreat
open Go.RowKit Go.Shelf
theorem freshG {n : Nat} {a w : World} (_ : Below n a w) (cs : Array Value) (t : TypeId) : ∀ g, g = w.heap.size → Blk (w.alloc (.cells cs t)) g cs t := fun g hg => by subst hg; exact Blk.new w cs t
theorem geOf {a w : World} (h : Below a.heap.size a w) : ∀ g, g = w.heap.size → a.heap.size ≤ g := fun g hg => by subst hg; exact h.size
theorem step_load_mid {P : Program} {ops : Array Oper} {op : Oper} {a : Act} {w : World} {K : Act → World → Prop} {Q : Exit → Act → World → Prop} {E : Prop} (hgd : op.guard = none) (ty : TypeId) (x : Operand) (ho : op.op = .load ty x)
    (b o : Nat) (hx : a.eval x = .pointer (some ⟨b, o, none⟩)) (cs : List Value) (d : TypeDesc) (hc : w.rangeAt b o cs) (hu : P.underlying ty = some d) (hd : d.isRow = true) (hi : (P.info? ty).map (·.size) = some cs.length)
    (h : K (a.put op.dst (.agg cs.toArray)) w) : if Region.wanted op (yielded ops a.tmps) = true then Oper.wp P op a w K Q else E := by
  rw [if_pos (by simp [Region.wanted, hgd])]
  exact wp_load_mid ty x ho b o hx cs d hc hu hd hi h
end Go.Proofs.YtoilcdgpeilgaaaGreat
namespace Go.Proofs.YtoilcdgpeilgaaaGreat
open Go.RowKit Go.Shelf
def lateB (x : Sai) (b : Bkg) : Bool := decide (x.leaves ≤ x.day) || (decide (b.state = 1) && (decide (b.til < x.day) || decide (x.leaves ≤ b.til)))
def catS (x : Sai) (b : Bkg) : Int := if b.kind = 1 then (x.ship.cabs.getD b.cab.toNat default).cat else b.cat
def priceS (x : Sai) (b : Bkg) : Int := ofV x.fares (catS x b) ⟨b.frm, b.upto⟩ b.gst
def soldB (x : Sai) (b : Bkg) : Bkg := { b with fol := [⟨x.day, 1, priceS x b⟩] }
def put0 (x : Sai) (b : Bkg) : Bool := lateB x b || (decide (b.kind = 2) && x.closed)
noncomputable def putE (x : Sai) (b : Bkg) : Int := if put0 x b = true then 4 else if hasId x.bks b.id = true then 6 else if x.bks.length = 16 then 2 else roomE (withS x (soldB x b))
theorem cat_sold {x : Sai} {b : Bkg} (hs : OkShp x.ship) (hb : OkBk x.ship b) : 0 ≤ catS x b ∧ catS x b < x.ship.cats.length := by
  unfold catS
  by_cases h1 : b.kind = 1
  · rw [if_pos h1]
    have h := hb.kindE
    unfold kindE at h
    rw [if_neg (by omega)] at h
    unfold namedE at h
    by_cases h4 : betB b.cab 0 ((x.ship.cabs.length : Int) - 1) = false
    · rw [if_pos h4] at h; omega
    have h5 := betB_iff.1 (not_false_of h4)
    have h6 := cab_ok hs (k := b.cab.toNat) (by omega)
    exact ⟨h6.1, h6.2.1⟩
  · rw [if_neg h1]
    have hk := betB_iff.1 hb.kind
    have h := hb.kindE
    unfold kindE at h
    rw [if_pos (by omega)] at h
    unfold promE at h
    by_cases h2 : betB b.cat 0 ((x.ship.cats.length : Int) - 1) = false
    · rw [if_pos h2] at h; omega
    have h5 := betB_iff.1 (not_false_of h2)
    exact ⟨h5.1, by omega⟩
theorem price_sold {x : Sai} {b : Bkg} (hf : FareOk x.fares x.ship.cats.length x.ship.legs) (hs : OkShp x.ship) (hb : OkBk x.ship b) :
    ∃ (k f t : Nat) (L : List Int), catS x b = k ∧ b.frm = f ∧ b.upto = t ∧ x.fares.leg[k]? = some L ∧ f < t ∧ t ≤ L.length ∧ L.length ≤ 7 ∧ (∀ v ∈ L, 0 ≤ v ∧ v ≤ 100000) ∧ priceS x b = paysV x.fares (seg L f t).sum b.gst := by
  obtain ⟨c0, c1⟩ := cat_sold hs hb
  obtain ⟨s0, s1, s2⟩ := bk_span hs hb
  obtain ⟨k, hk⟩ := Int.eq_ofNat_of_zero_le c0
  obtain ⟨f, hf1⟩ := Int.eq_ofNat_of_zero_le s0
  obtain ⟨t, ht1⟩ := Int.eq_ofNat_of_zero_le (show 0 ≤ b.upto by omega)
  have hkl : k < x.fares.leg.length := by have := hf.len; omega
  have hL := List.getElem?_eq_getElem hkl
  have hLm := List.mem_of_getElem? hL
  have hlen := hf.lens _ hLm
  have hmr := hf.mr
  refine ⟨k, f, t, _, hk, hf1, ht1, hL, by omega, by omega, by omega, hf.leg _ hLm, ?_⟩
  unfold priceS ofV
  rw [hk, hf1, ht1]
  simp only [Int.toNat_natCast, hL, Option.getD_some]
theorem price_bd {x : Sai} {b : Bkg} (hf : FareOk x.fares x.ship.cats.length x.ship.legs) (hs : OkShp x.ship) (hb : OkBk x.ship b) : 0 ≤ priceS x b ∧ priceS x b ≤ 100000000 := by
  obtain ⟨k, f, t, L, e1, e2, e3, e4, e5, e6, e7, e8, e9⟩ := price_sold hf hs hb
  rw [e9]
  have hm : ∀ v ∈ seg L f t, 0 ≤ v ∧ v ≤ ((100000 : Nat) : Int) := fun v hv => e8 v (by
    unfold seg at hv
    first | exact List.mem_of_mem_drop (List.mem_of_mem_take hv) | exact List.mem_of_mem_take (List.mem_of_mem_drop hv))
  have hl : (seg L f t).length ≤ 7 := by unfold seg; simp only [List.length_take, List.length_drop]; omega
  obtain ⟨s0, s1⟩ := sum_bd hm
  have s2 : (seg L f t).sum ≤ 700000 := by
    have : (seg L f t).length * 100000 ≤ 7 * 100000 := Nat.mul_le_mul_right _ hl
    omega
  obtain ⟨a0, a1⟩ := hf.a
  obtain ⟨t0, t1⟩ := hf.t
  have p1 := partV_bd s0 (by omega) a0 a1
  have p2 := partV_bd s0 (by omega) t0 (show x.fares.third ≤ 200 by omega)
  have hg := hb.gst
  unfold paysV
  rcases (show b.gst = 1 ∨ b.gst = 2 ∨ b.gst = 3 ∨ b.gst = 4 by omega) with h | h | h | h <;> rw [h]
  · rw [if_pos rfl]; omega
  · rw [if_neg (by decide)]; omega
  · rw [if_neg (by decide)]; omega
  · rw [if_neg (by decide)]; omega
theorem sold_fol {d p : Int} (hd : betB d 0 9999 = true) (hp : 0 ≤ p ∧ p ≤ 100000000) : checkFolio [⟨d, 1, p⟩] = 0 := by
  have e := betB_iff.1 hd
  have h1 : entryE ⟨d, 1, p⟩ = 0 := by
    unfold entryE
    rw [if_neg (by simp only; omega), if_neg (by simp only; omega), if_neg (by simp only; omega)]
  have h2 : errAt [⟨d, 1, p⟩] 0 = 0 := by
    unfold errAt
    simp [h1]
  have h3 : sumErr [⟨d, 1, p⟩] 0 = 0 := by
    unfold sumErr amountB dueOf sumBy
    simp
    omega
  unfold checkFolio
  simp [firstErr, h2, h3]
theorem sold_ok {x : Sai} {b : Bkg} (ho : OkSai x) (hb : OkBk x.ship b) : OkBk x.ship (soldB x b) :=
  ⟨hb.kind, hb.state, hb.id, hb.gst, hb.span, hb.kindE, hb.til, hb.opt, sold_fol ho.day (price_bd (fare_ok ho.fares) ho.bs.ship hb)⟩
theorem bkgO_keepTy {w w' : World} {S : Nat → Prop} {z : Nat} {zs : Array Value} {t : TypeId} {x : Bkg} {cs : List Value} (h : bkgO w S x cs) (hZ : Blk w z zs t) (ht : t ≠ 57) (hk : Kept (fun k => k = z) w w') : bkgO w' S x cs := by
  obtain ⟨v, rfl, ⟨xs, hO, hS⟩, hI⟩ := h
  exact ⟨v, rfl, ⟨xs, hO.keepB entryC_flat2 (fun k hk2 => hk.block k (hO.lt k hk2).2 (fun e => hO.neTy hZ ht (by rw [hk2, e]))), hS⟩, hI⟩
theorem SaiW.keepZ {w0 : World} {b0 : Nat} {w w' : World} {base : Nat} {x : Sai} {p : SaiV} {z : Nat} {zs : Array Value} {t : TypeId} (h : SaiW w0 b0 w base x p) (hZ : Blk w z zs t) (h1 : t ≠ 57) (h2 : t ≠ 37) (hz : w0.heap.size ≤ z)
    (hk : Kept (fun k => k = z) w w') : SaiW w0 b0 w' base x p := by
  obtain ⟨a1, a2, a3, a4, a5, xs, a6⟩ := h
  have hv := a6.neTy hZ h2
  refine ⟨a1, a2, Nat.le_trans a3 hk.size, fun k hk0 hkl => (hk.block k (by omega) (by omega)).trans (a4 k hk0 hkl), a5, xs, ⟨⟨a6.row.1, ?_⟩, fun i y hy => ?_⟩⟩
  · rcases a6.row.2 with h0 | ⟨g, cap, cur, hv', hb, hgg, r⟩
    · exact .inl h0
    · exact .inr ⟨g, cap, cur, hv', hb, (hk.block g (Array.getElem?_eq_some_iff.1 hgg).1 (fun e => hv (by rw [hv', e]; rfl))).trans hgg, r⟩
  · obtain ⟨cs, hc, r⟩ := a6.el i y hy
    exact ⟨cs, bkgO_keepTy hc hZ h1 hk, r⟩
theorem SaiW.bel {w0 : World} {b0 : Nat} {w w' : World} {base : Nat} {x : Sai} {p : SaiV} (h : SaiW w0 b0 w base x p) (hb : Below w.heap.size w w') : SaiW w0 b0 w' base x p := by
  obtain ⟨a1, a2, a3, a4, a5, xs, a6⟩ := h
  exact ⟨a1, a2, Nat.le_trans a3 hb.size, fun k hk0 hkl => (hb.block k (by omega)).trans (a4 k hk0 hkl), a5, xs, a6.bel hb⟩
theorem SaiW.sai {w0 : World} {b0 : Nat} {w : World} {base : Nat} {x : Sai} {p : SaiV} (h : SaiW w0 b0 w base x p) : SaiR w x p := SaiO.sai ⟨w0, b0, h⟩
set_option maxRecDepth 100000 in
set_option maxHeartbeats 8000000 in
theorem late_any (x : Sai) (b : Bkg) (v : Value) (z : Nat) (w : World) (h9 : w.cell? ⟨z, 9, none⟩ = some (.int .i64 x.day)) (h10 : w.cell? ⟨z, 10, none⟩ = some (.int .i64 x.leaves)) :
    Calls Tryz.prog 231 #[.pointer (some ⟨z, 0, none⟩), .agg (bkgA b v)] w fun e w' => e = .returned (.bool (lateB x b)) ∧ Below w.heap.size w w' := by
  obtain ⟨id, kind, state, gst, lev, cab, cat, frm, upto, til, fol⟩ := b
  obtain ⟨r, hr⟩ : ∃ r, r = lateB x ⟨id, kind, state, gst, lev, cab, cat, frm, upto, til, fol⟩ := ⟨_, rfl⟩
  rw [← hr]
  have HR := Lib.hid (show r = (decide (x.leaves ≤ x.day) || (decide (state = 1) && (decide (til < x.day) || decide (x.leaves ≤ til)))) from hr)
  clear hr
  go_enter Tryz.func231, Tryz.ntmps231
  go_upto_region 0 with (fail)
  go_cut [3, 4] (fun p _ wx => ∃ h, p = .pointer (some ⟨h, 0, none⟩) ∧ Blk wx h (bkgA ⟨id, kind, state, gst, lev, cab, cat, frm, upto, til, fol⟩ v) 37 ∧ Below w.heap.size w wx)
  case first => as_aux_lemma =>
    go_wp2_with fail
    go_meet
    exact ⟨_, rfl, blk1 _ _, bel1 _ _⟩
  obtain ⟨h, rfl, hH, hb⟩ := hcut
  replace h9 := cellB hb h9
  replace h10 := cellB hb h10
  have h2 : wc.cell? ⟨h, 2, none⟩ = some (.int .i64 state) := hH.cell rfl
  have h3 : wc.cell? ⟨h, 9, none⟩ = some (.int .i64 til) := hH.cell rfl
  clear hH
  go_upto_region 1 with (fail)
  by_cases q1 : x.leaves ≤ x.day
  · obtain rfl : r = true := by rw [HR.out, decide_eq_true q1]; rfl
    have d1 : decide (x.leaves ≤ x.day) = true := decide_eq_true q1
    clear q1
    go_quiet (fail)
    go_wp2_with fail
    go_ret
    exact ⟨rfl, below_drewN hb _⟩
  have d1 : decide (x.leaves ≤ x.day) = false := decide_eq_false q1
  by_cases q2 : state = 1
  rotate_left
  · obtain rfl : r = false := by rw [HR.out, d1, decide_eq_false q2]; rfl
    have d2 : (state == 1) = false := by simpa using q2
    clear q1 q2
    go_quiet (fail)
    go_wp2_with fail
    go_ret
    exact ⟨rfl, below_drewN hb _⟩
  subst q2
  by_cases q3 : til < x.day
  · obtain rfl : r = true := by rw [HR.out, d1, decide_eq_true q3]; rfl
    have d3 : decide (til < x.day) = true := decide_eq_true q3
    clear q1 q3
    go_quiet (fail)
    go_wp2_with fail
    go_ret
    exact ⟨rfl, below_drewN hb _⟩
  have d3 : decide (til < x.day) = false := decide_eq_false q3
  obtain ⟨u, hu⟩ : ∃ u, decide (x.leaves ≤ til) = u := ⟨_, rfl⟩
  obtain rfl : r = u := by rw [HR.out, d1, d3, hu]; simp
  clear q1 q3
  go_quiet (fail)
  go_wp2_with fail
  go_ret
  exact ⟨rfl, below_drewN hb _⟩
end Go.Proofs.YtoilcdgpeilgaaaGreat
namespace Go.Proofs.YtoilcdgpeilgaaaGreat
open Go.RowKit Go.Shelf
theorem ids_of {x : Sai} (ho : OkSai x) : ∀ b ∈ x.bks, 1 ≤ b.id ∧ b.id ≤ 999999 := fun b hb => betB_iff.1 (ho.bs.bk b hb).id
theorem sl_entryS {w : World} {e : Nat} {a b c : Int} (h : Blk w e #[.int .i64 a, .int .i64 b, .int .i64 c] 57) (ha : InI a) (hb : InI b) (hc : InI c) : Sl entryC 3 w All (some ⟨e, 0, none⟩) 1 1 [⟨a, b, c⟩] :=
  Sl.ofBlk (c := entryC) (size := 3) h ([⟨a, b, c⟩] : List Entry) (by simp) trivial fun i x hx => by
    rcases i with _ | i
    · simp at hx; subst hx; exact ⟨[.int .i64 a, .int .i64 b, .int .i64 c], ⟨rfl, ha, hb, hc⟩, rfl, fun j u hu => by simpa using hu⟩
    · simp at hx
def IfOK (r : Int) (P : Prop) : Prop := r = 0 → P
theorem mem_ins {l : List Bkg} {b c : Bkg} (h : c ∈ insS l b) : c = b ∨ c ∈ l := by
  unfold insS at h
  rcases List.mem_append.1 h with h | h
  · exact .inr (List.mem_of_mem_take h)
  · rcases List.mem_cons.1 h with h | h
    · exact .inl h
    · exact .inr (List.mem_of_mem_drop h)
theorem len_ins (l : List Bkg) (b : Bkg) : (insS l b).length = l.length + 1 := by
  unfold insS
  have : posI l b.id ≤ l.length := List.findIdx_le_length
  rw [List.length_append, List.length_cons, List.length_take, List.length_drop]; omega
theorem ofE_fol {x : Shp} {b : Bkg} {f : List Entry} (h : checkFolio b.fol = 0) (h2 : checkFolio f = 0) : ofE x { b with fol := f } = ofE x b := by
  unfold ofE kindE promE namedE
  rw [h, h2]
  rfl
set_option maxRecDepth 100000 in
set_option maxHeartbeats 16000000 in
theorem sput_any (w0 : World) (b0 : Nat) (x : Sai) (p : SaiV) (b : Bkg) (A3 : Option Addr) (n3 c3 : Nat) (base z : Nat) (w : World) (hO : SaiW w0 b0 w base x p) (hbs : base ≤ w.heap.size) (hZ : Blk w z (saiA x p) 216) (hz0 : w0.heap.size ≤ z) (ho : OkSai x)
    (hI : BkIn b) (hk : OkBk x.ship b) :
    Calls Tryz.prog 166 #[.pointer (some ⟨z, 0, none⟩), .agg (bkgA b (.slice A3 n3 c3))] w fun e w' => e = .returned (.int .i64 (putE x b)) ∧ IfOK (putE x b) (∃ p', Blk w' z (saiA (withS x (soldB x b)) p') 216 ∧ SaiW w0 b0 w' base (withS x (soldB x b)) p') ∧ Below base w w' := by
  obtain ⟨A, n, cap, B, m, cap2, D, nd, cd, E, ne, ce, C, nb, cb⟩ := p
  have HPL := Lib.hid (fun X hl => Place_any x ⟨A, n, cap, B, m, cap2, D, nd, cd, E, ne, ce, C, nb, cb⟩ b.id X hl (rise_of ho.bs.rise) (ids_of ho) ho.bs.len hI.id)
  have HLT := Lib.hid (fun v X h9 h10 => late_any x b v z X h9 h10)
  obtain ⟨k, f, t, L, e1, e2, e3, e4, e5, e6, e7, e8, e9⟩ := price_sold (fare_ok ho.fares) ho.bs.ship hk
  have hfok := fare_ok ho.fares
  have HOF := Lib.hid (fun X hF => Of_any D nd cd x.fares E ne ce k f t b.gst L X hF e4 e5 e6 e7 e8 hfok.a hfok.t hk.gst)
  rw [← e9] at HOF
  have hpl := price_bd hfok ho.bs.ship hk
  have hday := betB_iff.1 ho.day
  have HWI := Lib.hid (fun q W h1 h2 hf => stockWithW_any w0 b0 x ⟨A, n, cap, B, m, cap2, D, nd, cd, E, ne, ce, C, nb, cb⟩ (soldB x b) (some ⟨q, 0, none⟩) 1 1 base W h1 h2 (rise_of ho.bs.rise) (ids_of ho) ho.bs.len hf (by omega) ⟨hI.id, hI.kind, hI.state, hI.gst, hI.cab, hI.cat, hI.frm, hI.upto, hI.til⟩ (betB_iff.1 hk.id))
  have hok2 : ∀ c ∈ insS x.bks (soldB x b), OkBk x.ship c := fun c hc => by
    rcases mem_ins hc with rfl | hc
    · exact sold_ok ho hk
    · exact ho.bs.bk c hc
  have hps := ho.bs.len
  have HRM := Lib.hid (fun p W (h : SaiR W (withS x (soldB x b)) p) (h16 : x.bks.length ≠ 16) => Room_any (withS x (soldB x b)) p W h ho.bs.ship hok2 (by rw [show (withS x (soldB x b)).bks = insS x.bks (soldB x b) from rfl, len_ins]; omega))
  have hkind : b.kind = 1 → 0 ≤ b.cab ∧ b.cab.toNat < m := fun h1 => by
    have h := hk.kindE
    unfold kindE at h
    rw [if_neg (by omega)] at h
    unfold namedE at h
    by_cases h4 : betB b.cab 0 ((x.ship.cabs.length : Int) - 1) = false
    · rw [if_pos h4] at h; omega
    have h5 := betB_iff.1 (not_false_of h4)
    have := hO.sai.cabs.len
    simp only at this
    omega
  obtain ⟨r, hr⟩ : ∃ r, r = putE x b := ⟨_, rfl⟩
  obtain ⟨lb, hlb⟩ : ∃ r, r = lateB x b := ⟨_, rfl⟩
  obtain ⟨hi, hhi⟩ : ∃ r, r = hasId x.bks b.id := ⟨_, rfl⟩
  obtain ⟨rm, hrm⟩ : ∃ r, r = roomE (withS x (soldB x b)) := ⟨_, rfl⟩
  obtain ⟨tv, htv⟩ : ∃ r, r = put0 x b := ⟨_, rfl⟩
  obtain ⟨pr, hpr⟩ : ∃ r, r = priceS x b := ⟨_, rfl⟩
  obtain ⟨ct, hct⟩ : ∃ r, r = catS x b := ⟨_, rfl⟩
  obtain ⟨fb, hfb⟩ : ∃ r, r = soldB x b := ⟨_, rfl⟩
  have hnb : x.bks.length = nb := hO.sai.bks.len
  have HR := Lib.hid (show r = if tv = true then 4 else if hi = true then 6 else if nb = 16 then 2 else rm by rw [hr, htv, hhi, hrm, ← hnb]; rfl)
  have HTV := Lib.hid (show tv = (lb || (decide (b.kind = 2) && x.closed)) by rw [htv, hlb]; rfl)
  rw [← hlb] at HLT
  rw [← hhi] at HPL
  rw [← hpr] at HOF hpl
  rw [← hct] at e1
  rw [← hfb] at HWI HRM hrm
  rw [← hrm] at HRM
  rw [← hr, ← hfb]
  have HFB := Lib.hid (show ∀ v, bkgA fb v = #[.int .i64 b.id, .int .i64 b.kind, .int .i64 b.state, .int .i64 b.gst, .bool b.lev, .int .i64 b.cab, .int .i64 b.cat, .int .i64 b.frm, .int .i64 b.upto, .int .i64 b.til, v] by intro v; rw [hfb]; rfl)
  have HFF := Lib.hid (show fb.fol = [⟨x.day, 1, pr⟩] by rw [hfb, hpr]; rfl)
  have HCT := Lib.hid hct
  have HNB := Lib.hid hnb
  clear hr hlb hhi hrm htv hpr hfb hok2 e9 hps hct
  subst e1
  have HOS := Lib.hid hO
  have hsai := hO.sai
  have HSR := Lib.hid hsai
  have HSM := Lib.hid (show m = x.ship.cabs.length from hsai.cabs.len.symm)
  have hmb := hsai.cabs.bd
  simp only at hmb
  have hcm := hsai.cabs.le
  simp only at hcm
  obtain ⟨id, kind, state, gst, lev, cab, cat, frm, upto, til, fol⟩ := b
  simp only at e2 e3 HOF HTV HFB hkind HLT HPL
  subst e2 e3
  have hkk := betB_iff.1 hk.kind
  simp only at hkk
  have HKK := Lib.hid hkk
  clear hkk
  have HKIND := Lib.hid hkind
  clear hkind
  have HDAY := Lib.hid hday
  have HPRB := Lib.hid hpl
  clear hk hI e4 e5 e6 e7 e8 hO hsai hday hpl hnb ho hfok
  go_enter Tryz.func166, Tryz.ntmps166
  go_upto_region 0 with (fail)
  go_cut [3, 4] (fun p _ wx => ∃ h, p = .pointer (some ⟨h, 0, none⟩) ∧ w.heap.size ≤ h ∧ Blk wx h (bkgA ⟨id, kind, state, gst, lev, cab, cat, (f : Int), (t : Int), til, fol⟩ (.slice A3 n3 c3)) 37 ∧ Below w.heap.size w wx)
  case first => as_aux_lemma =>
    go_wp2_with fail
    go_meet
    exact ⟨_, rfl, Nat.le_refl _, blk1 _ _, bel1 _ _⟩
  obtain ⟨h, rfl, hh, hH, hb0⟩ := hcut
  obtain ⟨W1, hW1⟩ : ∃ V, V = wc := ⟨_, rfl⟩
  subst hW1
  have hzl := hZ.lt
  have hzh : z ≠ h := by omega
  have HZ := Lib.hid (fun X (hX : Below W1.heap.size W1 X) => (hZ.bel hb0).bel hX)
  have HH := Lib.hid (fun X (hX : Below W1.heap.size W1 X) => hH.bel hX)
  have HT := Lib.hid (fun X (hX : Below W1.heap.size W1 X) => hb0.trans (hX.mono hb0.size))
  have HBB := Lib.hid (fun X (hX : Below W1.heap.size W1 X) => (hb0.trans (hX.mono hb0.size)).mono hbs)
  have HSX := Lib.hid (show ∀ w', Below W1.heap.size W1 w' → ((w'.cell? ⟨z, 0, none⟩ = some (.int .i64 x.ship.legs) ∧ w'.cell? ⟨z, 1, none⟩ = some (.int .i64 x.ship.souls) ∧ w'.cell? ⟨z, 2, none⟩ = some (.slice A n cap) ∧ w'.cell? ⟨z, 3, none⟩ = some (.slice B m cap2) ∧ w'.cell? ⟨z, 4, none⟩ = some (.slice D nd cd) ∧ w'.cell? ⟨z, 5, none⟩ = some (.int .i64 x.fares.alone) ∧ w'.cell? ⟨z, 6, none⟩ = some (.int .i64 x.fares.third) ∧ w'.cell? ⟨z, 7, none⟩ = some (.slice E ne ce) ∧ w'.cell? ⟨z, 8, none⟩ = some (.int .i64 x.fares.down) ∧ w'.cell? ⟨z, 9, none⟩ = some (.int .i64 x.day) ∧ w'.cell? ⟨z, 10, none⟩ = some (.int .i64 x.leaves) ∧ w'.cell? ⟨z, 11, none⟩ = some (.slice C nb cb) ∧ w'.cell? ⟨z, 12, none⟩ = some (.bool x.closed)) ∧ (w'.cell? ⟨h, 0, none⟩ = some (.int .i64 id) ∧ w'.cell? ⟨h, 1, none⟩ = some (.int .i64 kind) ∧ w'.cell? ⟨h, 2, none⟩ = some (.int .i64 state) ∧ w'.cell? ⟨h, 3, none⟩ = some (.int .i64 gst) ∧ w'.cell? ⟨h, 4, none⟩ = some (.bool lev) ∧ w'.cell? ⟨h, 5, none⟩ = some (.int .i64 cab) ∧ w'.cell? ⟨h, 6, none⟩ = some (.int .i64 cat) ∧ w'.cell? ⟨h, 7, none⟩ = some (.int .i64 (f : Int)) ∧ w'.cell? ⟨h, 8, none⟩ = some (.int .i64 (t : Int)) ∧ w'.cell? ⟨h, 9, none⟩ = some (.int .i64 til))) from fun w' hX => ⟨(fun hX => (⟨(HZ.out _ hX).cell rfl, (HZ.out _ hX).cell rfl, (HZ.out _ hX).cell rfl, (HZ.out _ hX).cell rfl, (HZ.out _ hX).cell rfl, (HZ.out _ hX).cell rfl, (HZ.out _ hX).cell rfl, (HZ.out _ hX).cell rfl, (HZ.out _ hX).cell rfl, (HZ.out _ hX).cell rfl, (HZ.out _ hX).cell rfl, (HZ.out _ hX).cell rfl, (HZ.out _ hX).cell rfl⟩)) hX, (HH.out _ hX).cell rfl, (HH.out _ hX).cell rfl, (HH.out _ hX).cell rfl, (HH.out _ hX).cell rfl, (HH.out _ hX).cell rfl, (HH.out _ hX).cell rfl, (HH.out _ hX).cell rfl, (HH.out _ hX).cell rfl, (HH.out _ hX).cell rfl, (HH.out _ hX).cell rfl⟩)
  have hs1 := hb0.size
  have hb : Below W1.heap.size W1 W1 := Below.refl _ _
  clear hH hb0
  go_upto_region 1 with (fail)
  go_cut [22] (fun p wx => p = .bool tv ∧ Below W1.heap.size W1 wx)
  case first => as_aux_lemma =>
    have HC := Lib.hid (HLT.out (.slice A3 n3 c3) W1 ((HZ.out _ hb).cell rfl) ((HZ.out _ hb).cell rfl))
    go_wp2_with (refine wpList_load_row rfl 37 (.tmp 3) rfl h rfl 37 _ (0, 0) _ (HH.out _ hb) Tryz.underlying37 rfl (by kernel_rfl) ?_)
    refine HC.out.mono ?_
    rintro e w2 ⟨rfl, hb1⟩
    have h1 : w2.cell? ⟨h, 1, none⟩ = some (.int .i64 kind) := (HH.out _ hb1).cell rfl
    have z12 : w2.cell? ⟨z, 12, none⟩ = some (.bool x.closed) := (HZ.out _ hb1).cell rfl
    cases lb
    · by_cases q1 : kind = 2
      · obtain rfl : tv = x.closed := by rw [HTV.out, decide_eq_true q1]; simp
        subst q1
        go_wp2_with fail
        go_meet
        exact ⟨rfl, hb1⟩
      · obtain rfl : tv = false := by rw [HTV.out, decide_eq_false q1]; rfl
        have q2 : (kind == 2) = false := by simpa using q1
        clear q1
        go_wp2_with fail
        go_meet
        exact ⟨rfl, hb1⟩
    · obtain rfl : tv = true := by rw [HTV.out]; rfl
      go_wp2_with fail
      go_meet
      exact ⟨rfl, hb1⟩
  obtain ⟨rfl, hb1⟩ := hcut
  replace hb := hb.trans (hb1.mono hb.size)
  clear hb1 HLT
  cases tv
  rotate_left
  · obtain rfl : r = 4 := by rw [HR.out]; rfl
    go_wp2_with fail
    go_ret
    exact ⟨rfl, fun h => absurd h (by decide), HBB.out _ hb⟩
  obtain ⟨W2, hW2⟩ : ∃ V, V = wc := ⟨_, rfl⟩
  subst hW2
  go_upto_region 3 with (fail)
  have hbx : Below W1.heap.size W1 W2.drew := hb.drew
  refine wp_region_held_drew (S := (fun w' => (w'.cell? ⟨z, 0, none⟩ = some (.int .i64 x.ship.legs) ∧ w'.cell? ⟨z, 1, none⟩ = some (.int .i64 x.ship.souls) ∧ w'.cell? ⟨z, 2, none⟩ = some (.slice A n cap) ∧ w'.cell? ⟨z, 3, none⟩ = some (.slice B m cap2) ∧ w'.cell? ⟨z, 4, none⟩ = some (.slice D nd cd) ∧ w'.cell? ⟨z, 5, none⟩ = some (.int .i64 x.fares.alone) ∧ w'.cell? ⟨z, 6, none⟩ = some (.int .i64 x.fares.third) ∧ w'.cell? ⟨z, 7, none⟩ = some (.slice E ne ce) ∧ w'.cell? ⟨z, 8, none⟩ = some (.int .i64 x.fares.down) ∧ w'.cell? ⟨z, 9, none⟩ = some (.int .i64 x.day) ∧ w'.cell? ⟨z, 10, none⟩ = some (.int .i64 x.leaves) ∧ w'.cell? ⟨z, 11, none⟩ = some (.slice C nb cb) ∧ w'.cell? ⟨z, 12, none⟩ = some (.bool x.closed)) ∧ (w'.cell? ⟨h, 0, none⟩ = some (.int .i64 id) ∧ w'.cell? ⟨h, 1, none⟩ = some (.int .i64 kind) ∧ w'.cell? ⟨h, 2, none⟩ = some (.int .i64 state) ∧ w'.cell? ⟨h, 3, none⟩ = some (.int .i64 gst) ∧ w'.cell? ⟨h, 4, none⟩ = some (.bool lev) ∧ w'.cell? ⟨h, 5, none⟩ = some (.int .i64 cab) ∧ w'.cell? ⟨h, 6, none⟩ = some (.int .i64 cat) ∧ w'.cell? ⟨h, 7, none⟩ = some (.int .i64 (f : Int)) ∧ w'.cell? ⟨h, 8, none⟩ = some (.int .i64 (t : Int)) ∧ w'.cell? ⟨h, 9, none⟩ = some (.int .i64 til)))) (by kernel_rfl) (HSX.out _ hbx) (fun hHeld => ?_)
  refine wpAnyH_take (i := 0) (v := ?v1) (gA rfl) (by kernel_rfl) (by kernel_rfl) (by kernel_rfl) (fun _ _ _ h => h) (Or.inl ⟨rfl, ?y1⟩) (by assumption) ?_
  case y1 => (intro w hSw; (try dsimp only at hSw); go_simp <;> with_reducible rfl)
  simp only [Act.put, List.setIfInBounds_toArray, List.set_cons_zero, List.set_cons_succ]
  refine wpAnyH_take (i := 1) (v := ?v2) (gA rfl) (by kernel_rfl) (by kernel_rfl) (by kernel_rfl) (fun _ _ _ h => h) (Or.inl ⟨rfl, ?y2⟩) (by assumption) ?_
  case y2 => (intro w hSw; (try dsimp only at hSw); go_simp <;> with_reducible rfl)
  simp only [Act.put, List.setIfInBounds_toArray, List.set_cons_zero, List.set_cons_succ]
  refine wpAnyH_take (i := 2) (v := ?v3) (gA rfl) (by kernel_rfl) (by kernel_rfl) (by kernel_rfl) (fun _ _ _ h => h) (Or.inl ⟨rfl, ?y3⟩) (by assumption) ?_
  case y3 => (intro w hSw; (try dsimp only at hSw); go_simp <;> with_reducible rfl)
  simp only [Act.put, List.setIfInBounds_toArray, List.set_cons_zero, List.set_cons_succ]
  refine wpAnyH_take (i := 3) (v := ?v4) (gA rfl) (by kernel_rfl) (by kernel_rfl) (by kernel_rfl) (fun _ _ _ h => h) (Or.inl ⟨rfl, ?y4⟩) (by assumption) ?_
  case y4 => (intro w hSw; (try dsimp only at hSw); go_simp <;> with_reducible rfl)
  simp only [Act.put, List.setIfInBounds_toArray, List.set_cons_zero, List.set_cons_succ]
  refine wpAnyH_take (i := 4) (v := ?v5) (gA rfl) (by kernel_rfl) (by kernel_rfl) (by kernel_rfl) (fun _ _ _ h => h) (Or.inl ⟨rfl, ?y5⟩) (by assumption) ?_
  case y5 => (intro w hSw; (try dsimp only at hSw); go_simp <;> with_reducible rfl)
  simp only [Act.put, List.setIfInBounds_toArray, List.set_cons_zero, List.set_cons_succ]
  refine wpAnyH_take (i := 5) (v := ?v6) (gA rfl) (by kernel_rfl) (by kernel_rfl) (by kernel_rfl) (fun _ _ _ h => h) (Or.inl ⟨rfl, ?y6⟩) (by assumption) ?_
  case y6 => (intro w hSw; (try dsimp only at hSw); go_simp <;> with_reducible rfl)
  simp only [Act.put, List.setIfInBounds_toArray, List.set_cons_zero, List.set_cons_succ]
  refine wpAnyH_ready (rs := [6]) (by kernel_rfl) (by simp) (AllReadyH.cons (gA rfl) (fun K hK => ?_) AllReadyH.nil)
  go_simp
  (go_at_call 164; refine (HPL.out _ (HSR.out.bel (HT.out _ hbx)).bks).mono ?_; rintro e w3 ⟨i, rfl, _, _, hb3⟩; replace hbx := hbx.trans (hb3.mono hbx.size); clear hb3)
  go_wp2_with fail
  refine hK.out _ _ ?_ (fun hHeld => ?_)
  · exact HSX.out _ hbx
  clear hK K
  try simp only [Act.put, List.setIfInBounds_toArray, List.set_cons_zero, List.set_cons_succ]
  refine wpAnyH_take (i := 7) (v := ?v8) (gA rfl) (by kernel_rfl) (by kernel_rfl) (by kernel_rfl) (fun _ _ _ h => h) (Or.inl ⟨rfl, ?y8⟩) (by assumption) ?_
  case y8 => (intro w hSw; (try dsimp only at hSw); go_simp <;> with_reducible rfl)
  simp only [Act.put, List.setIfInBounds_toArray, List.set_cons_zero, List.set_cons_succ]
  refine wpAnyH_take (i := 8) (v := ?v9) (gA rfl) (by kernel_rfl) (by kernel_rfl) (by kernel_rfl) (fun _ _ _ h => h) (Or.inl ⟨rfl, ?y9⟩) (by assumption) ?_
  case y9 => (intro w hSw; (try dsimp only at hSw); go_simp <;> with_reducible rfl)
  simp only [Act.put, List.setIfInBounds_toArray, List.set_cons_zero, List.set_cons_succ]
  refine wpAnyH_take (i := 9) (v := ?v10) (gA rfl) (by kernel_rfl) (by kernel_rfl) (by kernel_rfl) (fun _ _ _ h => h) (Or.inl ⟨rfl, ?y10⟩) (by assumption) ?_
  case y10 => (intro w hSw; (try dsimp only at hSw); go_simp <;> with_reducible rfl)
  simp only [Act.put, List.setIfInBounds_toArray, List.set_cons_zero, List.set_cons_succ]
  refine wpAnyH_take (i := 10) (v := ?v11) (gA rfl) (by kernel_rfl) (by kernel_rfl) (by kernel_rfl) (fun _ _ _ h => h) (Or.inl ⟨rfl, ?y11⟩) (by assumption) ?_
  case y11 => (intro w hSw; (try dsimp only at hSw); go_simp <;> with_reducible rfl)
  simp only [Act.put, List.setIfInBounds_toArray, List.set_cons_zero, List.set_cons_succ]
  refine wpAnyH_take (i := 11) (v := ?v12) (gA rfl) (by kernel_rfl) (by kernel_rfl) (by kernel_rfl) (fun _ _ _ h => h) (Or.inl ⟨rfl, ?y12⟩) (by assumption) ?_
  case y12 => (intro w hSw; (try dsimp only at hSw); go_simp <;> with_reducible rfl)
  simp only [Act.put, List.setIfInBounds_toArray, List.set_cons_zero, List.set_cons_succ]
  refine wpAnyH_done (by kernel_rfl) ?_ _
  clear hb
  cases hi
  rotate_left
  · obtain rfl : r = 6 := by rw [HR.out]; rfl
    go_wp2_with fail
    go_ret
    exact ⟨rfl, fun h => absurd h (by decide), HBB.out _ hbx⟩
  have z11 : w3.cell? ⟨z, 11, none⟩ = some (.slice C nb cb) := (HZ.out _ hbx).cell rfl
  by_cases hn16 : nb = 16
  · obtain rfl : r = 2 := by rw [HR.out]; simp [hn16]
    subst hn16
    go_wp2_with fail
    go_ret
    exact ⟨rfl, fun h => absurd h (by decide), HBB.out _ hbx⟩
  have HRR := Lib.hid (show r = rm by rw [HR.out]; simp [hn16])
  have hn16' : ((nb : Int) == 16) = false := by simp; omega
  have HN16 := Lib.hid hn16
  have h6 : w3.cell? ⟨h, 6, none⟩ = some (.int .i64 cat) := (HH.out _ hbx).cell rfl
  have h1 : w3.cell? ⟨h, 1, none⟩ = some (.int .i64 kind) := (HH.out _ hbx).cell rfl
  clear hn16
  go_upto_if 45 with (fail)
  obtain ⟨W3, hW3⟩ : ∃ V, V = w3 := ⟨_, rfl⟩
  subst hW3
  go_cut [7] (fun p wx => p = .int .i64 (k : Int) ∧ Below W3.heap.size W3 wx)
  case first => as_aux_lemma =>
    by_cases q1 : kind = 1
    · obtain ⟨c0, cl⟩ := HKIND.out q1
      obtain ⟨cn, rfl⟩ : ∃ j : Nat, cab = j := ⟨cab.toNat, by omega⟩
      have hlt : cn < m := by omega
      obtain ⟨ab, off, nm, ctt, ber, lv, rfl, hget, y0, y1, y2, y3⟩ := ((HSR.out.bel (HT.out _ hbx)).cabs).cab hlt
      have hce : (k : Int) = ctt := by
        rw [HCT.out]
        unfold catS
        rw [if_pos q1]
        simp only [Int.toNat_natCast, hget]
      have HCE := Lib.hid hce
      have z3 : W3.cell? ⟨z, 3, none⟩ = some (.slice (some ⟨ab, off, none⟩) m cap2) := (HZ.out _ hbx).cell rfl
      have h5 : W3.cell? ⟨h, 5, none⟩ = some (.int .i64 (cn : Int)) := (HH.out _ hbx).cell rfl
      have q2 : (0 : Int) ≤ (cn : Int) := by omega
      have q3 : (cn : Int) < (m : Int) := by omega
      subst q1
      clear hce hget cl c0
      go_upto_region 10 with (fail)
      go_quiet (fail)
      go_wp2_with fail
      go_meet
      exact ⟨by rw [HCE.out], below_drewN (Below.refl _ _) _⟩
    · have hce : (k : Int) = cat := by
        rw [HCT.out]
        unfold catS
        rw [if_neg q1]
      have HCE := Lib.hid hce
      clear hce
      have q2 : (kind == 1) = false := by simpa using q1
      clear q1
      go_wp2_with fail
      go_meet
      exact ⟨by rw [HCE.out], Below.refl _ _⟩
  obtain ⟨rfl, hb3⟩ := hcut
  have hb := hbx.trans (hb3.mono hbx.size)
  clear hbx hb3 z11 h6 h1
  obtain ⟨W4, hW4⟩ : ∃ V, V = wc := ⟨_, rfl⟩
  subst hW4
  go_upto_region 11 with (fail)
  go_cut [3] (fun p wx => p = .pointer (some ⟨h, 0, none⟩) ∧ ∃ q, Blk wx h (bkgA fb (.slice (some ⟨q, 0, none⟩) 1 1)) 37 ∧ Blk wx q #[.int .i64 x.day, .int .i64 1, .int .i64 pr] 57 ∧ q ≠ h ∧ Kept (fun k => k = h) W4 wx)
  case first =>
    have hbx : Below W1.heap.size W1 W4.drew := hb.drew
    have hKx : Kept (fun k => k = h) W4 W4.drew := (Kept.refl _ _).drew
    refine wp_region_held_drew (S := (fun w' => (w'.cell? ⟨z, 0, none⟩ = some (.int .i64 x.ship.legs) ∧ w'.cell? ⟨z, 1, none⟩ = some (.int .i64 x.ship.souls) ∧ w'.cell? ⟨z, 2, none⟩ = some (.slice A n cap) ∧ w'.cell? ⟨z, 3, none⟩ = some (.slice B m cap2) ∧ w'.cell? ⟨z, 4, none⟩ = some (.slice D nd cd) ∧ w'.cell? ⟨z, 5, none⟩ = some (.int .i64 x.fares.alone) ∧ w'.cell? ⟨z, 6, none⟩ = some (.int .i64 x.fares.third) ∧ w'.cell? ⟨z, 7, none⟩ = some (.slice E ne ce) ∧ w'.cell? ⟨z, 8, none⟩ = some (.int .i64 x.fares.down) ∧ w'.cell? ⟨z, 9, none⟩ = some (.int .i64 x.day) ∧ w'.cell? ⟨z, 10, none⟩ = some (.int .i64 x.leaves) ∧ w'.cell? ⟨z, 11, none⟩ = some (.slice C nb cb) ∧ w'.cell? ⟨z, 12, none⟩ = some (.bool x.closed)) ∧ (w'.cell? ⟨h, 0, none⟩ = some (.int .i64 id) ∧ w'.cell? ⟨h, 1, none⟩ = some (.int .i64 kind) ∧ w'.cell? ⟨h, 2, none⟩ = some (.int .i64 state) ∧ w'.cell? ⟨h, 3, none⟩ = some (.int .i64 gst) ∧ w'.cell? ⟨h, 4, none⟩ = some (.bool lev) ∧ w'.cell? ⟨h, 5, none⟩ = some (.int .i64 cab) ∧ w'.cell? ⟨h, 6, none⟩ = some (.int .i64 cat) ∧ w'.cell? ⟨h, 7, none⟩ = some (.int .i64 (f : Int)) ∧ w'.cell? ⟨h, 8, none⟩ = some (.int .i64 (t : Int)) ∧ w'.cell? ⟨h, 9, none⟩ = some (.int .i64 til)))) (by kernel_rfl) (HSX.out _ hbx) (fun hHeld => ?_)
    refine wpAnyH_take (i := 0) (v := ?v13) (gA rfl) (by kernel_rfl) (by kernel_rfl) (by kernel_rfl) (fun _ _ _ h => h) (Or.inl ⟨rfl, ?y13⟩) (by assumption) ?_
    case y13 => (intro w hSw; (try dsimp only at hSw); go_simp <;> with_reducible rfl)
    simp only [Act.put, List.setIfInBounds_toArray, List.set_cons_zero, List.set_cons_succ]
    refine wpAnyH_take (i := 1) (v := ?v14) (gA rfl) (by kernel_rfl) (by kernel_rfl) (by kernel_rfl) (fun _ _ _ h => h) (Or.inl ⟨rfl, ?y14⟩) (by assumption) ?_
    case y14 => (intro w hSw; (try dsimp only at hSw); go_simp <;> with_reducible rfl)
    simp only [Act.put, List.setIfInBounds_toArray, List.set_cons_zero, List.set_cons_succ]
    refine wpAnyH_take (i := 2) (v := ?v15) (gA rfl) (by kernel_rfl) (by kernel_rfl) (by kernel_rfl) (fun _ _ _ h => h) (Or.inl ⟨rfl, ?y15⟩) (by assumption) ?_
    case y15 => (intro w hSw; (try dsimp only at hSw); go_simp <;> with_reducible rfl)
    simp only [Act.put, List.setIfInBounds_toArray, List.set_cons_zero, List.set_cons_succ]
    refine wpAnyH_take (i := 3) (v := ?v16) (gA rfl) (by kernel_rfl) (by kernel_rfl) (by kernel_rfl) (fun _ _ _ h => h) (Or.inl ⟨rfl, ?y16⟩) (by assumption) ?_
    case y16 => (intro w hSw; (try dsimp only at hSw); go_simp <;> with_reducible rfl)
    simp only [Act.put, List.setIfInBounds_toArray, List.set_cons_zero, List.set_cons_succ]
    refine wpAnyH_take (i := 4) (v := ?v17) (gA rfl) (by kernel_rfl) (by kernel_rfl) (by kernel_rfl) (fun _ _ _ h => h) (Or.inl ⟨rfl, ?y17⟩) (by assumption) ?_
    case y17 => (intro w hSw; (try dsimp only at hSw); go_simp <;> with_reducible rfl)
    simp only [Act.put, List.setIfInBounds_toArray, List.set_cons_zero, List.set_cons_succ]
    refine wpAnyH_take (i := 5) (v := ?v18) (gA rfl) (by kernel_rfl) (by kernel_rfl) (by kernel_rfl) (fun _ _ _ h => h) (Or.inl ⟨rfl, ?y18⟩) (by assumption) ?_
    case y18 => (intro w hSw; (try dsimp only at hSw); go_simp <;> with_reducible rfl)
    simp only [Act.put, List.setIfInBounds_toArray, List.set_cons_zero, List.set_cons_succ]
    refine wpAnyH_take (i := 6) (v := ?v19) (gA rfl) (by kernel_rfl) (by kernel_rfl) (by kernel_rfl) (fun _ _ _ h => h) (Or.inl ⟨rfl, ?y19⟩) (by assumption) ?_
    case y19 => (intro w hSw; (try dsimp only at hSw); go_simp <;> with_reducible rfl)
    simp only [Act.put, List.setIfInBounds_toArray, List.set_cons_zero, List.set_cons_succ]
    refine wpAnyH_take (i := 7) (v := ?v20) (gA rfl) (by kernel_rfl) (by kernel_rfl) (by kernel_rfl) (fun _ _ _ h => h) (Or.inl ⟨rfl, ?y20⟩) (by assumption) ?_
    case y20 => (intro w hSw; (try dsimp only at hSw); go_simp <;> with_reducible rfl)
    simp only [Act.put, List.setIfInBounds_toArray, List.set_cons_zero, List.set_cons_succ]
    refine wpAnyH_take (i := 8) (v := ?v21) (gA rfl) (by kernel_rfl) (by kernel_rfl) (by kernel_rfl) (fun _ _ _ h => h) (Or.inl ⟨rfl, ?y21⟩) (by assumption) ?_
    case y21 => (intro w hSw; (try dsimp only at hSw); go_simp <;> with_reducible rfl)
    simp only [Act.put, List.setIfInBounds_toArray, List.set_cons_zero, List.set_cons_succ]
    refine wpAnyH_take (i := 9) (v := ?v22) (gA rfl) (by kernel_rfl) (by kernel_rfl) (by kernel_rfl) (fun _ _ _ h => h) (Or.inl ⟨rfl, ?y22⟩) (by assumption) ?_
    case y22 => (intro w hSw; (try dsimp only at hSw); go_simp <;> with_reducible rfl)
    simp only [Act.put, List.setIfInBounds_toArray, List.set_cons_zero, List.set_cons_succ]
    refine wpAnyH_take (i := 10) (v := ?v23) (gA rfl) (by kernel_rfl) (by kernel_rfl) (by kernel_rfl) (fun _ _ _ h => h) (Or.inl ⟨rfl, ?y23⟩) (by assumption) ?_
    case y23 => (intro w hSw; (try dsimp only at hSw); go_simp <;> with_reducible rfl)
    simp only [Act.put, List.setIfInBounds_toArray, List.set_cons_zero, List.set_cons_succ]
    refine wpAnyH_take (i := 11) (v := ?v24) (gA rfl) (by kernel_rfl) (by kernel_rfl) (by kernel_rfl) (fun _ _ _ h => h) (Or.inl ⟨rfl, ?y24⟩) (by assumption) ?_
    case y24 => (intro w hSw; (try dsimp only at hSw); go_simp <;> with_reducible rfl)
    simp only [Act.put, List.setIfInBounds_toArray, List.set_cons_zero, List.set_cons_succ]
    refine wpAnyH_take (i := 12) (v := ?v25) (gA rfl) (by kernel_rfl) (by kernel_rfl) (by kernel_rfl) (fun _ _ _ h => h) (Or.inl ⟨rfl, ?y25⟩) (by assumption) ?_
    case y25 => (intro w hSw; (try dsimp only at hSw); go_simp <;> with_reducible rfl)
    simp only [Act.put, List.setIfInBounds_toArray, List.set_cons_zero, List.set_cons_succ]
    refine wpAnyH_take (i := 13) (v := ?v26) (gA rfl) (by kernel_rfl) (by kernel_rfl) (by kernel_rfl) (fun _ _ _ h => h) (Or.inl ⟨rfl, ?y26⟩) (by assumption) ?_
    case y26 => (intro w hSw; (try dsimp only at hSw); go_simp <;> with_reducible rfl)
    simp only [Act.put, List.setIfInBounds_toArray, List.set_cons_zero, List.set_cons_succ]
    refine wpAnyH_take (i := 14) (v := ?v27) (gA rfl) (by kernel_rfl) (by kernel_rfl) (by kernel_rfl) (fun _ _ _ h => h) (Or.inl ⟨rfl, ?y27⟩) (by assumption) ?_
    case y27 => (intro w hSw; (try dsimp only at hSw); go_simp <;> with_reducible rfl)
    simp only [Act.put, List.setIfInBounds_toArray, List.set_cons_zero, List.set_cons_succ]
    refine wpAnyH_ready (rs := [15]) (by kernel_rfl) (by simp) (AllReadyH.cons (gA rfl) (fun K hK => ?_) AllReadyH.nil)
    go_simp
    (go_at_call 156; refine (HOF.out _ (HSR.out.bel (HT.out _ hbx)).fares).mono ?_; rintro e w5 ⟨rfl, hb5⟩; have hs5 := hbx.size; have hKx := hKx.trans (Kept.of_below hb5 (fun k hk hk2 => by omega)); replace hbx := hbx.trans (hb5.mono hbx.size); clear hb5)
    go_wp2_with fail
    refine hK.out _ _ ?_ (fun hHeld => ?_)
    · exact HSX.out _ hbx
    clear hK K
    try simp only [Act.put, List.setIfInBounds_toArray, List.set_cons_zero, List.set_cons_succ]
    refine wpAnyH_take (i := 16) (v := ?v29) (gA rfl) (by kernel_rfl) (by kernel_rfl) (by kernel_rfl) (fun _ _ _ h => h) (Or.inl ⟨rfl, ?y29⟩) (by assumption) ?_
    case y29 => (intro w hSw; (try dsimp only at hSw); go_simp <;> with_reducible rfl)
    simp only [Act.put, List.setIfInBounds_toArray, List.set_cons_zero, List.set_cons_succ]
    refine wpAnyH_ready (rs := [17]) (by kernel_rfl) (by simp) (AllReadyH.cons (gA rfl) (fun K hK => ?_) AllReadyH.nil)
    go_simp
    refine hK.out _ _ ?_ (fun hHeld => ?_)
    · exact HSX.out _ (hbx.alloc hbx.size _)
    clear hK K
    try simp only [Act.put, List.setIfInBounds_toArray, List.set_cons_zero, List.set_cons_succ]
    have hq1 := freshB hbx #[.int .i64 x.day, .int .i64 1, .int .i64 pr] 57
    have hH5 := HH.out _ (hbx.alloc hbx.size (.cells #[.int .i64 x.day, .int .i64 1, .int .i64 pr] 57))
    have hZ5 := HZ.out _ (hbx.alloc hbx.size (.cells #[.int .i64 x.day, .int .i64 1, .int .i64 pr] 57))
    have hhl := (HH.out _ hbx).lt
    have hqh : w5.heap.size ≠ h := by omega
    have hfr := hH5.free 10
    have m10 := hH5.cell (j := 10) rfl
    have hKy := hKx.alloc (.cells #[.int .i64 x.day, .int .i64 1, .int .i64 pr] 57)
    obtain ⟨qn, hqn⟩ : ∃ q, q = w5.heap.size := ⟨_, rfl⟩
    rw [← hqn] at hq1 hqh ⊢
    obtain ⟨w6, hw6⟩ : ∃ V, V = w5.alloc (.cells #[.int .i64 x.day, .int .i64 1, .int .i64 pr] 57) := ⟨_, rfl⟩
    rw [← hw6] at hq1 hH5 hZ5 m10 hfr hKy hHeld ⊢
    have HQN := Lib.hid hqn
    have HW6 := Lib.hid hw6
    clear hqn hw6
    refine wpAnyH_take (i := 18) (v := ?v31) (gA rfl) (by kernel_rfl) (by kernel_rfl) (by kernel_rfl) (fun _ _ _ h => h) (Or.inl ⟨rfl, ?y31⟩) (by assumption) ?_
    case y31 => (intro w hSw; (try dsimp only at hSw); go_simp <;> with_reducible rfl)
    simp only [Act.put, List.setIfInBounds_toArray, List.set_cons_zero, List.set_cons_succ]
    refine wpAnyH_ready (rs := [19]) (by kernel_rfl) (by simp) (AllReadyH.cons (gA rfl) (fun K hK => ?_) AllReadyH.nil)
    go_simp
    refine hK.out _ _ ?_ (fun hHeld => ?_)
    · exact ⟨⟨(hZ5.other (p := ⟨h, 10, none⟩) (fun e => hzh e.symm) _).cell rfl, (hZ5.other (p := ⟨h, 10, none⟩) (fun e => hzh e.symm) _).cell rfl, (hZ5.other (p := ⟨h, 10, none⟩) (fun e => hzh e.symm) _).cell rfl, (hZ5.other (p := ⟨h, 10, none⟩) (fun e => hzh e.symm) _).cell rfl, (hZ5.other (p := ⟨h, 10, none⟩) (fun e => hzh e.symm) _).cell rfl, (hZ5.other (p := ⟨h, 10, none⟩) (fun e => hzh e.symm) _).cell rfl, (hZ5.other (p := ⟨h, 10, none⟩) (fun e => hzh e.symm) _).cell rfl, (hZ5.other (p := ⟨h, 10, none⟩) (fun e => hzh e.symm) _).cell rfl, (hZ5.other (p := ⟨h, 10, none⟩) (fun e => hzh e.symm) _).cell rfl, (hZ5.other (p := ⟨h, 10, none⟩) (fun e => hzh e.symm) _).cell rfl, (hZ5.other (p := ⟨h, 10, none⟩) (fun e => hzh e.symm) _).cell rfl, (hZ5.other (p := ⟨h, 10, none⟩) (fun e => hzh e.symm) _).cell rfl, (hZ5.other (p := ⟨h, 10, none⟩) (fun e => hzh e.symm) _).cell rfl⟩, (hH5.set _).cell rfl, (hH5.set _).cell rfl, (hH5.set _).cell rfl, (hH5.set _).cell rfl, (hH5.set _).cell rfl, (hH5.set _).cell rfl, (hH5.set _).cell rfl, (hH5.set _).cell rfl, (hH5.set _).cell rfl, (hH5.set _).cell rfl⟩
    clear hK K
    try simp only [Act.put, List.setIfInBounds_toArray, List.set_cons_zero, List.set_cons_succ]
    have p1 := hH5.set (j := 10) (.slice (some ⟨qn, 0, none⟩) 1 1)
    have p2 := hq1.other (p := ⟨h, 10, none⟩) (fun e => hqh e.symm) (.slice (some ⟨qn, 0, none⟩) 1 1)
    have p3 := hKy.setCell (p := ⟨h, 10, none⟩) (.inl rfl) (.slice (some ⟨qn, 0, none⟩) 1 1)
    refine wpAnyH_done (by kernel_rfl) ?_ _
    clear hfr m10
    go_wp2_with fail
    go_meet
    exact ⟨rfl, _, by rw [HFB.out]; exact p1, p2, hqh, p3⟩
  obtain ⟨rfl, q, hHf, hQ, hqh, hK⟩ := hcut
  obtain ⟨W5, hW5⟩ : ∃ V, V = wc := ⟨_, rfl⟩
  subst hW5
  have hbw4 := HT.out _ hb
  have hbw5 : Below w.heap.size w W5 := hbw4.trans (hK.below (B := w.heap.size) hbw4.size (fun k hk e => by omega))
  have hZ5 : Blk W5 z (saiA x ⟨A, n, cap, B, m, cap2, D, nd, cd, E, ne, ce, C, nb, cb⟩) 216 := (HZ.out _ hb).kept hK (fun e => hzh e)
  have hO5 : SaiW w0 b0 W5 base x ⟨A, n, cap, B, m, cap2, D, nd, cd, E, ne, ce, C, nb, cb⟩ := HOS.out.bel hbw5
  have hbs5 : base ≤ W5.heap.size := Nat.le_trans hbs hbw5.size
  have hf5 : Sl entryC 3 W5 All (some ⟨q, 0, none⟩) 1 1 fb.fol := by
    rw [HFF.out]
    have hd := HDAY.out
    have hp := HPRB.out
    exact sl_entryS hQ (.of (by omega) (by omega)) (.of (by decide) (by decide)) (.of (by omega) (by omega))
  have HOWN := Lib.hid (show ∀ j, (Value.slice C nb cb).ownBlock = some j → j < w.heap.size ∧ j ≠ z from fun j hj => by
    obtain ⟨_, _, _, _, _, xs, a6⟩ := HOS.out
    exact ⟨(a6.lt j hj).2, fun e => a6.neTy hZ (by decide) (by rw [← e]; exact hj)⟩)
  have HS5 := Lib.hid (show ∀ X, Below W5.heap.size W5 X → ((fun w' => w'.cell? ⟨h, 0, none⟩ = some (.int .i64 fb.id) ∧ w'.cell? ⟨h, 1, none⟩ = some (.int .i64 fb.kind) ∧ w'.cell? ⟨h, 2, none⟩ = some (.int .i64 fb.state) ∧ w'.cell? ⟨h, 3, none⟩ = some (.int .i64 fb.gst) ∧ w'.cell? ⟨h, 4, none⟩ = some (.bool fb.lev) ∧ w'.cell? ⟨h, 5, none⟩ = some (.int .i64 fb.cab) ∧ w'.cell? ⟨h, 6, none⟩ = some (.int .i64 fb.cat) ∧ w'.cell? ⟨h, 7, none⟩ = some (.int .i64 fb.frm) ∧ w'.cell? ⟨h, 8, none⟩ = some (.int .i64 fb.upto) ∧ w'.cell? ⟨h, 9, none⟩ = some (.int .i64 fb.til) ∧ w'.cell? ⟨h, 10, none⟩ = some (.slice (some ⟨q, 0, none⟩) 1 1))) X from fun w' hX => ⟨(hHf.bel hX).cell rfl, (hHf.bel hX).cell rfl, (hHf.bel hX).cell rfl, (hHf.bel hX).cell rfl, (hHf.bel hX).cell rfl, (hHf.bel hX).cell rfl, (hHf.bel hX).cell rfl, (hHf.bel hX).cell rfl, (hHf.bel hX).cell rfl, (hHf.bel hX).cell rfl, (hHf.bel hX).cell rfl⟩)
  have HS6 := Lib.hid (show ∀ X, Blk X h (bkgA fb (.slice (some ⟨q, 0, none⟩) 1 1)) 37 → ((fun w' => w'.cell? ⟨h, 0, none⟩ = some (.int .i64 fb.id) ∧ w'.cell? ⟨h, 1, none⟩ = some (.int .i64 fb.kind) ∧ w'.cell? ⟨h, 2, none⟩ = some (.int .i64 fb.state) ∧ w'.cell? ⟨h, 3, none⟩ = some (.int .i64 fb.gst) ∧ w'.cell? ⟨h, 4, none⟩ = some (.bool fb.lev) ∧ w'.cell? ⟨h, 5, none⟩ = some (.int .i64 fb.cab) ∧ w'.cell? ⟨h, 6, none⟩ = some (.int .i64 fb.cat) ∧ w'.cell? ⟨h, 7, none⟩ = some (.int .i64 fb.frm) ∧ w'.cell? ⟨h, 8, none⟩ = some (.int .i64 fb.upto) ∧ w'.cell? ⟨h, 9, none⟩ = some (.int .i64 fb.til) ∧ w'.cell? ⟨h, 10, none⟩ = some (.slice (some ⟨q, 0, none⟩) 1 1))) X from fun w' hX => ⟨hX.cell rfl, hX.cell rfl, hX.cell rfl, hX.cell rfl, hX.cell rfl, hX.cell rfl, hX.cell rfl, hX.cell rfl, hX.cell rfl, hX.cell rfl, hX.cell rfl⟩)
  have hbx5 : Below W5.heap.size W5 W5.drew := (Below.refl _ _).drew
  have HW := Lib.hid (HWI.out q W5.drew (hO5.bel hbx5) hbs5 (hf5.bel hbx5))
  have HZ5 := Lib.hid (hZ5.bel hbx5)
  have HH5 := Lib.hid (hHf.bel hbx5)
  have HBW5 := Lib.hid hbw5
  clear hbw5
  clear hHf hQ hqh hK hbw4 hZ5 hO5 hf5 hb
  go_upto_region 12 with (fail)
  go_cut [0] (fun p wx => p = .pointer (some ⟨z, 0, none⟩) ∧ ∃ p', Blk wx z (saiA (withS x fb) p') 216 ∧ SaiW w0 b0 wx base (withS x fb) p' ∧ Below base w wx)
  case first =>
    refine wp_region_held_drew (S := ((fun w' => w'.cell? ⟨h, 0, none⟩ = some (.int .i64 fb.id) ∧ w'.cell? ⟨h, 1, none⟩ = some (.int .i64 fb.kind) ∧ w'.cell? ⟨h, 2, none⟩ = some (.int .i64 fb.state) ∧ w'.cell? ⟨h, 3, none⟩ = some (.int .i64 fb.gst) ∧ w'.cell? ⟨h, 4, none⟩ = some (.bool fb.lev) ∧ w'.cell? ⟨h, 5, none⟩ = some (.int .i64 fb.cab) ∧ w'.cell? ⟨h, 6, none⟩ = some (.int .i64 fb.cat) ∧ w'.cell? ⟨h, 7, none⟩ = some (.int .i64 fb.frm) ∧ w'.cell? ⟨h, 8, none⟩ = some (.int .i64 fb.upto) ∧ w'.cell? ⟨h, 9, none⟩ = some (.int .i64 fb.til) ∧ w'.cell? ⟨h, 10, none⟩ = some (.slice (some ⟨q, 0, none⟩) 1 1)))) (by kernel_rfl) (HS5.out _ hbx5) (fun hHeld => ?_)
    refine wpAnyH_take (i := 0) (v := ?v33) (gA rfl) (by kernel_rfl) (by kernel_rfl) (by kernel_rfl) (fun _ _ _ h => h) (Or.inl ⟨rfl, ?y33⟩) (by assumption) ?_
    case y33 => (intro w hSw; (try dsimp only at hSw); go_simp <;> with_reducible rfl)
    simp only [Act.put, List.setIfInBounds_toArray, List.set_cons_zero, List.set_cons_succ]
    refine wpAnyH_take (i := 1) (v := ?v34) (gA rfl) (by kernel_rfl) (by kernel_rfl) (by kernel_rfl) (fun _ _ _ h => h) (Or.inl ⟨rfl, ?y34⟩) (by assumption) ?_
    case y34 => (intro w hSw; (try dsimp only at hSw); go_simp <;> with_reducible rfl)
    simp only [Act.put, List.setIfInBounds_toArray, List.set_cons_zero, List.set_cons_succ]
    refine wpAnyH_take (i := 2) (v := ?v35) (gA rfl) (by kernel_rfl) (by kernel_rfl) (by kernel_rfl) (fun _ _ _ h => h) (Or.inl ⟨rfl, ?y35⟩) (by assumption) ?_
    case y35 => (intro w hSw; (try dsimp only at hSw); go_simp <;> with_reducible rfl)
    simp only [Act.put, List.setIfInBounds_toArray, List.set_cons_zero, List.set_cons_succ]
    refine wpAnyH_take (i := 3) (v := ?v36) (gA rfl) (by kernel_rfl) (by kernel_rfl) (by kernel_rfl) (fun _ _ _ h => h) (Or.inl ⟨rfl, ?y36⟩) (by assumption) ?_
    case y36 => (intro w hSw; (try dsimp only at hSw); go_simp <;> with_reducible rfl)
    simp only [Act.put, List.setIfInBounds_toArray, List.set_cons_zero, List.set_cons_succ]
    refine wpAnyH_take (i := 5) (v := ?v37) (gA rfl) (by kernel_rfl) (by kernel_rfl) (by kernel_rfl) (fun _ _ _ h => h) (Or.inl ⟨rfl, ?y37⟩) (by assumption) ?_
    case y37 => (intro w hSw; (try dsimp only at hSw); go_simp <;> with_reducible rfl)
    simp only [Act.put, List.setIfInBounds_toArray, List.set_cons_zero, List.set_cons_succ]
    refine wpAnyH_ready (rs := [4]) (by kernel_rfl) (by simp) (AllReadyH.cons (gA rfl) (fun K hK => ?_) AllReadyH.nil)
    (refine wp_load_row 32 (.tmp 79) rfl z rfl 216 _ (0, 0) _ HZ5.out Tryz.underlying32 rfl (by kernel_rfl) ?_)
    refine hK.out _ _ ?_ (fun hHeld => ?_)
    · exact HS5.out _ hbx5
    clear hK K
    try simp only [Act.put, List.setIfInBounds_toArray, List.set_cons_zero, List.set_cons_succ]
    refine wpAnyH_ready (rs := [6]) (by kernel_rfl) (by simp) (AllReadyH.cons (gA rfl) (fun K hK => ?_) AllReadyH.nil)
    go_simp
    (go_at_call 165; refine HW.out.mono ?_; rintro e w6 ⟨p', rfl, hO6, hb6, hK6⟩; have hH6 := HH5.out.kept hK6 (fun e => by have := (HOWN.out _ e).1; omega); have hZ6 := HZ5.out.kept hK6 (fun e => (HOWN.out _ e).2 rfl))
    go_wp2_with fail
    refine hK.out _ _ ?_ (fun hHeld => ?_)
    · exact HS6.out _ hH6
    clear hK K
    try simp only [Act.put, List.setIfInBounds_toArray, List.set_cons_zero, List.set_cons_succ]
    refine wpAnyH_take (i := 7) (v := ?v40) (gA rfl) (by kernel_rfl) (by kernel_rfl) (by kernel_rfl) (fun _ _ _ h => h) (Or.inl ⟨rfl, ?y40⟩) (by assumption) ?_
    case y40 => (intro w hSw; (try dsimp only at hSw); go_simp <;> with_reducible rfl)
    simp only [Act.put, List.setIfInBounds_toArray, List.set_cons_zero, List.set_cons_succ]
    refine wpAnyH_take (i := 8) (v := ?v41) (gA rfl) (by kernel_rfl) (by kernel_rfl) (by kernel_rfl) (fun _ _ _ h => h) (Or.inl ⟨rfl, ?y41⟩) (by assumption) ?_
    case y41 => (intro w hSw; (try dsimp only at hSw); go_simp <;> with_reducible rfl)
    simp only [Act.put, List.setIfInBounds_toArray, List.set_cons_zero, List.set_cons_succ]
    have hhz : h ≠ z := fun e => hzh e.symm
    refine wpAnyH_ready (rs := [9]) (by kernel_rfl) (by simp) (AllReadyH.cons (gA rfl) (fun K hK => ?_) AllReadyH.nil)
    (refine wp_store_row 32 (.tmp 84) (.tmp 82) rfl z (saiA (withS x fb) p') rfl rfl 216 _ hZ6 (by kernel_rfl) rfl (by simp [Value.oneCell']) ?_)
    refine hK.out _ _ ?_ (fun hHeld => ?_)
    · exact HS6.out _ (hH6.rowOther hhz _)
    clear hK K
    try simp only [Act.put, List.setIfInBounds_toArray, List.set_cons_zero, List.set_cons_succ]
    have hKz : Kept (fun k => k = z) w6 (w6.setRow z (saiA (withS x fb) p')) := (Kept.refl (fun k => k = z) w6).setRow (.inl rfl) _
    have hZ7 := hZ6.row (saiA (withS x fb) p')
    have hO7 := hO6.keepZ hZ6 (by decide) (by decide) hz0 hKz
    have hbz : base ≤ z := by obtain ⟨a1, a2, _⟩ := HOS.out; omega
    have hb7 : Below base w (w6.setRow z (saiA (withS x fb) p')) := ((HBW5.out.mono hbs).drew.trans hb6).trans (hKz.below (B := base) (Nat.le_trans hbs5 hb6.size) (fun k hk e => by omega))
    refine wpAnyH_done (by kernel_rfl) ?_ _
    clear hH6 hZ6 hO6 hK6 hb6 hKz
    go_wp2_with fail
    go_meet
    exact ⟨rfl, p', hZ7, hO7, hb7⟩
  obtain ⟨rfl, p', hZ7, hO7, hb7⟩ := hcut
  have HC := Lib.hid (HRM.out p' _ hO7.sai (by rw [HNB.out]; exact fun e => by have h := HN16.out; rw [e] at h; simp at h))
  have HZ7 := Lib.hid hZ7
  have HO7 := Lib.hid hO7
  clear hO7
  have HB7 := Lib.hid hb7
  clear hb7
  clear hZ7
  go_wp2_with (refine wpList_load_row rfl 32 (.tmp 87) rfl z rfl 216 _ (0, 0) _ HZ7.out Tryz.underlying32 rfl (by kernel_rfl) ?_)
  refine HC.out.mono ?_
  rintro e w8 ⟨rfl, hb8⟩
  go_wp2_with fail
  go_ret
  exact ⟨by rw [HRR.out]; rfl, fun _ => ⟨p', HZ7.out.bel hb8, HO7.out.bel hb8⟩, HB7.out.trans (hb8.mono (Nat.le_trans hbs HB7.out.size))⟩
end Go.Proofs.YtoilcdgpeilgaaaGreat
