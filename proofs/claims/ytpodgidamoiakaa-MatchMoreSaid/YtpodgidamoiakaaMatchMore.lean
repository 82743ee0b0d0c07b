/-
  The law MatchMore returns true, whatever it is handed, and changes nothing that was there.
-/
import Derived.Test.YtpodgidamoiakaaMatchT
import Derived.Test.YtpodgidamoiakaaMatchLift
import Derived.Test.YtpodgidamoiakaaStepApp
import Derived.Deep.RegionHeld3
import Derived.KernelRfl
namespace Go.Proofs.Ytpodgidamoiakaa
open Go.ChangeShapes Go.WideShapes Go.ChangeAt Go.RowKit Go.Shelf

theorem cell_mv1 {W X : World} {p j : Nat} {v : Value} (hX : Below W.heap.size W X) (hc : W.cell? ⟨p, j, none⟩ = some v) : X.cell? ⟨p, j, none⟩ = some v := (World.cell?_of_block (a := ⟨p, j, none⟩) (hX.block _ (cell_lt hc))).trans hc
theorem Blk.grownE {w w' : World} {b : Nat} {cs : Array Value} {t : TypeId} {row : Option Nat} (h : Blk w b cs t) (hg : w.grownBy w' row) (hr : some b ≠ row) : Blk w' b cs t := (hg.block b h.lt hr).trans h
theorem sl_heapE {w : World} {b : Nat} {p q : Int} (h : Blk w b #[.int .i64 p, .int .i64 q] 70) (hp : InI p) (hq : InI q) : Sl edgC 2 w All (some ⟨b, 0, none⟩) 1 1 [⟨p, q⟩] :=
  Sl.ofEdgs [⟨p, q⟩] h (by simp) trivial rfl (fun x hx => by simp at hx; subst hx; exact ⟨hp, hq⟩)
theorem turnL_take {l : List Edg} {k : Nat} {y : Edg} (h : l[k]? = some y) : turnL (l.take (k + 1)) = turnL (l.take k) ++ [⟨y.rgt, y.lft⟩] := by
  rw [take_snoc h]
  unfold turnL
  rw [List.map_append]; rfl
set_option maxRecDepth 100000 in
set_option maxHeartbeats 20000000 in
theorem MatchMore_walk (W : World) (left : Int) (_ : InI left) (right : Int) (_ : InI right) (A : Option Addr) (n cap : Nat) (l : List Edg) (h : Sl edgC 2 W All A n cap l) (cs : Array Value) (x : Edg) (hx : edgC W All x cs.toList) :
    Calls Try.prog 12 #[.int .i64 left, .int .i64 right, .slice A n cap, .agg cs] W fun e w' => e = .returned (.bool true) ∧ Below W.heap.size W w' := by
  obtain ⟨hcs, ix, iy⟩ := hx
  obtain ⟨xl, xr⟩ := x
  obtain rfl : cs = #[.int .i64 xl, .int .i64 xr] := by cases cs; simp_all
  simp only at ix iy
  clear hcs
  obtain ⟨r, hr⟩ : ∃ r, r = grE left right l := ⟨_, rfl⟩
  have HM := Lib.hid (fun W h => Most_any left right A n cap l W h)
  rw [← hr] at HM
  have HR := Lib.hid hr
  clear hr
  have HIX := Lib.hid ix
  clear ix
  have HIY := Lib.hid iy
  clear iy
  have HH0 := Lib.hid h
  clear h
  go_enter Try.func12, Try.ntmps12
  go_upto_region 0 with (fail)
  go_cut [7] (fun p wx => ∃ g, p = .pointer (some ⟨g, 0, none⟩) ∧ Blk wx g #[.int .i64 xl, .int .i64 xr] 70 ∧ Below W.heap.size W wx)
  case first => as_aux_lemma =>
    go_wp2_with fail
    go_meet
    exact ⟨_, rfl, blk1 _ _, bel1 _ _⟩
  obtain ⟨g, rfl, hG, hb0⟩ := hcut
  go_wp2_with fail
  refine (matchBegun_any _).mono ?_
  rintro e1 w1 ⟨rfl, hb1⟩
  have hG := hG.bel hb1
  have hb2 := hb0.trans (hb1.mono hb0.size)
  clear hb0 hb1
  go_wp2_with fail
  refine (HM.out _ (HH0.out.bel hb2)).mono ?_
  rintro e2 w2 ⟨v1, ml, xs1, rfl, ho1, hm, hb3⟩
  obtain ⟨A1, n1, c1, rfl, hs1⟩ := ho1.sl edgC_good
  have hl1 := hs1.len
  have hG := hG.bel hb3
  have hb4 := hb2.trans (hb3.mono hb2.size)
  clear hb2 hb3 ho1 hs1
  by_cases h0 : r = 0
  · have hR := HR.out
    rw [h0] at hR
    obtain ⟨a, b, rfl, rfl, ha, hb16, hg, hnd⟩ := grE_ok hR.symm
    obtain ⟨hbest, _⟩ := hm.2 a b rfl rfl hR.symm
    have hsm := graph_small hg hnd ha hb16
    have hn256 : n ≤ 256 := by have := HH0.out.len; omega
    have HXT := Lib.hid (show grE (b : Int) (a : Int) (turnL l) = 0 from grE_of hb16 ha (turn_ok hg) (turn_nodup hnd))
    have HBE := Lib.hid hbest
    have HG2 := Lib.hid hg
    have HL1 := Lib.hid hl1
    subst h0
    obtain ⟨W0, hW0⟩ : ∃ W0, W0 = w2 := ⟨_, rfl⟩
    subst hW0
    have HB4 := Lib.hid hb4
    have HGG := Lib.hid hG
    have HSL := Lib.hid (HH0.out.bel hb4)
    have HLEN := Lib.hid HH0.out.len
    clear hb4 hG hg hnd hbest hm hR HR hsm hl1 HM HH0
    go_wp2_with fail
    go_loopg [12, 11] n (fun gk i nv wr => ∃ (k : Nat) (xs : List Value), k ≤ n ∧ n - k ≤ gk ∧ i = .int .i64 k ∧ Own edgC 2 70 wr W0.heap.size nv (turnL (l.take k)) xs ∧ Below W0.heap.size W0 wr)
    case atStart => exact ⟨0, [], Nat.zero_le _, by omega, rfl, Own.nil _ _ _ _ _, Below.refl _ _⟩
    case round =>
      obtain ⟨k, xs, hk, hgk, rfl, hO, hb⟩ := hrel
      obtain ⟨A2, n2, cap2, rfl, hs2⟩ := hO.sl edgC_good
      by_cases hlt : k < n
      · obtain ⟨bs, off, y, d0, d1, rfl, hy, ⟨hcs, iyl, iyr⟩, e0, e1⟩ := (HSL.out.bel hb).at2 hlt
        simp only [List.cons.injEq, and_true] at hcs
        obtain ⟨rfl, rfl⟩ := hcs
        have hV := turnL_take hy
        have HV := Lib.hid hV
        have hlk : (turnL (l.take k)).length = k := by unfold turnL; rw [List.length_map, List.length_take]; have := HLEN.out; omega
        have hby : ((turnL (l.take k)).length + 1) * 16 ≤ 140737488355328 := by omega
        have hbA : Below wr.heap.size wr (wr.alloc (.cells #[.int .i64 y.rgt, .int .i64 y.lft] 70)).drew := (bel1 wr _).drew
        have hb0 : Below wr.heap.size wr wr.drew := (Below.refl _ wr).drew
        have hOA := Lib.hid (hO.bel hbA)
        have hslA := Lib.hid ((sl_edg wr All y.rgt y.lft 70 iyr iyl trivial).bel (Below.refl _ _).drew)
        have hbz := (hb.trans (hbA.mono hb.size))
        have HBZ := Lib.hid hbz
        have hsz := hbz.size
        have k0 : (0 : Int) ≤ (k : Int) := Int.natCast_nonneg _
        have k1 : (k : Int) < (n : Int) := by omega
        have HE0 := Lib.hid (show ∀ X, Below W0.heap.size W0 X → X.cell? ⟨bs, off + k * 2, none⟩ = some (.int .i64 y.lft) ∧ X.cell? ⟨bs, off + k * 2 + 1, none⟩ = some (.int .i64 y.rgt) from fun X hX => by
          obtain ⟨bs', off', y', d0', d1', hA', hy', ⟨hcs', _, _⟩, e0', e1'⟩ := (HSL.out.bel hX).at2 hlt
          simp only [List.cons.injEq, and_true] at hcs'
          obtain ⟨rfl, rfl⟩ := hcs'
          injection hA' with hA'
          injection hA' with h1 h2
          subst h1 h2
          rw [hy] at hy'
          injection hy' with hy'
          subst hy'
          exact ⟨e0', e1'⟩)
        have HBD := Lib.hid (hb.drew)
        clear hO hs2 hy hV hlk hbA hb0 hbz iyl iyr hb
        go_upto_region 10 with (fail)
        go_region_held3 (fun w' => w'.cell? ⟨bs, off + k * 2, none⟩ = some (.int .i64 y.lft) ∧ w'.cell? ⟨bs, off + k * 2 + 1, none⟩ = some (.int .i64 y.rgt))
          (first | exact HE0.out _ HBD.out | exact HE0.out _ HBZ.out | exact HE0.out _ hbE)
          ((refine step_app (t := 60) (e := 70) (bytes := 16) (base := W0.heap.size) (c := edgC) (l := turnL (l.take k)) (xs := xs) (l2 := [⟨y.rgt, y.lft⟩]) (S := All) rfl (.tmp 35) (.tmp 47) rfl edg_elem edgC_good rfl rfl hOA.out hslA.out (fun _ _ hc => hc) hby (by omega) hsz ?_; intro v' w' xs' hown' hg' hat'; have hbE := below_app HBZ.out hOA.out hg' hsz; obtain ⟨A3, n3, c3, rfl, _⟩ := hown'.sl edgC_good))
        all_goals
          go_wp2_with fail
          go_roundg (n - (k + 1))
          case measure => omega
          case rel => exact ⟨k + 1, xs', by omega, by omega, by go_num, by rw [HV.out]; exact hown', hbE⟩
      · obtain rfl : k = n := by omega
        rw [List.take_of_length_le (Nat.le_of_eq HLEN.out)] at hO hs2
        have hsT := hs2.all edgC_good (by omega)
        have HT := Lib.hid (Most_any b a A2 n2 cap2 (turnL l) wr hsT)
        rw [HXT.out] at HT
        have HB5 := Lib.hid (HB4.out.trans (hb.mono HB4.out.size))
        have HGR := Lib.hid (HGG.out.bel hb)
        have HSR := Lib.hid (HSL.out.bel hb)
        clear hO hs2 hsT hb
        go_wp2_with fail
        refine HT.out.mono ?_
        rintro e5 w5 ⟨v5, tl, xs5, rfl, ho5, hm5, hb5⟩
        obtain ⟨A5, n5, c5, rfl, hs5⟩ := ho5.sl edgC_good
        obtain ⟨hbest5, _⟩ := hm5.2 b a rfl rfl HXT.out
        have hl5 := hs5.len
        obtain rfl : n5 = n1 := by rw [← hl5, ← HL1.out]; exact HBE.out.turn hbest5 HG2.out (turn_ok HG2.out)
        have HB6 := Lib.hid (HB5.out.trans (hb5.mono HB5.out.size))
        obtain ⟨w4, hw4⟩ : ∃ w4, w4 = w5 := ⟨_, rfl⟩
        subst hw4
        have hG4 := HGR.out.bel hb5
        have hsl := HSR.out.bel hb5
        clear ho5 hs5 hbest5 hl5 hm5 hb5
        obtain ⟨s, hs⟩ : ∃ s, s = grE (a : Int) (b : Int) (l ++ [⟨xl, xr⟩]) := ⟨_, rfl⟩
        have HN := Lib.hid (fun A n cap W h => Most_any (a : Int) (b : Int) A n cap (l ++ [⟨xl, xr⟩]) W h)
        rw [← hs] at HN
        have HS := Lib.hid hs
        clear hs
        have q0 : w4.cell? ⟨g, 0, none⟩ = some (.int .i64 xl) := hG4.cell rfl
        have q1 : w4.cell? ⟨g, 1, none⟩ = some (.int .i64 xr) := hG4.cell rfl
        clear hG4
        go_upto_region 14 with (fail)
        go_cut [14, 10] (fun v e wx => e = .int .i64 s ∧ ∃ A9 n9 c9 nl, v = .slice A9 n9 c9 ∧ nl.length = n9 ∧ MostOk a b (l ++ [⟨xl, xr⟩]) nl ∧ Below w4.heap.size w4 wx)
        case first => as_aux_lemma =>
          have ixl := HIX.out
          have ixr := HIY.out
          have hb0 : Below w4.heap.size w4 w4.drew := (Below.refl _ w4).drew
          have hbA : Below w4.heap.size w4 (w4.alloc (.cells #[] 70)).drew := (bel1 w4 _).drew
          have hbL : Below w4.heap.size w4 (w4.alloc (.cells #[.int .i64 xl, .int .i64 xr] 70)).drew := (bel1 w4 _).drew
          have hbB : Below w4.heap.size w4 ((w4.alloc (.cells #[] 70)).alloc (.cells #[.int .i64 xl, .int .i64 xr] 70)).drew := (bel2 w4 _ _).drew
          have hbC : Below w4.heap.size w4 ((w4.alloc (.cells #[.int .i64 xl, .int .i64 xr] 70)).alloc (.cells #[] 70)).drew := (bel2 w4 _ _).drew
          have hownA : Own edgC 2 70 (w4.alloc (.cells #[] 70)).drew w4.heap.size (.slice (some ⟨w4.heap.size, 0, none⟩) 0 0) [] [] := Own.empty _ _ (Nat.le_refl _) (blk1 w4 _)
          have hownB : Own edgC 2 70 ((w4.alloc (.cells #[] 70)).alloc (.cells #[.int .i64 xl, .int .i64 xr] 70)).drew w4.heap.size (.slice (some ⟨w4.heap.size, 0, none⟩) 0 0) [] [] := Own.empty _ _ (Nat.le_refl _) (blk2_0 w4 _ _)
          have hownC : Own edgC 2 70 ((w4.alloc (.cells #[.int .i64 xl, .int .i64 xr] 70)).alloc (.cells #[] 70)).drew w4.heap.size (.slice (some ⟨w4.heap.size + 1, 0, none⟩) 0 0) [] [] := Own.empty _ _ (by omega) (blk2_1 w4 _ _)
          have hlitB : Blk ((w4.alloc (.cells #[] 70)).alloc (.cells #[.int .i64 xl, .int .i64 xr] 70)).drew (w4.heap.size + 1) #[.int .i64 xl, .int .i64 xr] 70 := blk2_1 w4 _ _
          have hlitC : Blk ((w4.alloc (.cells #[.int .i64 xl, .int .i64 xr] 70)).alloc (.cells #[] 70)).drew w4.heap.size #[.int .i64 xl, .int .i64 xr] 70 := blk2_0 w4 _ _
          have hslA := hsl.bel hbA
          have hslB := hsl.bel hbB
          have hslC := hsl.bel hbC
          have hby1 : (([] : List Edg).length + k) * 16 ≤ 140737488355328 := by simp; omega
          have hby2 : (l.length + 1) * 16 ≤ 140737488355328 := by rw [hsl.len]; omega
          have hneB : some (w4.heap.size + 1) ≠ (Value.slice (some ⟨w4.heap.size, 0, none⟩) 0 0).ownBlock := fun e => by simp [Value.ownBlock] at e
          have hneC : some w4.heap.size ≠ (Value.slice (some ⟨w4.heap.size + 1, 0, none⟩) 0 0).ownBlock := fun e => by simp [Value.ownBlock] at e
          have a0 := cell_mv1 hb0 q0
          have a1 := cell_mv1 hb0 q1
          have b0 := cell_mv1 hbA q0
          have b1 := cell_mv1 hbA q1
          go_region_law
            (first
              | (refine step_app (t := 60) (e := 70) (bytes := 16) (base := w4.heap.size) (c := edgC) (l := []) (xs := []) (l2 := l) (S := All) rfl (.tmp 68) (.tmp 69) rfl edg_elem edgC_good rfl rfl hownA hslA (fun _ _ hc => hc) hby1 (by omega) hbA.size ?_; intro v' w' xs' hown' hg' hat'; have hbw : Below w4.heap.size w4 w' := below_app hbA hownA hg' hbA.size; have d0 := cell_mv1 hbw q0; have d1 := cell_mv1 hbw q1; have hownD := hown'.bel (bel1 w' (.cells #[.int .i64 xl, .int .i64 xr] 70)); have hslD := sl_edg w' All xl xr 70 ixl ixr trivial; have hbD := hbw.alloc hbw.size (.cells #[.int .i64 xl, .int .i64 xr] 70); clear hownA hownB hownC hslA hslB hslC)
              | (refine step_app (t := 60) (e := 70) (bytes := 16) (base := w4.heap.size) (c := edgC) (l := []) (xs := []) (l2 := l) (S := All) rfl (.tmp 68) (.tmp 69) rfl edg_elem edgC_good rfl rfl hownB hslB (fun _ _ hc => hc) hby1 (by omega) hbB.size ?_; intro v' w' xs' hown' hg' hat'; have hbw : Below w4.heap.size w4 w' := below_app hbB hownB hg' hbB.size; have hslD := sl_heapE (Blk.grownE hlitB hg' hneB) ixl ixr; have hownD := hown'; have hbD := hbw; clear hownA hownB hownC hslA hslB hslC)
              | (refine step_app (t := 60) (e := 70) (bytes := 16) (base := w4.heap.size) (c := edgC) (l := []) (xs := []) (l2 := l) (S := All) rfl (.tmp 68) (.tmp 69) rfl edg_elem edgC_good rfl rfl hownC hslC (fun _ _ hc => hc) hby1 (by omega) hbC.size ?_; intro v' w' xs' hown' hg' hat'; have hbw : Below w4.heap.size w4 w' := below_app hbC hownC hg' hbC.size; have hslD := sl_heapE (Blk.grownE hlitC hg' hneC) ixl ixr; have hownD := hown'; have hbD := hbw; clear hownA hownB hownC hslA hslB hslC)
              | (refine step_app (t := 60) (e := 70) (bytes := 16) (base := w4.heap.size) (c := edgC) (l := l) (l2 := [⟨xl, xr⟩]) (S := All) rfl (.tmp 70) (.tmp 72) rfl edg_elem edgC_good rfl rfl hownD hslD (fun _ _ hc => hc) hby2 (by omega) hbD.size ?_; intro v2 w2 xs2 hown2 hg2 hat2; have hbE := below_app hbD hownD hg2 hbD.size; obtain ⟨A8, n8, c8, rfl, hs8⟩ := hown2.sl edgC_good; have hs8 := hs8.all edgC_good (by omega))
              | (go_simp; go_at_call 36; refine (HN.out _ _ _ _ hs8).mono ?_; rintro e9 w9 ⟨v9, nl, xs9, rfl, ho9, hm9, hb9⟩; have hbF := hbE.trans (hb9.mono hbE.size); obtain ⟨A9, n9, c9, rfl, hs9⟩ := ho9.sl edgC_good; go_wp2_with fail))
          all_goals
            go_wp2_with fail
            go_meet
            exact ⟨rfl, A9, n9, c9, nl, rfl, hs9.len, hm9, hbF⟩
        obtain ⟨rfl, A9, n9, c9, nl, rfl, hn9, hm9, hb9⟩ := hcut
        have HB9 := Lib.hid (HB6.out.trans (hb9.mono HB6.out.size))
        clear hb9 q0 q1 hsl
        have hn1 : n5 ≤ 256 := by have h1 := HBE.out.right HG2.out; have := HL1.out; omega
        have hwn : IntKind.i64.wrap ((n5 : Int) + 1) = (n5 : Int) + 1 := by rw [IntKind.wrap_i64]; omega
        by_cases hs0 : s = 0
        · have h9 : n9 = n5 ∨ n9 = n5 + 1 := by
            have hS := HS.out
            rw [hs0] at hS
            obtain ⟨a', b', ea, eb, _, _, hg9, _⟩ := grE_ok hS.symm
            obtain rfl := Int.ofNat.inj ea
            obtain rfl := Int.ofNat.inj eb
            have := HBE.out.one (hm9.2 _ _ rfl rfl hS.symm).1 HG2.out hg9
            rw [hn9, HL1.out] at this
            exact this
          subst hs0
          rcases h9 with rfl | rfl
          · clear hm9 hn9
            go_wp2_with fail
            go_ret
            exact ⟨rfl, HB9.out⟩
          · have hne : (((n5 + 1 : Nat) : Int) == (n5 : Int)) = false := by rw [beq_eq_false_iff_ne]; omega
            have hnc : ((n5 + 1 : Nat) : Int) = (n5 : Int) + 1 := rfl
            rw [hnc] at hne
            clear hm9 hn9
            go_wp2_with fail
            go_ret
            exact ⟨rfl, HB9.out⟩
        · have hs0' : (s != 0) = true := by simpa using hs0
          clear hm9 hn9 hs0
          go_wp2_with fail
          go_ret
          exact ⟨rfl, HB9.out⟩
  · have h1 : ml = [] := hm.1 (by rw [← HR.out]; exact h0)
    subst h1
    obtain rfl : n1 = 0 := hl1.symm
    have h0' : (r == 0) = false := by simpa using h0
    clear hm hG hl1
    go_wp2_with fail
    go_ret
    exact ⟨rfl, hb4⟩
set_option maxRecDepth 100000 in
theorem MatchMore_lifted (os : Os) (started : os.Started) (H : Type) (enc : TypeId × Value → H) :
    ReturnsInHanded {} Try.checked os 12 .any (Rows.matchMoreSpec.pre6 enc Try.prog Try.f12 Rows.matchMoreRow.domain false) (Rows.matchMoreSpec.post enc Try.prog Try.f12 false true false false) := by
  refine returnsInHanded_of_change (C := Try.checked) own started (by kernel_rfl) Try.func12
    (ChangeSpec.witness6 (enc := enc) (C := Try.checked) false ⟨#[], #[.int .i64 0, .int .i64 0, .slice none 0 0, .agg #[.int .i64 0, .int .i64 0]], []⟩ 8 (by kernel_rfl) (by kernel_rfl) (by kernel_rfl) (by kernel_rfl)) ?_
  intro W base args ds gs before hval0 hW hcnd _
  have hval : ∀ (j : Nat) t v, Try.f12.params[j]? = some t → args[j]? = some v → Value.okWide Try.prog W .any base t v := hval0
  have hW' := hW
  obtain ⟨p, q, hA0, hV, rfl, hfz, hnd⟩ := hW
  have hA : DataW.TrodAll enc Try.prog W 0 (fun _ => true) true Try.f12.params.toList args.toList ds p := hA0
  rw [Try.params12] at hA hval
  obtain ⟨v0, vs0, d0, ds0, p0, q0, hargs, rfl, rfl, h0, r0⟩ := trodAll_cons hA
  obtain ⟨v1, vs1, d1, ds1, p1, q1, rfl, rfl, rfl, h1, r1⟩ := trodAll_cons r0
  obtain ⟨v2, vs2, d2, ds2, p2, q2, rfl, rfl, rfl, h2, r2⟩ := trodAll_cons r1
  obtain ⟨v3, vs3, d3, ds3, p3, q3, rfl, rfl, rfl, h3, r3⟩ := trodAll_cons r2
  obtain ⟨rfl, rfl, rfl⟩ := trodAll_nil r3
  obtain rfl : args = #[v0, v1, v2, v3] := by cases args; simp_all
  obtain ⟨rfl, rfl⟩ := trodVars_none hV
  have lt0 := arg_lt h0
  have k0 := h0
  obtain ⟨a0, rfl, w0⟩ := arg_int Try.underlying3 (hval 0 3 v0 rfl rfl) h0
  have lt1 := arg_lt h1
  have k1 := h1
  obtain ⟨a1, rfl, w1⟩ := arg_int Try.underlying3 (hval 1 3 v1 rfl rfl) h1
  have lt2 := arg_lt h2
  have k2 := h2
  obtain ⟨A2, n2, c2, a2, rfl, w2⟩ := arg_sl (size := 2) Try.underlying60 (by kernel_rfl) (by omega) opens_edgC (hval 2 60 v2 rfl rfl) h2
  have lt3 := arg_lt h3
  have k3 := h3
  obtain ⟨cs3, a3, rfl, w3⟩ := arg_agg (c := edgC) Try.underlying70 opens_edgC (hval 3 70 v3 rfl rfl) h3
  clear hA0 hval0
  refine (MatchMore_walk W a0 w0 a1 w1 A2 n2 c2 a2 w2 cs3 a3 w3).mono fun e W' ⟨he, bel⟩ => ?_
  subst he
  exact ⟨_, rfl, _, _, _, [], _, [], hW', trodAll_mk1 (shut_bool Try.underlying4 _), (trodAll_cons_mk (Below.trod laidOut (by kernel_rfl) (of_decide_eq_true (by kernel_rfl)) k0 bel lt0) (trodAll_cons_mk (Below.trod laidOut (by kernel_rfl) (of_decide_eq_true (by kernel_rfl)) k1 bel lt1) (trodAll_cons_mk (Below.trod laidOut (by kernel_rfl) (of_decide_eq_true (by kernel_rfl)) k2 bel lt2) (trodAll_cons_mk (Below.trod laidOut (by kernel_rfl) (of_decide_eq_true (by kernel_rfl)) k3 bel lt3) trodAll_mk0)))), rfl, bel.frame _, fun h => by cases h⟩

/-- THE GIVEN STATEMENT MatchMore. -/
theorem matchMore_holds : Rows.MatchMoreSaid :=
  OpenClaim.holds_of_wide 12 Try.f12 rfl rfl rfl rfl rfl rfl rfl ⟨rfl, rfl, rfl, rfl, rfl⟩ rfl rfl rfl rfl rfl (by kernel_rfl) Try.func12 (by kernel_rfl)
    (of_decide_eq_true (by kernel_rfl)) (by unfold Func.isWrapper; rw [if_neg (of_decide_eq_false (by kernel_rfl))]; exact ⟨rfl, rfl⟩)
    (fun os started H enc _ => MatchMore_lifted os started H enc)
#print axioms matchMore_holds
end Go.Proofs.Ytpodgidamoiakaa
