/-
  The law ShipMore returns true, whatever it is handed, and changes nothing that was there.
-/
import Derived.Test.YtpodgidamoiakaaShipP
import Derived.Test.YtpodgidamoiakaaShipLift
import Derived.Deep.RegionHeld3
import Derived.KernelRfl
namespace Go.Proofs.Ytpodgidamoiakaa
open Go.ChangeShapes Go.WideShapes Go.ChangeAt Go.RowKit Go.Shelf

theorem cell_mv1 {W X : World} {p j : Nat} {v : Value} (hX : Below W.heap.size W X) (hc : W.cell? ⟨p, j, none⟩ = some v) : X.cell? ⟨p, j, none⟩ = some v := (World.cell?_of_block (a := ⟨p, j, none⟩) (hX.block _ (cell_lt hc))).trans hc
theorem ShpAt.grownS {w w' : World} {g : Nat} {legs souls : Int} {A : Option Addr} {n cap : Nat} {B : Option Addr} {m cap2 : Nat} {row : Option Nat} (h : ShpAt w g legs souls A n cap B m cap2) (hg : w.grownBy w' row) (hr : some g ≠ row) : ShpAt w' g legs souls A n cap B m cap2 := Blk.grown h hg hr
/-- A category that one more may serve. -/
def moreC (cats : List Cat) (j : Nat) (y : Int) : List Cat := cats.set j ⟨(cats.getD j default).name, (cats.getD j default).high ++ [y]⟩
theorem more_high (cats : List Cat) (j : Nat) (y : Int) (b : Nat) (h : Int) (hh : h ∈ (higC cats).getD b []) : h ∈ (higC (moreC cats j y)).getD b [] := by
  by_cases hb : b < cats.length
  · have h1 : cats[b]? = some cats[b] := List.getElem?_eq_getElem hb
    rw [higC_getD cats b h1] at hh
    by_cases he : j = b
    · subst he
      have h2 : (moreC cats j y)[j]? = some ⟨(cats.getD j default).name, (cats.getD j default).high ++ [y]⟩ := by unfold moreC; rw [List.getElem?_set_self hb]
      rw [higC_getD _ j h2, getD_of h1]
      exact List.mem_append_left _ hh
    · have h2 : (moreC cats j y)[b]? = some cats[b] := by unfold moreC; rw [List.getElem?_set_ne he, h1]
      rw [higC_getD _ b h2]; exact hh
  · rw [getD_far (by rw [higC_len]; omega)] at hh; simp at hh
theorem more_srv (cats : List Cat) (j : Nat) (y : Int) (a b : Nat) (h : srvB (higC cats) a b = true) : srvB (higC (moreC cats j y)) a b = true := by
  unfold srvB at *
  rw [Bool.or_eq_true, decide_eq_true_iff, decide_eq_true_iff] at *
  rcases h with h | h
  · exact .inl h
  · exact .inr (h.more fun b h hh => more_high cats j y b h hh)
theorem serve_ok {x : Shp} {a b : Int} (h : servE x a b = 0) : shipE x = 0 := by
  unfold servE at h
  by_cases h1 : shipE x ≠ 0
  · rw [if_pos h1] at h; exact absurd h h1
  · omega

theorem sl_heap1 {w : World} {b : Nat} {y : Int} {t : TypeId} (h : Blk w b #[.int .i64 y] t) (hy : InI y) : Sl intC 1 w All (some ⟨b, 0, none⟩) 1 1 [y] :=
  Sl.ofBlk h [y] (by simp) trivial fun i z hz => by
    rcases i with _ | i
    · simp at hz; subst hz
      exact ⟨[.int .i64 y], ⟨rfl, hy⟩, rfl, fun j u hu => by rcases j with _ | j <;> simp_all⟩
    · simp at hz
set_option maxRecDepth 100000 in
set_option maxHeartbeats 20000000 in
theorem ShipMore_walk (W : World) (cs : Array Value) (x : Shp) (hx : shpC W All x cs.toList) (a : Int) (_ : InI a) (b : Int) (_ : InI b) (j : Int) (_ : InI j) (y : Int) (hy : InI y) :
    Calls Try.prog 3 #[.agg cs, .int .i64 a, .int .i64 b, .int .i64 j, .int .i64 y] W fun e w' => e = .returned (.bool true) ∧ Below W.heap.size W w' := by
  obtain ⟨A, n, cap, B, m, cap2, hcs, hc, hd, _, _⟩ := hx
  obtain rfl : cs = #[.int .i64 x.legs, .int .i64 x.souls, .slice A n cap, .slice B m cap2] := by cases cs; simp_all
  clear hcs
  have HS := Lib.hid (fun (x : Shp) A n cap B m cap2 W hc hd => Serves_any x A n cap B m cap2 a b W hc hd)
  have HOK := Lib.hid (fun h => shp_ok (x := x) (serve_ok (a := a) (b := b) h))
  have HL := Lib.hid hc.len
  have HC := Lib.hid hc
  have HD := Lib.hid hd
  obtain ⟨e, he⟩ : ∃ e, e = servE x a b := ⟨_, rfl⟩
  obtain ⟨z, hz⟩ : ∃ z, z = srvB (higC x.cats) a.toNat b.toNat := ⟨_, rfl⟩
  have hs1 := HS.out x A n cap B m cap2
  rw [← he, ← hz] at hs1
  rw [← he] at HOK
  have HS1 := Lib.hid hs1
  clear hs1
  have HE := Lib.hid he
  clear he
  have HZ := Lib.hid hz
  clear hz
  have HY := Lib.hid hy
  clear hc hd hy
  obtain ⟨legs, souls, cats, cabs⟩ := x
  simp only at *
  go_enter Try.func3, Try.ntmps3
  go_upto_region 0 with (fail)
  go_cut [5, 10] (fun p _ wx => ∃ g, p = .pointer (some ⟨g, 0, none⟩) ∧ ShpAt wx g legs souls A n cap B m cap2 ∧ Below W.heap.size W wx)
  case first => as_aux_lemma =>
    go_wp2_with fail
    go_meet
    exact ⟨_, rfl, blk1 _ _, bel1 _ _⟩
  obtain ⟨g, rfl, hG, hb0⟩ := hcut
  go_wp2_with fail
  refine (shipBegun_any _).mono ?_
  rintro e1 w1 ⟨rfl, hb1⟩
  have hG := hG.bel hb1
  have hb2 := hb0.trans (hb1.mono hb0.size)
  clear hb0 hb1
  obtain ⟨g0, g1, g2, g3⟩ := hG.all
  go_wp2_with fail
  refine (HS1.out _ (HC.out.bel hb2) (HD.out.bel hb2)).mono ?_
  rintro e2 w2 ⟨rfl, hb3⟩
  have hG := hG.bel hb3
  have hb4 := hb2.trans (hb3.mono hb2.size)
  clear hb2 hb3 g0 g1 g2 g3
  obtain ⟨g0, g1, g2, g3⟩ := hG.all
  by_cases h0 : e = 0
  · have hok := HOK.out h0
    have hn5 : n ≤ 5 := by rw [← HL.out]; exact hok.cats5
    have hn0 : 0 < n := by rw [← HL.out]; exact hok.cats0
    subst h0
    rw [okB_zero]
    by_cases c1 : j < 0
    · skip
      go_wp2_with fail
      go_ret
      exact ⟨rfl, hb4⟩
    by_cases c2 : (n : Int) ≤ j
    · skip
      go_wp2_with fail
      go_ret
      exact ⟨rfl, hb4⟩
    obtain ⟨k, rfl⟩ := Int.eq_ofNat_of_zero_le (show 0 ≤ j by omega)
    have hkn : k < n := by omega
    have HFEW := Lib.hid hok.ok.few
    have HBW := Lib.hid hb4
    have HGG := Lib.hid hG
    obtain ⟨W0, hW0⟩ : ∃ W0, W0 = w2 := ⟨_, rfl⟩
    subst hW0
    clear hok hb4 hG
    go_upto_region 8 with (fail)
    go_cut [13] (fun p wx => ∃ q, p = .pointer (some ⟨q, 0, none⟩) ∧ W0.heap.size ≤ q ∧ q < wx.heap.size ∧ ShpAt wx q legs souls A n cap B m cap2 ∧ Below W0.heap.size W0 wx)
    case first => as_aux_lemma =>
      go_wp2_with fail
      go_meet
      exact ⟨_, rfl, Nat.le_refl _, by simp, blk1 _ _, bel1 _ _⟩
    obtain ⟨q, rfl, hq0, hqs, hQ, hb5⟩ := hcut
    obtain ⟨q0, q1, q2, q3⟩ := hQ.all
    have x0 := cell_mv1 hb5 g0
    have x2 := cell_mv1 hb5 g2
    obtain ⟨L, hLl, hLs0, hLp⟩ := cats_ptrs (HC.out.bel HBW.out)
    have hLs := hLs0.bel hb5
    have HLL := Lib.hid (show L.length = n by rw [hLl]; exact HL.out)
    have HLS := Lib.hid hLs
    have HLP := Lib.hid hLp
    have HQ := Lib.hid hQ
    have HB5 := Lib.hid hb5
    obtain ⟨W1, hW1⟩ : ∃ W1, W1 = wc := ⟨_, rfl⟩
    subst hW1
    have hOe := Lib.hid (show Own catP 2 32 (W1.alloc (.cells #[] 32)) W1.heap.size (.slice (some ⟨W1.heap.size, 0, none⟩) 0 0) [] [] from Own.empty (c := catP) (size := 2) (e := 32) (w := W1.alloc (.cells #[] 32)) (base := W1.heap.size) (Nat.le_refl _) (heap_alloc_new W1 _))
    have x2' := cell_mv1 (bel1 W1 (.cells #[] 32)) x2
    have hsq : W1.heap.size ≤ (W1.alloc (.cells #[] 32)).heap.size := by simp
    have hby : (([] : List CP).length + n) * 40 ≤ 140737488355328 := by simp; omega
    have HLS2 := Lib.hid (hLs.bel (bel1 W1 (.cells #[] 32)))
    have HQ2 := Lib.hid (hQ.bel (bel1 W1 (.cells #[] 32)))
    clear hLl hLs0 hLs hLp hQ hb5
    have HPOST := Lib.hid (show ∀ (v' : Value) (w' : World) (xs' : List Value), Own catP 2 32 w' W1.heap.size v' (([] : List CP) ++ L) xs' → (W1.alloc (.cells #[] 32)).grownBy w' (Value.slice (some ⟨W1.heap.size, 0, none⟩) 0 0).ownBlock →
        ∃ ob c9, v' = .slice (some ⟨ob, 0, none⟩) (([] : List CP) ++ L).length c9 ∧ W1.heap.size ≤ ob ∧ ob < w'.heap.size ∧ w'.cell? ⟨q, 2, none⟩ = some (.slice A n cap) ∧ w'.frozen? ⟨q, 2, none⟩ = false ∧ Hid (Own catP 2 32 w' W1.heap.size v' (([] : List CP) ++ L) xs') ∧
          Hid ((W1.alloc (.cells #[] 32)).grownBy w' (Value.slice (some ⟨W1.heap.size, 0, none⟩) 0 0).ownBlock) ∧ Hid (ShpAt w' q legs souls A n cap B m cap2) from fun v' w' xs' hown' hg' => by
      obtain ⟨ob, c9, hv, hob, hobl⟩ := hown'.form (by rw [List.nil_append, HLL.out]; exact hn0)
      have hbq := HQ2.out.grownS hg' (fun e => by simp [Value.ownBlock] at e; omega)
      exact ⟨ob, c9, hv, hob, hobl, Blk.cell hbq rfl, Blk.free hbq 2, hown', hg', hbq⟩)
    go_upto_region 9 with (fail)
    go_cut [42] (fun _ wx => ∃ ob c9 xs, Own catP 2 32 wx W1.heap.size (.slice (some ⟨ob, 0, none⟩) n c9) L xs ∧ W1.heap.size ≤ ob ∧ ob < wx.heap.size ∧ ShpAt wx q legs souls (some ⟨ob, 0, none⟩) n c9 B m cap2 ∧ Below W0.heap.size W0 wx ∧ W1.heap.size ≤ wx.heap.size)
    case first => as_aux_lemma =>
      go_wp2_with (at_builtin; refine list_app (t := 22) (e := 32) (bytes := 40) rfl (.tmp 39) (.tmp 41) rfl cat_elem catP_good rfl hOe.out rfl HLS2.out (fun _ _ hc => hc) hby (by omega) hsq ?_; intro v' w' xs' hown' hg' _; obtain ⟨ob, c9, rfl, hob, hobl, hc2, hf2, HOW, HGR, HBQ⟩ := HPOST.out _ _ _ hown' hg'; clear hown' hg')
      go_meet
      have HB6 := (HB5.out.trans ((bel1 W1 (.cells #[] 32)).mono HB5.out.size)).grown HGR.out (by simp; have := HB5.out.size; omega) (fun j hj => by simp [Value.ownBlock] at hj; have := HB5.out.size; omega)
      refine ⟨ob, c9, xs', ?_, hob, by simpa [World.setCell] using hobl, ?_, HB6.setCell (p := ⟨q, 2, none⟩) hq0 _, ?_⟩
      · have := own_setCell_flat catP_flat HOW.out (a := ⟨q, 2, none⟩) (fun e => by simp [Value.ownBlock] at e; omega) (.slice (some ⟨ob, 0, none⟩) (([] : List CP) ++ L).length c9)
        rw [List.nil_append, HLL.out] at this
        rw [HLL.out]
        exact this
      · have := Blk.set (j := 2) HBQ.out (.slice (some ⟨ob, 0, none⟩) (([] : List CP) ++ L).length c9)
        rw [List.nil_append, HLL.out] at this
        rw [HLL.out]
        exact this
      · have := HB6.size; have h2 := HGR.out.size; simp at h2; simp [World.setCell]; omega
    obtain ⟨ob, c9, xs, hown, hob, hobl, hQ, hb6, hws⟩ := hcut
    obtain ⟨w4, hw4⟩ : ∃ w4, w4 = wc := ⟨_, rfl⟩
    subst hw4
    obtain ⟨xk, hxk⟩ : ∃ xk, cats[k]? = some xk := ⟨_, List.getElem?_eq_getElem (by have := HL.out; omega)⟩
    obtain ⟨pk, hpk, hlk⟩ := HLP.out k xk hxk
    obtain ⟨nmk, Ah, nh, ch⟩ := pk
    -- what the region reads
    obtain ⟨q0', q1', q2', q3'⟩ := hQ.all
    have gw := cell_mv1 hb6 g2
    obtain ⟨bs, off, x', d0, d1, rfl, hx', ⟨A7, n7, cap7, hcs7, hs7, hl7⟩, e0, e1⟩ := (HC.out.bel HBW.out).at2 hkn
    simp only [List.cons.injEq, and_true] at hcs7
    obtain ⟨rfl, rfl⟩ := hcs7
    obtain rfl : xk = x' := by rw [hxk] at hx'; injection hx'
    have hbs := cell_lt e0
    have hg0 := cell_lt g2
    have e4 := cell_mv1 hb6 e1
    have hn7 : n7 ≤ 5 := by rw [← hs7.len]; exact HFEW.out xk (List.mem_of_getElem? hxk)
    have hsl := hs7.bel hb6
    have hzW : W0.heap.size ≤ ob := Nat.le_trans HB5.out.size hob
    obtain ⟨csk, hck, hckl, hckc, hfz⟩ := hown.cells hpk
    have ow := hckc 1 _ (by rw [show csk = [strV nmk, .slice Ah nh ch] from hck]; rfl)
    have ofz := hfz (k * 2 + 1)
    have HOWN := Lib.hid hown
    have HQ4 := Lib.hid hQ
    have HB6 := Lib.hid hb6
    have HLK := Lib.hid hlk.1
    have HXK := Lib.hid hxk
    have HPK := Lib.hid hpk
    have k0 : (0 : Int) ≤ (k : Int) := Int.natCast_nonneg _
    have k1 : (k : Int) < (n : Int) := by omega
    clear hown hQ hb6 hlk hxk hpk hx' hck hckc hfz hs7 e0 e1 q0 q1 q2 q3 q0' q1' q3' x0 x2 x2' hsq hby HPOST hOe HLS2 HQ2
    go_upto_region 10 with (fail)
    go_cut [57] (fun _ wx => ∃ A8 n8 c8 xs2, Own catP 2 32 wx W1.heap.size (.slice (some ⟨ob, 0, none⟩) n c9) (L.set k ⟨nmk, A8, n8, c8⟩) xs2 ∧ Sl intC 1 wx All A8 n8 c8 (xk.high ++ [y]) ∧ ShpAt wx q legs souls (some ⟨ob, 0, none⟩) n c9 B m cap2 ∧ Below W0.heap.size W0 wx)
    case first => as_aux_lemma =>
      have hb0 : Below w4.heap.size w4 w4.drew := (Below.refl _ w4).drew
      have hbA : Below w4.heap.size w4 (w4.alloc (.cells #[] 3)).drew := (bel1 w4 _).drew
      have hbL : Below w4.heap.size w4 (w4.alloc (.cells #[.int .i64 y] 3)).drew := (bel1 w4 _).drew
      have hbB : Below w4.heap.size w4 ((w4.alloc (.cells #[] 3)).alloc (.cells #[.int .i64 y] 3)).drew := (bel2 w4 _ _).drew
      have hbC : Below w4.heap.size w4 ((w4.alloc (.cells #[.int .i64 y] 3)).alloc (.cells #[] 3)).drew := (bel2 w4 _ _).drew
      have hownA : Own intC 1 3 (w4.alloc (.cells #[] 3)).drew w4.heap.size (.slice (some ⟨w4.heap.size, 0, none⟩) 0 0) [] [] := Own.empty _ _ (Nat.le_refl _) (blk1 w4 _)
      have hownB : Own intC 1 3 ((w4.alloc (.cells #[] 3)).alloc (.cells #[.int .i64 y] 3)).drew w4.heap.size (.slice (some ⟨w4.heap.size, 0, none⟩) 0 0) [] [] := Own.empty _ _ (Nat.le_refl _) (blk2_0 w4 _ _)
      have hownC : Own intC 1 3 ((w4.alloc (.cells #[.int .i64 y] 3)).alloc (.cells #[] 3)).drew w4.heap.size (.slice (some ⟨w4.heap.size + 1, 0, none⟩) 0 0) [] [] := Own.empty _ _ (by omega) (blk2_1 w4 _ _)
      have hlitB : Blk ((w4.alloc (.cells #[] 3)).alloc (.cells #[.int .i64 y] 3)).drew (w4.heap.size + 1) #[.int .i64 y] 3 := blk2_1 w4 _ _
      have hlitC : Blk ((w4.alloc (.cells #[.int .i64 y] 3)).alloc (.cells #[] 3)).drew w4.heap.size #[.int .i64 y] 3 := blk2_0 w4 _ _
      have hslA := hsl.bel hbA
      have hslB := hsl.bel hbB
      have hslC := hsl.bel hbC
      have hyi := HY.out
      have hby1 : (([] : List Int).length + n7) * 8 ≤ 140737488355328 := by simp; omega
      have hby2 : (xk.high.length + 1) * 8 ≤ 140737488355328 := by rw [hsl.len]; omega
      have hneB : some (w4.heap.size + 1) ≠ (Value.slice (some ⟨w4.heap.size, 0, none⟩) 0 0).ownBlock := fun e => by simp [Value.ownBlock] at e
      have hneC : some w4.heap.size ≠ (Value.slice (some ⟨w4.heap.size + 1, 0, none⟩) 0 0).ownBlock := fun e => by simp [Value.ownBlock] at e
      have nq : q ≠ ob := by omega
      have ng : g ≠ ob := by omega
      have nb : bs ≠ ob := by omega
      go_region_held3 (fun w' => w'.cell? ⟨q, 2, none⟩ = some (.slice (some ⟨ob, 0, none⟩) n c9) ∧ w'.cell? ⟨g, 2, none⟩ = some (.slice (some ⟨bs, off, none⟩) n cap) ∧ w'.cell? ⟨bs, off + k * 2 + 1, none⟩ = some (.slice A7 n7 cap7))
        (first
          | exact ⟨cell_mv1 hb0 q2', cell_mv1 hb0 gw, cell_mv1 hb0 e4⟩
          | exact ⟨cell_mv1 hbA q2', cell_mv1 hbA gw, cell_mv1 hbA e4⟩
          | exact ⟨cell_mv1 hbL q2', cell_mv1 hbL gw, cell_mv1 hbL e4⟩
          | exact ⟨cell_mv1 hbB q2', cell_mv1 hbB gw, cell_mv1 hbB e4⟩
          | exact ⟨cell_mv1 hbC q2', cell_mv1 hbC gw, cell_mv1 hbC e4⟩
          | exact ⟨cell_st (cell_mv1 hbE q2') nq, cell_st (cell_mv1 hbE gw) ng, cell_st (cell_mv1 hbE e4) nb⟩
          | exact ⟨cell_mv1 hbE q2', cell_mv1 hbE gw, cell_mv1 hbE e4⟩
          | exact ⟨cell_mv1 hbD q2', cell_mv1 hbD gw, cell_mv1 hbD e4⟩
          | exact ⟨cell_mv1 hbw q2', cell_mv1 hbw gw, cell_mv1 hbw e4⟩)
        (first
          | (refine step_app (t := 30) (e := 3) (bytes := 8) (base := w4.heap.size) (c := intC) (l := []) (xs := []) (l2 := xk.high) (S := All) rfl (.tmp 47) (.tmp 53) rfl int_elem intC_good rfl rfl hownA hslA (fun _ _ hc => hc) hby1 (by omega) hbA.size ?_; intro v' w' xs' hown' hg' hat'; have hbw : Below w4.heap.size w4 w' := below_app hbA hownA hg' hbA.size; have hownD := hown'.bel (bel1 w' (.cells #[.int .i64 y] 3)); have hslD := sl_int w' All y 3 hyi trivial; have hbD := hbw.alloc hbw.size (.cells #[.int .i64 y] 3); clear hownA hownB hownC hslA hslB hslC)
          | (refine step_app (t := 30) (e := 3) (bytes := 8) (base := w4.heap.size) (c := intC) (l := []) (xs := []) (l2 := xk.high) (S := All) rfl (.tmp 47) (.tmp 53) rfl int_elem intC_good rfl rfl hownB hslB (fun _ _ hc => hc) hby1 (by omega) hbB.size ?_; intro v' w' xs' hown' hg' hat'; have hbw : Below w4.heap.size w4 w' := below_app hbB hownB hg' hbB.size; have hslD := sl_heap1 (hlitB.grown hg' hneB) hyi; have hownD := hown'; have hbD := hbw; clear hownA hownB hownC hslA hslB hslC)
          | (refine step_app (t := 30) (e := 3) (bytes := 8) (base := w4.heap.size) (c := intC) (l := []) (xs := []) (l2 := xk.high) (S := All) rfl (.tmp 47) (.tmp 53) rfl int_elem intC_good rfl rfl hownC hslC (fun _ _ hc => hc) hby1 (by omega) hbC.size ?_; intro v' w' xs' hown' hg' hat'; have hbw : Below w4.heap.size w4 w' := below_app hbC hownC hg' hbC.size; have hslD := sl_heap1 (hlitC.grown hg' hneC) hyi; have hownD := hown'; have hbD := hbw; clear hownA hownB hownC hslA hslB hslC)
          | (refine step_app (t := 30) (e := 3) (bytes := 8) (base := w4.heap.size) (c := intC) (l := xk.high) (l2 := [y]) (S := All) rfl (.tmp 54) (.tmp 56) rfl int_elem intC_good rfl rfl hownD hslD (fun _ _ hc => hc) hby2 (by omega) hbD.size ?_; intro v2 w2 xs2 hown2 hg2 hat2; have hbE := below_app hbD hownD hg2 hbD.size; have o1 := cell_mv1 hbE ow; have of1 := (hbE.frozen (p := ⟨ob, k * 2 + 1, none⟩) hobl).trans ofz; obtain ⟨A8, n8, c8, rfl, hs8⟩ := hown2.sl intC_good))
      all_goals
        go_wp2_with fail
        go_meet
        have HO2 := Own.put catP_flat (HOWN.out.bel hbE) (i := k) (j := 1) (x := ⟨nmk, Ah, nh, ch⟩) (x' := ⟨nmk, A8, n8, c8⟩) (u := .slice A8 n8 c8) HPK.out (by omega) (fun w S cs h => by have hcs : cs = [strV nmk, .slice Ah nh ch] := h; subst hcs; rfl)
        exact ⟨A8, n8, c8, _, HO2, hs8.keep intC_good (by omega) (fun b hb _ => ⟨Below.heap_setCell _ _ _ _ (by simp; omega), trivial⟩), Blk.other (HQ4.out.bel hbE) (by simpa using fun e => nq e.symm) _, (HB6.out.trans (hbE.mono HB6.out.size)).setCell (p := ⟨ob, k * 2 + 1, none⟩) hzW _⟩
    obtain ⟨A8, n8, c8, xs2, hown2, hs8, hQ8, hb8⟩ := hcut
    obtain ⟨A9, n9, c9', he9, hL9⟩ := hown2.sl catP_good
    injection he9 with e1 e2 e3
    subst e1 e2 e3
    have hcats : Sl catC 2 wc All (some ⟨ob, 0, none⟩) n c9 (moreC cats k y) := by
      refine ptrs_cats (hL9.all catP_good (by omega)) (by unfold moreC; rw [List.length_set, List.length_set, HLL.out, HL.out]) (fun i x p hx hp => ?_)
      unfold moreC at hx
      by_cases he : k = i
      · subst he
        rw [List.getElem?_set_self (by rw [HL.out]; exact hkn)] at hx
        rw [List.getElem?_set_self (by rw [HLL.out]; exact hkn)] at hp
        injection hx with hx
        injection hp with hp
        subst hx hp
        have hname : (cats.getD k default).name = xk.name := by rw [getD_of HXK.out]
        have hhigh : (cats.getD k default).high = xk.high := by rw [getD_of HXK.out]
        exact ⟨by rw [hname]; exact HLK.out, by rw [hhigh]; exact hs8, by rw [hname]; exact hl7⟩
      · rw [List.getElem?_set_ne he] at hx hp
        obtain ⟨p', hp', hl⟩ := HLP.out i x hx
        rw [hp] at hp'
        injection hp' with hp'
        subst hp'
        exact hl.bel hb8
    have HBE := Lib.hid (HBW.out.trans (hb8.mono HBW.out.size))
    have hs2 := HS.out ⟨legs, souls, moreC cats k y, cabs⟩ _ _ _ _ _ _ wc hcats (HD.out.bel HBE.out)
    obtain ⟨f, hf⟩ : ∃ f, f = servE ⟨legs, souls, moreC cats k y, cabs⟩ a b := ⟨_, rfl⟩
    obtain ⟨s, hs⟩ : ∃ s, s = okB f (srvB (higC (moreC cats k y)) a.toNat b.toNat) := ⟨_, rfl⟩
    simp only at hs2
    rw [← hf, ← hs] at hs2
    have HSF := Lib.hid (show f = 0 → z = true → s = true from fun h1 h2 => by rw [hs, h1, okB_zero]; exact more_srv cats k y _ _ (by rw [← HZ.out]; exact h2))
    obtain ⟨c0, c1', c2', c3⟩ := hQ8.all
    have HS2 := Lib.hid hs2
    clear hs2
    clear hcats hown2 hs8 hL9 hb8 hf hs
    go_wp2_with fail
    refine HS2.out.mono ?_
    rintro e9 w9 ⟨rfl, hb9⟩
    have HBF := Lib.hid (HBE.out.trans (hb9.mono HBE.out.size))
    clear hb9 c0 c1' c2' c3
    by_cases hf0 : f = 0
    · subst hf0
      cases z
      · skip
        go_wp2_with fail
        go_ret
        exact ⟨rfl, HBF.out⟩
      · obtain rfl : s = true := HSF.out rfl rfl
        go_wp2_with fail
        go_ret
        exact ⟨rfl, HBF.out⟩
    · have hf' : (f != 0) = true := by simpa using hf0
      clear hf0
      go_wp2_with fail
      go_ret
      exact ⟨rfl, HBF.out⟩
  · have h0' : (e != 0) = true := by simpa using h0
    rw [okB_ne h0]
    clear h0
    go_wp2_with fail
    go_ret
    exact ⟨rfl, hb4⟩
set_option maxRecDepth 100000 in
theorem ShipMore_lifted (os : Os) (started : os.Started) (H : Type) (enc : TypeId × Value → H) :
    ReturnsInHanded {} Try.checked os 3 .any (Rows.shipMoreSpec.pre6 enc Try.prog Try.f3 Rows.shipMoreRow.domain false) (Rows.shipMoreSpec.post enc Try.prog Try.f3 false true false false) := by
  refine returnsInHanded_of_change (C := Try.checked) own started (by kernel_rfl) Try.func3
    (ChangeSpec.witness6 (enc := enc) (C := Try.checked) false ⟨#[], #[.agg #[.int .i64 0, .int .i64 0, .slice none 0 0, .slice none 0 0], .int .i64 0, .int .i64 0, .int .i64 0, .int .i64 0], []⟩ 8 (by kernel_rfl) (by kernel_rfl) (by kernel_rfl) (by kernel_rfl)) ?_
  intro W base args ds gs before hval0 hW hcnd _
  have hval : ∀ (j : Nat) t v, Try.f3.params[j]? = some t → args[j]? = some v → Value.okWide Try.prog W .any base t v := hval0
  have hW' := hW
  obtain ⟨p, q, hA0, hV, rfl, hfz, hnd⟩ := hW
  have hA : DataW.TrodAll enc Try.prog W 0 (fun _ => true) true Try.f3.params.toList args.toList ds p := hA0
  rw [Try.params3] at hA hval
  obtain ⟨v0, vs0, d0, ds0, p0, q0, hargs, rfl, rfl, h0, r0⟩ := trodAll_cons hA
  obtain ⟨v1, vs1, d1, ds1, p1, q1, rfl, rfl, rfl, h1, r1⟩ := trodAll_cons r0
  obtain ⟨v2, vs2, d2, ds2, p2, q2, rfl, rfl, rfl, h2, r2⟩ := trodAll_cons r1
  obtain ⟨v3, vs3, d3, ds3, p3, q3, rfl, rfl, rfl, h3, r3⟩ := trodAll_cons r2
  obtain ⟨v4, vs4, d4, ds4, p4, q4, rfl, rfl, rfl, h4, r4⟩ := trodAll_cons r3
  obtain ⟨rfl, rfl, rfl⟩ := trodAll_nil r4
  obtain rfl : args = #[v0, v1, v2, v3, v4] := by cases args; simp_all
  obtain ⟨rfl, rfl⟩ := trodVars_none hV
  have lt0 := arg_lt h0
  have k0 := h0
  obtain ⟨cs0, a0, rfl, w0⟩ := arg_agg (c := shpC) Try.underlying25 opens_shpC (hval 0 25 v0 rfl rfl) h0
  have lt1 := arg_lt h1
  have k1 := h1
  obtain ⟨a1, rfl, w1⟩ := arg_int Try.underlying3 (hval 1 3 v1 rfl rfl) h1
  have lt2 := arg_lt h2
  have k2 := h2
  obtain ⟨a2, rfl, w2⟩ := arg_int Try.underlying3 (hval 2 3 v2 rfl rfl) h2
  have lt3 := arg_lt h3
  have k3 := h3
  obtain ⟨a3, rfl, w3⟩ := arg_int Try.underlying3 (hval 3 3 v3 rfl rfl) h3
  have lt4 := arg_lt h4
  have k4 := h4
  obtain ⟨a4, rfl, w4⟩ := arg_int Try.underlying3 (hval 4 3 v4 rfl rfl) h4
  clear hA0 hval0
  refine (ShipMore_walk W cs0 a0 w0 a1 w1 a2 w2 a3 w3 a4 w4).mono fun e W' ⟨he, bel⟩ => ?_
  subst he
  exact ⟨_, rfl, _, _, _, [], _, [], hW', trodAll_mk1 (shut_bool Try.underlying4 _), (trodAll_cons_mk (Below.trod laidOut (by kernel_rfl) (of_decide_eq_true (by kernel_rfl)) k0 bel lt0) (trodAll_cons_mk (Below.trod laidOut (by kernel_rfl) (of_decide_eq_true (by kernel_rfl)) k1 bel lt1) (trodAll_cons_mk (Below.trod laidOut (by kernel_rfl) (of_decide_eq_true (by kernel_rfl)) k2 bel lt2) (trodAll_cons_mk (Below.trod laidOut (by kernel_rfl) (of_decide_eq_true (by kernel_rfl)) k3 bel lt3) (trodAll_cons_mk (Below.trod laidOut (by kernel_rfl) (of_decide_eq_true (by kernel_rfl)) k4 bel lt4) trodAll_mk0))))), rfl, bel.frame _, fun h => by cases h⟩

/-- THE GIVEN STATEMENT ShipMore. -/
theorem shipMore_holds : Rows.ShipMoreSaid :=
  OpenClaim.holds_of_wide 3 Try.f3 rfl rfl rfl rfl rfl rfl rfl ⟨rfl, rfl, rfl, rfl, rfl⟩ rfl rfl rfl rfl rfl (by kernel_rfl) Try.func3 (by kernel_rfl)
    (of_decide_eq_true (by kernel_rfl)) (by unfold Func.isWrapper; rw [if_neg (of_decide_eq_false (by kernel_rfl))]; exact ⟨rfl, rfl⟩)
    (fun os started H enc _ => ShipMore_lifted os started H enc)
#print axioms shipMore_holds
end Go.Proofs.Ytpodgidamoiakaa
