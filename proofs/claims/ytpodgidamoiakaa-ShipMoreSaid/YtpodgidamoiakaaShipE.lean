/-
  Ships: Check.
-/
import Derived.Test.YtpodgidamoiakaaShipD
import Derived.Deep.CutBlock
namespace Go.Proofs.Ytpodgidamoiakaa
open Go.RowKit Go.Shelf

theorem nodup_le : ∀ (n : Nat) (l : List Int), l.Nodup → (∀ x ∈ l, 0 ≤ x ∧ x < n) → l.length ≤ n
  | 0, [], _, _ => Nat.le_refl _
  | 0, x :: l, _, h => by have := h x (by simp); omega
  | n + 1, l, hn, h => by
    have h1 := nodup_le n (l.erase (n : Int)) (hn.erase _) (fun x hx => by
      have h2 := h x (List.mem_of_mem_erase hx)
      have h3 : x ≠ (n : Int) := (List.Nodup.mem_erase_iff hn).1 hx |>.1
      omega)
    have h4 : l.length ≤ (l.erase (n : Int)).length + 1 := by rw [List.length_erase]; split <;> omega
    omega
theorem high_ok {n : Int} {l : List Int} (h : firstE (highE n l) l.length = 0) : (∀ x ∈ l, 0 ≤ x ∧ x < n) ∧ (l.length : Int) ≤ max n 0 := by
  have hk : ∀ k (hk : k < l.length), (0 ≤ l[k] ∧ l[k] < n) ∧ l[k] ∉ l.take k := fun k hk => by
    have := firstE_zero h k hk
    unfold highE at this
    rw [getD_at hk] at this
    by_cases h1 : betB l[k] 0 (n - 1) = false
    · rw [if_pos h1] at this; omega
    · rw [if_neg h1] at this
      have h2 := betB_iff.1 (by simpa using h1)
      by_cases h3 : (l.take k).contains l[k] = true
      · rw [if_pos h3] at this; omega
      · exact ⟨by omega, by simpa using h3⟩
  have hm : ∀ x ∈ l, 0 ≤ x ∧ x < n := fun x hx => by
    obtain ⟨k, hk1, rfl⟩ := List.getElem_of_mem hx
    exact (hk k hk1).1
  refine ⟨hm, ?_⟩
  have hnd : l.Nodup := by
    unfold List.Nodup
    rw [List.pairwise_iff_getElem]
    intro i j hi hj hij he
    exact (hk j hj).2 (by rw [← he]; exact List.mem_take_iff_getElem.2 ⟨i, by omega, rfl⟩)
  have := nodup_le n.toNat l hnd (fun x hx => by have := hm x hx; omega)
  omega
theorem okCats_of {cats : List Cat} {nms : List (List UInt8)} (h5 : cats.length ≤ 5) (h : firstE (nmE nms (catE cats)) cats.length = 0) : OkCats cats := by
  have hc : ∀ c ∈ cats, (∀ x ∈ c.high, 0 ≤ x ∧ x < cats.length) ∧ (c.high.length : Int) ≤ max (cats.length : Int) 0 := fun c hc => by
    obtain ⟨k, hk, rfl⟩ := List.getElem_of_mem hc
    have := firstE_zero h k hk
    unfold nmE at this
    by_cases h1 : nameB (nms.getD k []) = false
    · rw [if_pos h1] at this; omega
    · rw [if_neg h1] at this
      by_cases h2 : (nms.take k).contains (nms.getD k []) = true
      · rw [if_pos h2] at this; omega
      · rw [if_neg h2] at this
        unfold catE at this
        rw [getD_at hk] at this
        exact high_ok this
  refine ⟨h5, fun l hl x hx => ?_, fun c hcm => by have := (hc c hcm).2; omega⟩
  unfold higC at hl
  obtain ⟨c, hcm, rfl⟩ := List.mem_map.1 hl
  have := (hc c hcm).1 x hx
  simpa [higC] using this

theorem str_elem : ElemOf Try.prog 83 9 1 16 := .mk' Try.underlying83 (z := strV []) (by kernel_rfl) rfl (by omega)
theorem sl_str (w : World) (S : Nat → Prop) (x : List UInt8) (t : TypeId) (hx : x.length ≤ maxLen) (hS : S w.heap.size) : Sl strC 1 (w.alloc (.cells #[strV x] t)) S (some ⟨w.heap.size, 0, none⟩) 1 1 [x] :=
  Sl.lit1 w S t x [strV x] ⟨rfl, hx⟩ hS
theorem Blk.grown {w w' : World} {b : Nat} {cs : Array Value} {t : TypeId} {row : Option Nat} (h : Blk w b cs t) (hg : w.grownBy w' row) (hr : some b ≠ row) : Blk w' b cs t := (hg.block b h.lt hr).trans h
theorem shp_codes (x : Shp) : shipE x = 0 ∨ shipE x ≠ 0 := by omega

set_option maxRecDepth 100000 in
set_option maxHeartbeats 20000000 in
theorem shipCheck_any (x : Shp) (A : Option Addr) (n cap : Nat) (B : Option Addr) (m cap2 : Nat) (w : World) (hc : Sl catC 2 w All A n cap x.cats) (hb : Sl cabC 4 w All B m cap2 x.cabs) :
    Calls Try.prog 18 #[.agg #[.int .i64 x.legs, .int .i64 x.souls, .slice A n cap, .slice B m cap2]] w fun e w' => e = .returned (.int .i64 (shipE x)) ∧ Below w.heap.size w w' := by
  obtain ⟨legs, souls, cats, cabs⟩ := x
  simp only at hc hb ⊢
  have hcl := hc.len
  have hbl := hb.len
  obtain ⟨r, hr⟩ : ∃ r, r = shipE ⟨legs, souls, cats, cabs⟩ := ⟨_, rfl⟩
  rw [← hr]
  have HR := Lib.hid hr
  clear hr
  have HCL := Lib.hid hcl
  clear hcl
  have HBL := Lib.hid hbl
  clear hbl
  have HC := Lib.hid hc
  clear hc
  have HBB := Lib.hid hb
  clear hb
  go_enter Try.func18, Try.ntmps18
  go_upto_region 0 with (fail)
  go_cut [1, 2] (fun p _ wx => ∃ g, p = .pointer (some ⟨g, 0, none⟩) ∧ ShpAt wx g legs souls A n cap B m cap2 ∧ Below w.heap.size w wx)
  case first => as_aux_lemma =>
    go_wp2_with fail
    go_meet
    exact ⟨_, rfl, blk1 _ _, bel1 _ _⟩
  obtain ⟨g, rfl, hG, hb⟩ := hcut
  obtain ⟨g0, g1, g2, g3⟩ := hG.all
  have hw1 := fun W => legs_any legs W
  have hw2 := fun W => swithin_any souls 1 60 W
  unfold legsB at hw1
  cases b1 : betB legs 1 7
  · have hr : r = 3 := by rw [HR.out]; unfold shipE; rw [if_pos (.inl b1)]
    subst hr
    rw [b1] at hw1
    clear b1
    go_wp2_with fail
    refine (hw1 _).mono ?_
    rintro e w9 ⟨rfl, rfl⟩
    go_wp2_with fail
    go_ret
    exact ⟨rfl, hb⟩
  have HB1 := Lib.hid b1
  rw [b1] at hw1
  clear b1
  go_wp2_with fail
  refine (hw1 _).mono ?_
  rintro e w9 ⟨rfl, rfl⟩
  clear hw1
  cases b2 : betB souls 1 60
  · have hr : r = 3 := by rw [HR.out]; unfold shipE; rw [if_pos (.inr b2)]
    subst hr
    rw [b2] at hw2
    clear b2
    go_wp2_with fail
    refine (hw2 _).mono ?_
    rintro e w9 ⟨rfl, rfl⟩
    go_wp2_with fail
    go_ret
    exact ⟨rfl, hb⟩
  have hr2 := HR.out
  unfold shipE at hr2
  rw [if_neg (by rw [HB1.out, b2]; simp)] at hr2
  simp only [HCL.out, HBL.out] at hr2
  have HR2 := Lib.hid hr2
  clear hr2
  rw [b2] at hw2
  clear b2
  go_wp2_with fail
  refine (hw2 _).mono ?_
  rintro e w9 ⟨rfl, rfl⟩
  clear hw2
  by_cases h0 : 5 < n
  · have hr : r = 2 := by rw [HR2.out, if_pos (.inl h0)]
    subst hr
    go_wp2_with fail
    go_ret
    exact ⟨rfl, hb⟩
  by_cases h1 : 12 < m
  · have hr : r = 2 := by rw [HR2.out, if_pos (.inr h1)]
    subst hr
    go_wp2_with fail
    go_ret
    exact ⟨rfl, hb⟩
  have HR3 := Lib.hid (HR2.out.trans (if_neg (by omega)))
  by_cases h2 : n = 0
  · have hr : r = 5 := by rw [HR3.out, if_pos (.inl h2)]
    subst hr
    subst h2
    go_wp2_with fail
    go_ret
    exact ⟨rfl, hb⟩
  by_cases h3 : m = 0
  · have hr : r = 5 := by rw [HR3.out, if_pos (.inr h3)]
    subst hr
    subst h3
    go_wp2_with fail
    go_ret
    exact ⟨rfl, hb⟩
  have HR4 := Lib.hid (HR3.out.trans (if_neg (by omega)))
  have d1 : decide ((5 : Int) < (n : Int)) = false := decide_eq_false (by omega)
  have d2 : decide ((12 : Int) < (m : Int)) = false := decide_eq_false (by omega)
  have d3 : ((n : Int) == 0) = false := by simpa using h2
  have d4 : ((m : Int) == 0) = false := by simpa using h3
  go_upto_region 7 with (fail)
  go_cut [3, 4] (fun p v wx => ∃ h, p = .pointer (some ⟨h, 0, none⟩) ∧ v = .slice none 0 0 ∧ g < h ∧ w.heap.size ≤ h ∧ Blk wx h #[.slice none 0 0] 83 ∧ ShpAt wx g legs souls A n cap B m cap2 ∧ Below w.heap.size w wx)
  case first => as_aux_lemma =>
    go_wp2_with fail
    go_meet
    exact ⟨_, rfl, rfl, hG.lt, hb.size, blk1 _ _, hG.bel (bel1 _ _), hb.trans ((bel1 _ _).mono hb.size)⟩
  obtain ⟨h, rfl, rfl, hgh, hsh, hH, hG2, hb2⟩ := hcut
  clear hG hb g0 g1 g2 g3 d1 d2 d3 d4
  obtain ⟨g0, g1, g2, g3⟩ := hG2.all
  have hcl := HCL.out
  have HH := Lib.hid hH
  have HG := Lib.hid hG2
  have HB2 := Lib.hid hb2
  have hgl := Blk.lt hG2
  have hhl := Blk.lt hH
  obtain ⟨W1, hW1⟩ : ∃ W1, W1 = wc := ⟨_, rfl⟩
  subst hW1
  obtain ⟨BS, hBS⟩ : ∃ BS, BS = W1.heap.size := ⟨_, rfl⟩
  clear hH hG2 hb2
  have hhB : h < BS := by omega
  have HBS := Lib.hid hBS
  clear hBS
  go_upto_block 1 with (fail)
  go_cut [46] (fun _ wx => ∃ (v : Value) (xs : List Value), Blk wx h #[v] 83 ∧ Own strC 1 9 wx BS v (catNames cats) xs ∧ Below h W1 wx)
  case first => as_aux_lemma =>
    go_wp2_with fail
    go_loopg [46] n (fun gk i wr => ∃ (k : Nat) (v : Value) (xs : List Value), k ≤ n ∧ n - k ≤ gk ∧ i = .int .i64 k ∧ Blk wr h #[v] 83 ∧ Own strC 1 9 wr BS v ((catNames cats).take k) xs ∧ Below h W1 wr)
    case atStart => exact ⟨0, _, [], Nat.zero_le _, by omega, rfl, HH.out, by rw [List.take_zero]; exact Own.nil _ _ _ _ _, Below.refl _ _⟩
    case round =>
      obtain ⟨k, v, xs, hk, hgk, rfl, hbh, hown, hb⟩ := hrel
      by_cases hlt : k < n
      · obtain ⟨b, off, x, c0, c1, rfl, hx, ⟨A2, n2, cap2', hcs, hs2, hxl⟩, e0, e1⟩ := (HC.out.keep (w' := wr) (S' := All) catC_good (by omega) (fun q _ hq => ⟨(hb.block q (by omega)).trans (HB2.out.block q hq), trivial⟩)).at2 hlt
        simp only [List.cons.injEq, and_true] at hcs
        obtain ⟨rfl, rfl⟩ := hcs
        have HT := Lib.hid (show (catNames cats).take (k + 1) = (catNames cats).take k ++ [x.name] from take_snoc (by unfold catNames; rw [List.getElem?_map, hx]; rfl))
        have HL := Lib.hid (show ((catNames cats).take k).length = k by rw [List.length_take]; unfold catNames; rw [List.length_map]; omega)
        have HXL := Lib.hid hxl
        have hhr := hbh.lt
        have hsz0 := Lib.hid hb.size
        have hwr : BS ≤ wr.heap.size := by have := HBS.out; have := hsz0.out; omega
        have HBH := Lib.hid hbh
        have HOWN := Lib.hid hown
        clear hx hs2 hxl hbh hown
        go_upto_region 10 with (fail)
        go_cut [6] (fun p wx => ∃ q, p = .pointer (some ⟨q, 0, none⟩) ∧ Blk wx q #[strV x.name, .slice A2 n2 cap2'] 32 ∧ Below wr.heap.size wr wx)
        case first => as_aux_lemma =>
          go_wp2_with fail
          go_meet
          exact ⟨_, rfl, blk1 _ _, bel1 _ _⟩
        obtain ⟨q, rfl, hq, hb3⟩ := hcut
        have hb4 := hb.trans (hb3.mono (by omega))
        have hb5 := hb4.alloc (by have := hb3.size; omega) (.cells #[strV x.name] 9)
        have q0 : wc.cell? ⟨q, 0, none⟩ = some (strV x.name) := hq.cell rfl
        have hbh3 := HBH.out.bel hb3
        have h0 : wc.cell? ⟨h, 0, none⟩ = some v := hbh3.cell rfl
        have hOq := (HOWN.out.bel hb3).bel (bel1 wc (.cells #[strV x.name] 9))
        have hbh4 := hbh3.bel (bel1 wc (.cells #[strV x.name] 9))
        have hsq : BS ≤ (wc.alloc (.cells #[strV x.name] 9)).heap.size := by have := HBS.out; have := hb5.size; omega
        have HOQ := Lib.hid hOq
        have HB5 := Lib.hid hb5
        have HBH4 := Lib.hid hbh4
        clear hb hb3 hb4 hb5 hbh3 hOq hbh4 hq
        go_wp2_with (at_builtin; refine list_app (t := 83) (e := 9) (bytes := 16) rfl (.tmp 50) (.tmp 53) rfl str_elem strC_good rfl HOQ.out rfl (sl_str _ All x.name 9 HXL.out trivial) (fun _ _ hc => hc) (by rw [HL.out]; omega) (by omega) hsq ?_; intro v' w' xs' hown' hg' _; obtain ⟨A5, n5, c5, rfl, _⟩ := hown'.sl strC_good; have hbh' := HBH4.out.grown hg' (fun e => by have := (HOQ.out.lt h e.symm).1; omega); have hcell' : w'.cell? ⟨h, 0, none⟩ = some v := hbh'.cell rfl; have hfr' := hbh'.free 0; have HBE := Lib.hid (HB5.out.grown hg' (Nat.le_trans (by omega) hsq) (fun j hj => by have := (HOQ.out.lt j hj).1; omega)); have HBH5 := Lib.hid hbh'; have HOWN5 := Lib.hid hown'; clear hg' hbh' hown')
        go_roundg (n - (k + 1))
        case measure => omega
        case rel => exact ⟨k + 1, _, xs', by omega, by omega, by go_num, HBH5.out.set _, by rw [HT.out]; exact own_setCell_flat strC_flat HOWN5.out (fun e => by have := (HOWN5.out.lt h e).1; omega) _, HBE.out.setCell (Nat.le_refl _) _⟩
      · obtain rfl : k = n := by omega
        have HT := Lib.hid (show (catNames cats).take k = catNames cats from List.take_of_length_le (by unfold catNames; rw [List.length_map]; omega))
        rw [HT.out] at hown
        have HBH := Lib.hid hbh
        have HOWN := Lib.hid hown
        have HB := Lib.hid hb
        clear hbh hown hb
        go_wp2_with fail
        go_meet
        exact ⟨v, xs, HBH.out, HOWN.out, HB.out⟩
  obtain ⟨v, xs, hbh, hown, hb⟩ := hcut
  obtain ⟨A3, n3, c3, rfl, hs3⟩ := hown.sl strC_good
  obtain rfl : n3 = n := by rw [← hs3.len]; unfold catNames; rw [List.length_map]; exact HCL.out
  have HS3 := Lib.hid (hs3.all strC_good (by omega))
  have HB3 := Lib.hid (HB2.out.trans (hb.mono hsh))
  have HG3 := Lib.hid (show ShpAt wc g legs souls A n3 cap B m cap2 from (hb.block g hgh).trans HG.out)
  have HH3 := Lib.hid hbh
  obtain ⟨W2, hW2⟩ : ∃ W2, W2 = wc := ⟨_, rfl⟩
  subst hW2
  clear hown hs3 hbh hb HG HH HB2 g0 g1 g2 g3 hgl hhl HBS hhB
  obtain ⟨g0, g1, g2, g3⟩ := HG3.out.all
  have hbl := HBL.out
  go_upto_block 3 with (fail)
  go_cut [4, 59] (fun v _ wx => ∃ (xs : List Value), Own strC 1 9 wx W2.heap.size v (cabNames cabs) xs ∧ Below W2.heap.size W2 wx)
  case first => as_aux_lemma =>
    go_wp2_with fail
    go_loopg [4, 59] m (fun gk v i wr => ∃ (k : Nat) (xs : List Value), k ≤ m ∧ m - k ≤ gk ∧ i = .int .i64 k ∧ Own strC 1 9 wr W2.heap.size v ((cabNames cabs).take k) xs ∧ Below W2.heap.size W2 wr)
    case atStart => exact ⟨0, [], Nat.zero_le _, by omega, rfl, by rw [List.take_zero]; exact Own.nil _ _ _ _ _, Below.refl _ _⟩
    case round =>
      obtain ⟨k, xs, hk, hgk, rfl, hown, hb⟩ := hrel
      by_cases hlt : k < m
      · obtain ⟨b, off, x, c0, c1, c2, c3', rfl, hx, ⟨hcs, hxl, _, _⟩, e0, e1, e2, e3⟩ := (HBB.out.bel (HB3.out.trans (hb.mono HB3.out.size))).at4 hlt
        simp only [List.cons.injEq, and_true] at hcs
        obtain ⟨rfl, rfl, rfl, rfl⟩ := hcs
        have HT := Lib.hid (show (cabNames cabs).take (k + 1) = (cabNames cabs).take k ++ [x.name] from take_snoc (by unfold cabNames; rw [List.getElem?_map, hx]; rfl))
        have HL := Lib.hid (show ((cabNames cabs).take k).length = k by rw [List.length_take]; unfold cabNames; rw [List.length_map]; omega)
        have HXL := Lib.hid hxl
        have HOWN := Lib.hid hown
        obtain ⟨A5, n5, c5, rfl, _⟩ := hown.sl strC_good
        have hwr := hb.size
        clear hx hxl hown
        go_upto_region 15 with (fail)
        go_cut [8] (fun p wx => ∃ q, p = .pointer (some ⟨q, 0, none⟩) ∧ Blk wx q #[strV x.name, .int .i64 x.cat, .int .i64 x.ber, .bool x.lev] 82 ∧ Below wr.heap.size wr wx)
        case first => as_aux_lemma =>
          go_wp2_with fail
          go_meet
          exact ⟨_, rfl, blk1 _ _, bel1 _ _⟩
        obtain ⟨q, rfl, hq, hb3⟩ := hcut
        have hb4 := hb.trans (hb3.mono (by omega))
        have hb5 := hb4.alloc (by have := hb3.size; omega) (.cells #[strV x.name] 9)
        have q0 : wc.cell? ⟨q, 0, none⟩ = some (strV x.name) := hq.cell rfl
        have hOq := (HOWN.out.bel hb3).bel (bel1 wc (.cells #[strV x.name] 9))
        have hsq : W2.heap.size ≤ (wc.alloc (.cells #[strV x.name] 9)).heap.size := hb5.size
        have HOQ := Lib.hid hOq
        have HB5 := Lib.hid hb5
        clear hb hb3 hb4 hb5 hOq hq
        go_wp2_with (at_builtin; refine list_app (t := 83) (e := 9) (bytes := 16) rfl (.tmp 63) (.tmp 66) rfl str_elem strC_good rfl HOQ.out rfl (sl_str _ All x.name 9 HXL.out trivial) (fun _ _ hc => hc) (by rw [HL.out]; omega) (by omega) hsq ?_; intro v' w' xs' hown' hg' _; obtain ⟨A6, n6, c6, rfl, _⟩ := hown'.sl strC_good; have HBE := Lib.hid (HB5.out.grown hg' hsq (fun j hj => (HOQ.out.lt j hj).1)); have HOWN5 := Lib.hid hown'; clear hg' hown')
        go_roundg (m - (k + 1))
        case measure => omega
        case rel => exact ⟨k + 1, xs', by omega, by omega, by go_num, by rw [HT.out]; exact HOWN5.out, HBE.out⟩
      · obtain rfl : k = m := by omega
        have HT := Lib.hid (show (cabNames cabs).take k = cabNames cabs from List.take_of_length_le (by unfold cabNames; rw [List.length_map]; omega))
        rw [HT.out] at hown
        have HOWN := Lib.hid hown
        have HB := Lib.hid hb
        clear hown hb
        go_wp2_with fail
        go_meet
        exact ⟨xs, HOWN.out, HB.out⟩
  obtain ⟨xs, hown, hb⟩ := hcut
  obtain ⟨A4, n4, c4, rfl, hs4⟩ := hown.sl strC_good
  obtain rfl : n4 = m := by rw [← hs4.len]; unfold cabNames; rw [List.length_map]; exact HBL.out
  have HB4 := Lib.hid (HB3.out.trans (hb.mono HB3.out.size))
  have HS4 := Lib.hid (hs4.all strC_good (by omega))
  have HG4 := Lib.hid (HG3.out.bel hb)
  have HS5 := Lib.hid (HS3.out.bel hb)
  have hH4 := HH3.out.bel hb
  have h0c : wc.cell? ⟨h, 0, none⟩ = some (.slice A3 n3 c3) := hH4.cell rfl
  have HH4 := Lib.hid hH4
  have hcl := HCL.out
  clear hown hs4 hb hH4 HB3 HS3 HG3 HH3 g0 g1 g2 g3
  obtain ⟨W3, hW3⟩ : ∃ W3, W3 = wc := ⟨_, rfl⟩
  subst hW3
  have mv : ∀ {X : World} {p q : Nat} {v : Value}, Below W3.heap.size W3 X → W3.cell? ⟨p, q, none⟩ = some v → X.cell? ⟨p, q, none⟩ = some v := fun hX hc => (World.cell?_of_block (a := ⟨_, _, none⟩) (hX.block _ (cell_lt hc))).trans hc
  have hn1 := names_any A3 n3 c3 (catNames cats) 54 #[.pointer (some ⟨g, 0, none⟩), .pointer (some ⟨h, 0, none⟩)] (catE cats) W3 HS5.out (enters_of Try.func54 (by kernel_rfl) rfl)
    (fun k w1 hk hbx => by simpa using Check1_any legs souls A n3 cap cats B n4 cap2 g h k A3 c3 w1 (HC.out.bel (HB4.out.trans (hbx.mono HB4.out.size))) (HG4.out.bel hbx) (mv hbx (HH4.out.cell rfl)) hk (by omega))
  have hn2 := fun W (hX : Below W3.heap.size W3 W) => names_any A4 n4 c4 (cabNames cabs) 57 #[.pointer (some ⟨g, 0, none⟩)] (fun k => cabE n3 (cabs.getD k default)) W (HS4.out.bel hX) (enters_of Try.func57 (by kernel_rfl) rfl)
    (fun k w1 hk hbx => by simpa using Check2_any legs souls A n3 cap cabs B n4 cap2 g k w1 ((HBB.out.bel (HB4.out.trans (hX.mono HB4.out.size))).bel hbx) ((HG4.out.bel hX).bel hbx) hk (by omega))
  rw [show (catNames cats).length = n3 by unfold catNames; rw [List.length_map]; exact hcl] at hn1
  rw [show (cabNames cabs).length = n4 by unfold cabNames; rw [List.length_map]; exact hbl] at hn2
  obtain ⟨e1, he1⟩ : ∃ e1, e1 = firstE (nmE (catNames cats) (catE cats)) n3 := ⟨_, rfl⟩
  obtain ⟨e2, he2⟩ : ∃ e2, e2 = firstE (nmE (cabNames cabs) (fun k => cabE n3 (cabs.getD k default))) n4 := ⟨_, rfl⟩
  obtain ⟨q, hq⟩ : ∃ q, q = rndB (higC cats) n3 := ⟨_, rfl⟩
  have hr5 := HR4.out
  rw [← he1] at hn1 hr5
  rw [← he2] at hn2 hr5
  rw [← hq] at hr5
  have HOK := Lib.hid (fun (h0 : e1 = 0) => okCats_of (cats := cats) (nms := catNames cats) (by omega) (by rw [hcl, ← he1]; exact h0))
  have HRD := Lib.hid (fun W hW ho => round_any legs souls A n3 cap cats (.slice B n4 cap2) W hW ho)
  rw [← hq] at HRD
  have HN1 := Lib.hid hn1
  clear hn1
  have HN2 := Lib.hid hn2
  clear hn2
  have HR5 := Lib.hid hr5
  clear hr5
  clear HR HR2 HR3 HR4 he1 he2 hq mv hcl hbl h0 h1 h2 h3 h0c
  have h0c : W3.cell? ⟨h, 0, none⟩ = some (.slice A3 n3 c3) := HH4.out.cell rfl
  go_wp2_with fail
  refine HN1.out.mono ?_
  rintro e w5 ⟨rfl, hb5⟩
  by_cases hz : e1 = 0
  · subst hz
    obtain ⟨g0, g1, g2, g3⟩ := (HG4.out.bel hb5).all
    have hrd := HRD.out w5 (HC.out.bel (HB4.out.trans (hb5.mono HB4.out.size))) (HOK.out rfl)
    have HRND := Lib.hid hrd
    clear hrd
    have HR6 := Lib.hid (show r = if q = true then 4 else e2 from HR5.out.trans (if_neg (by simp)))
    go_wp2_with fail
    refine HRND.out.mono ?_
    rintro e w6 ⟨rfl, hb6⟩
    have hb7 := hb5.trans (hb6.mono hb5.size)
    clear g0 g1 g2 g3 hb5 hb6
    cases q
    · have hr : r = e2 := HR6.out
      subst hr
      go_wp2_with fail
      refine (HN2.out _ hb7).mono ?_
      rintro e w8 ⟨rfl, hb8⟩
      have hb9 := Lib.hid (HB4.out.trans ((hb7.trans (hb8.mono hb7.size)).mono HB4.out.size))
      clear hb8 hb7
      go_wp2_with fail
      go_ret
      exact ⟨rfl, hb9.out⟩
    · have hr : r = 4 := HR6.out
      subst hr
      have hb9 := Lib.hid (HB4.out.trans (hb7.mono HB4.out.size))
      clear hb7
      go_wp2_with fail
      go_ret
      exact ⟨rfl, hb9.out⟩
  · have hr : r = e1 := HR5.out.trans (if_pos hz)
    subst hr
    have hz' : (r == 0) = false := by simpa using hz
    have hb9 := Lib.hid (HB4.out.trans (hb5.mono HB4.out.size))
    clear hz hb5
    go_wp2_with fail
    go_ret
    exact ⟨rfl, hb9.out⟩
end Go.Proofs.Ytpodgidamoiakaa
