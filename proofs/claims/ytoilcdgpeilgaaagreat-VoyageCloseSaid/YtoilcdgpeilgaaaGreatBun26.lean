/-
  Words, laws and contracts: StockX, StockJ.
-/
import Derived.Test.YtoilcdgpeilgaaaGreatBun25
set_option linter.unusedSimpArgs false
set_option linter.unusedVariables false
namespace Go.Proofs.YtoilcdgpeilgaaaGreat
open Go.RowKit Go.Shelf
def bksS (x : Sai) (l : List Bkg) : Sai := { x with bks := l }
theorem rise_pw {l : List Bkg} : Rise l ↔ l.Pairwise (fun a b => a.id < b.id) := by
  constructor
  · intro h
    exact List.pairwise_iff_getElem.2 fun i j hi hj hij => h i j _ _ hij (List.getElem?_eq_getElem hi) (List.getElem?_eq_getElem hj)
  · intro h i j a b hij ha hb
    obtain ⟨hi, rfl⟩ := List.getElem?_eq_some_iff.1 ha
    obtain ⟨hj, rfl⟩ := List.getElem?_eq_some_iff.1 hb
    exact List.pairwise_iff_getElem.1 h i j hi hj hij
theorem bksE_sub {x : Sai} {l : List Bkg} (ho : OkBs x) (he : ∀ b ∈ x.bks, ofE x.ship b = 0) (hs : l.Sublist x.bks) : bksE (bksS x l) = 0 := by
  have hr : l.Pairwise (fun a b => a.id < b.id) := (rise_pw.1 (rise_of ho.rise)).sublist hs
  have hlen := hs.length_le
  have h16 := ho.len
  unfold bksE
  rw [show (bksS x l).bks = l from rfl, if_neg (show ¬ 16 < l.length by omega), show firstE (bkE1 (bksS x l)) l.length = 0 from firstE_none fun i hi => by
    have hx : (bksS x l).bks[i]? = some l[i] := List.getElem?_eq_getElem hi
    rw [bkE1_at hx, show ofE (bksS x l).ship l[i] = 0 from he _ (hs.subset (List.getElem_mem hi)), if_neg (by simp), if_neg]
    rintro ⟨h0, h1⟩
    have hp : (bksS x l).bks.getD (i - 1) default = l[i - 1]'(by omega) := by rw [List.getD_eq_getElem?_getD]; show (l[i - 1]?).getD default = _; rw [List.getElem?_eq_getElem (by omega)]; rfl
    rw [hp] at h1
    have := List.pairwise_iff_getElem.1 hr (i - 1) i (by omega) hi (by omega)
    omega, if_neg (by simp), if_neg]
  rw [Bool.not_eq_true]
  refine List.any_eq_false.2 fun b hb => ?_
  exact List.any_eq_false.1 ho.bad b (hs.subset hb)
theorem twice_sub {x : Sai} {l : List Bkg} (ho : OkBs x) (h2 : twiceB x = false) (hs : l.Sublist x.bks) : twiceB (bksS x l) = false := by
  unfold twiceB at h2 ⊢
  refine List.any_eq_false.2 fun c hc => ?_
  have htk := List.any_eq_false.1 h2 c hc
  have htk : takB x.bks (c : Int) = true := by simpa using htk
  unfold takB at htk
  obtain ⟨out, hout⟩ := Option.isSome_iff_exists.1 htk
  have hfl : ∀ q ∈ x.bks, q.frm < q.upto := fun q hq => (bk_span ho.ship (ho.bk q hq)).2.1
  obtain ⟨hp, hpw⟩ := spF_some (fun s hs => by
    unfold spL at hs
    obtain ⟨q, hq, rfl⟩ := List.mem_map.1 hs
    exact hfl q (List.mem_filter.1 hq).1) hout
  have hpw2 : out.Pairwise (fun s t => meetB s t = false) := hpw.imp fun {s t} h => by unfold meetB; simp; omega
  have hls : (spL x.bks c).Pairwise (fun s t => meetB s t = false) := (hp.pairwise_iff (fun {s t} h => by unfold meetB at h ⊢; simp at h ⊢; omega)).1 hpw2
  have hls2 : (spL l c).Pairwise (fun s t => meetB s t = false) := hls.sublist ((hs.filter _).map _)
  obtain ⟨o, ho2⟩ := spF_apart (fun s h => by
    unfold spL at h
    obtain ⟨q, hq, rfl⟩ := List.mem_map.1 h
    exact hfl q (hs.subset (List.mem_filter.1 hq).1)) hls2
  have := (tak_of ho2).1
  show ¬ (!takB l (c : Int)) = true
  rw [this]; simp
theorem soulK_sub {l l' : List Bkg} (hs : l'.Sublist l) (hg : ∀ b ∈ l, 0 ≤ b.gst) (k : Nat) : soulK l' k ≤ soulK l k := by
  unfold soulK
  induction hs with
  | slnil => exact Int.le_refl _
  | cons b _ ih =>
    have h1 := ih fun q hq => hg q (List.mem_cons_of_mem _ hq)
    have h2 := hg b (List.mem_cons_self ..)
    rw [List.map_cons, List.sum_cons]
    split <;> omega
  | cons_cons b _ ih =>
    have h1 := ih fun q hq => hg q (List.mem_cons_of_mem _ hq)
    rw [List.map_cons, List.sum_cons, List.map_cons, List.sum_cons]
    omega
theorem mx_le {l : List Int} {n : Int} (h : ∀ x ∈ l, x ≤ n) (h0 : -1 ≤ n) : mx l ≤ n := by
  rcases (foldl_ge l (-1)).2.2 with e | e
  · unfold mx; rw [e]; exact h0
  · exact h _ e
theorem souls_sub {x : Sai} {l : List Bkg} (ho : OkBs x) (h : ¬ x.ship.souls < mx (soulL x.bks x.ship.legs.toNat)) (hs : l.Sublist x.bks) : ¬ x.ship.souls < mx (soulL l x.ship.legs.toNat) := by
  have h1 := mx_lo (soulL x.bks x.ship.legs.toNat)
  have h2 : mx (soulL l x.ship.legs.toNat) ≤ mx (soulL x.bks x.ship.legs.toNat) := mx_le (fun y hy => by
    unfold soulL at hy
    obtain ⟨k, hk, rfl⟩ := List.mem_map.1 hy
    have h3 := soulK_sub hs (fun b hb => by have := (ho.bk b hb).gst; omega) k
    have h4 : soulK x.bks k ≤ mx (soulL x.bks x.ship.legs.toNat) := mx_ge (List.mem_map.2 ⟨k, hk, rfl⟩)
    omega) h1
  omega
theorem saiE_sub {x : Sai} {l : List Bkg} (h : saiE x = 0) (hs : l.Sublist x.bks) (hall : allB (idsL (bksS x l)).length (edgL (bksS x l)) = true) : saiE (bksS x l) = 0 := by
  have ho := sai_ok h
  obtain ⟨hz, hb⟩ := bks_zero h
  obtain ⟨r1, r2, _⟩ := room_ok ho.room
  have hr : roomE (bksS x l) = 0 := by
    unfold roomE
    rw [if_neg (by rw [twice_sub ho.bs r1 hs]; simp), if_neg (show ¬ (bksS x l).ship.souls < mx (soulL (bksS x l).bks (bksS x l).ship.legs.toNat) from souls_sub (x := x) (l := l) ho.bs r2 hs), if_pos hall]
  unfold saiE
  rw [show shipE (bksS x l).ship = 0 from hz, if_neg (by simp), show fareE (bksS x l).fares (bksS x l).ship.cats.length (bksS x l).ship.legs = 0 from ho.fares, if_neg (by simp), if_neg (by
    show ¬ (betB x.day 0 9999 && betB x.leaves 0 9999) = false
    rw [ho.day, ho.leaves]; simp), bksE_sub ho.bs (fun b hb' => by
    obtain ⟨i, hi⟩ := List.getElem?_of_mem hb'
    exact of_all hb i b hi) hs, if_neg (by simp), hr]
  rfl
theorem mem_edgF (x : Sai) : ∀ (os : List Bkg) (i : Nat) (e : Edg), e ∈ edgF x os i ↔ ∃ (d : Nat) (b : Bkg), os[d]? = some b ∧ e.lft = ((i + d : Nat) : Int) ∧ e.rgt ∈ mayL x b
  | [], _, e => by simp [edgF]
  | b :: os, i, e => by
    simp only [edgF, List.mem_append, List.mem_map, mem_edgF x os (i + 1) e]
    constructor
    · rintro (⟨c, hc, rfl⟩ | ⟨d, q, hd, he, hm⟩)
      · exact ⟨0, b, rfl, rfl, hc⟩
      · exact ⟨d + 1, q, by simpa using hd, by rw [he]; congr 1; omega, hm⟩
    · rintro ⟨d, q, hd, he, hm⟩
      rcases d with _ | d
      · obtain rfl : b = q := by simpa using hd
        exact .inl ⟨e.rgt, hm, by obtain ⟨a, c⟩ := e; simp only at he ⊢; rw [he]; rfl⟩
      · exact .inr ⟨d, q, by simpa using hd, by rw [he]; congr 1; omega, hm⟩
theorem mem_nbrsL (x : Sai) (d c : Nat) : c ∈ nbrs (edgL x) d ↔ ∃ b, (openL x)[d]? = some b ∧ (c : Int) ∈ mayL x b := by
  unfold nbrs edgL
  simp only [List.mem_map, List.mem_filter, mem_edgF, decide_eq_true_eq]
  constructor
  · rintro ⟨e, ⟨⟨d', b, hd, he, hm⟩, hl⟩, rfl⟩
    obtain rfl : d' = d := by omega
    refine ⟨b, hd, ?_⟩
    obtain ⟨q, _, hq⟩ := List.mem_map.1 hm
    rw [← hq]
    rw [← hq] at hm
    exact hm
  · rintro ⟨b, hd, hm⟩
    exact ⟨⟨d, c⟩, ⟨⟨d, b, hd, by simp, hm⟩, rfl⟩, rfl⟩
def Sdr (x : Sai) (os : List Bkg) : Prop := ∃ ps : List (Bkg × Nat), ps.map (·.1) = os ∧ (ps.map (·.2)).Nodup ∧ ∀ p ∈ ps, (p.2 : Int) ∈ mayL x p.1
theorem sdr_of {x : Sai} (h : AllM (openL x).length (edgL x)) : Sdr x (openL x) := by
  obtain ⟨M, hM, hn⟩ := h
  have hlt : ∀ p ∈ M, p.1 < (openL x).length := fun p hp => by
    obtain ⟨b, hb, _⟩ := (mem_nbrsL x p.1 p.2).1 (hM.edge p hp)
    exact (List.getElem?_eq_some_iff.1 hb).1
  have hex : ∀ i, i < (openL x).length → ∃ c, (i, c) ∈ M := fun i hi => by
    apply Classical.byContradiction
    intro hno
    have h1 := len_sub (M.map (·.1)) ((List.range (openL x).length).erase i) hM.lefts (fun y hy => by
      obtain ⟨p, hp, rfl⟩ := List.mem_map.1 hy
      refine (List.mem_erase_of_ne (fun e => hno ⟨p.2, ?_⟩)).2 (List.mem_range.2 (hlt p hp))
      rw [← e]; exact hp)
    rw [List.length_map, hn, List.length_erase_of_mem (List.mem_range.2 hi), List.length_range] at h1
    omega
  obtain ⟨f, hf⟩ : ∃ f : Nat → Nat, ∀ i, i < (openL x).length → (i, f i) ∈ M := ⟨fun i => if h : i < (openL x).length then (hex i h).choose else 0, fun i hi => by simp only [hi, dif_pos]; exact (hex i hi).choose_spec⟩
  refine ⟨(List.range (openL x).length).map (fun i => ((openL x).getD i default, f i)), ?_, ?_, ?_⟩
  · rw [List.map_map]
    refine List.ext_getElem (by simp) fun i h1 h2 => ?_
    simp [List.getD_eq_getElem?_getD, List.getElem?_eq_getElem h2]
  · rw [List.map_map]
    refine nodup_map_of List.nodup_range fun i hi j hj e => ?_
    have := nodup_map_inj hM.rights _ (hf i (List.mem_range.1 hi)) _ (hf j (List.mem_range.1 hj)) e
    exact (Prod.mk.inj this).1
  · intro p hp
    obtain ⟨i, hi, rfl⟩ := List.mem_map.1 hp
    obtain ⟨b, hb, hc⟩ := (mem_nbrsL x i (f i)).1 (hM.edge _ (hf i (List.mem_range.1 hi)))
    simp only
    rw [List.getD_eq_getElem?_getD, hb]
    exact hc
theorem sdr_to {x : Sai} (h : Sdr x (openL x)) : AllM (openL x).length (edgL x) := by
  obtain ⟨ps, h1, h2, h3⟩ := h
  have hlen : ps.length = (openL x).length := by rw [← h1, List.length_map]
  refine ⟨(List.range (openL x).length).map (fun i => (i, (ps.getD i default).2)), ⟨?_, ?_, ?_⟩, by simp⟩
  · intro p hp
    obtain ⟨i, hi, rfl⟩ := List.mem_map.1 hp
    have hi := List.mem_range.1 hi
    have hx : ps[i]? = some (ps[i]'(by omega)) := List.getElem?_eq_getElem (by omega)
    refine (mem_nbrsL x i _).2 ⟨(ps[i]'(by omega)).1, ?_, ?_⟩
    · rw [← h1, List.getElem?_map, hx]; rfl
    · rw [List.getD_eq_getElem?_getD, hx]
      exact h3 _ (List.getElem_mem _)
  · rw [List.map_map]
    exact nodup_map_of List.nodup_range fun i _ j _ e => e
  · rw [List.map_map]
    have : (List.range (openL x).length).map ((fun p => p.2) ∘ fun i => (i, (ps.getD i default).2)) = ps.map (·.2) := by
      refine List.ext_getElem (by simp [hlen]) fun i h1 h2 => ?_
      rw [List.length_map] at h2
      simp [List.getD_eq_getElem?_getD, List.getElem?_eq_getElem h2]
    rw [this]
    exact h2
theorem all_sub {x : Sai} {l : List Bkg} (hs : l.Sublist x.bks) (h : allB (idsL x).length (edgL x) = true) : allB (idsL (bksS x l)).length (edgL (bksS x l)) = true := by
  have e1 : (idsL x).length = (openL x).length := List.length_map _
  have e2 : (idsL (bksS x l)).length = (openL (bksS x l)).length := List.length_map _
  rw [e1] at h
  rw [e2]
  obtain ⟨ps, h1, h2, h3⟩ := sdr_of (allB_iff.1 h)
  have hsub : (openL (bksS x l)).Sublist (ps.map (·.1)) := by rw [h1]; exact hs.filter _
  obtain ⟨qs, hq, he⟩ := List.sublist_map_iff.1 hsub
  refine allB_true (sdr_to ⟨qs, he.symm, h2.sublist (hq.map _), fun p hp => ?_⟩)
  have hm := h3 p (hq.subset hp)
  unfold mayL at hm ⊢
  obtain ⟨c, hc, e⟩ := List.mem_map.1 hm
  refine List.mem_map.2 ⟨c, ?_, e⟩
  obtain ⟨c1, c2⟩ := List.mem_filter.1 hc
  refine List.mem_filter.2 ⟨c1, ?_⟩
  have c2 : (eligB x.ship p.1 (c : Int) && emptyB x.bks c) = true := c2
  show (eligB x.ship p.1 (c : Int) && emptyB l c) = true
  rw [Bool.and_eq_true] at c2 ⊢
  refine ⟨c2.1, ?_⟩
  have c3 := c2.2
  unfold emptyB at c3 ⊢
  rw [Bool.not_eq_true'] at c3 ⊢
  exact List.any_eq_false.2 fun b hb => List.any_eq_false.1 c3 b (hs.subset hb)
end Go.Proofs.YtoilcdgpeilgaaaGreat
namespace Go.Proofs.YtoilcdgpeilgaaaGreat
open Go.RowKit Go.Shelf
set_option maxRecDepth 100000 in
set_option maxHeartbeats 16000000 in
theorem RoomOf_any (x : Sai) (p : SaiV) (w : World) (h : SaiR w x p) (ho : OkShp x.ship) (hk : ∀ b ∈ x.bks, OkBk x.ship b) (h16 : x.bks.length ≤ 16) :
    Calls Tryz.prog 109 #[.agg (saiA x p)] w fun e w' => e = .returned (.int .i64 (roomE x)) ∧ Below w.heap.size w w' := by
  have HOP := Lib.hid (fun W h => PromisesOf_any x p W h ho hk h16)
  have HS := Lib.hid h
  obtain ⟨A, n, cap, B, m, cap2, D, nd, cd, E, ne, ce, C, nb, cb⟩ := p
  have hl : Sl bkgC 11 w All C nb cb x.bks := h.bks
  have hd : Sl cabC 4 w All B m cap2 x.ship.cabs := h.cabs
  have hnb : nb ≤ 16 := by rw [← hl.len]; exact h16
  have hm12 : m ≤ 12 := by rw [← hd.len]; exact ho.cabs12
  have HTK := Lib.hid (fun (c : Int) W hW => SpansOf_any C nb cb x.bks c W hW (spOk_of ho hk))
  obtain ⟨r, hr⟩ : ∃ r, r = roomE x := ⟨_, rfl⟩
  rw [← hr]
  have HR := Lib.hid (show r = if (List.range m).any (fun c => !takB x.bks (c : Int)) = true then 6 else if x.ship.souls < mx (soulL x.bks x.ship.legs.toNat) then 8 else if allB (idsL x).length (edgL x) = true then 0 else 9 by rw [hr, ← hd.len]; rfl)
  have HN := Lib.hid hl.len
  have HM := Lib.hid hd.len
  have HL := Lib.hid hl
  have HOK := Lib.hid ho
  have HK := Lib.hid hk
  clear hk
  have HL16 := Lib.hid h16
  clear h16
  clear h hl hd hr ho
  go_enter Tryz.func109, Tryz.ntmps109
  go_upto_region 0 with (fail)
  go_cut [1, 2] (fun q _ wx => ∃ g, q = .pointer (some ⟨g, 0, none⟩) ∧ Blk wx g (saiA x ⟨A, n, cap, B, m, cap2, D, nd, cd, E, ne, ce, C, nb, cb⟩) 32 ∧ Below w.heap.size w wx)
  case first => as_aux_lemma =>
    go_wp2_with fail
    go_meet
    exact ⟨_, rfl, blk1 _ _, bel1 _ _⟩
  obtain ⟨g, rfl, hG, hbw⟩ := hcut
  obtain ⟨W0, hW0⟩ : ∃ W, W = wc := ⟨_, rfl⟩
  subst hW0
  have HG := Lib.hid hG
  clear hG
  have HBW := Lib.hid hbw
  clear hbw
  go_wp2_with fail
  go_loopg [3] m (fun gk i wr => ∃ k : Nat, k ≤ m ∧ m - k ≤ gk ∧ i = .int .i64 k ∧ Aside (∀ j, j < k → takB x.bks (j : Int) = true) ∧ Below W0.heap.size W0 wr)
  case atStart => exact ⟨0, Nat.zero_le _, by omega, rfl, fun j hj => absurd hj (Nat.not_lt_zero _), Below.refl _ _⟩
  case round =>
    obtain ⟨k, hk, hgk, rfl, HE, hb⟩ := hrel
    have hG := HG.out.bel hb
    have hbo := HBW.out.trans (hb.mono HBW.out.size)
    have s3 : wr.cell? ⟨g, 3, none⟩ = some (.slice B m cap2) := hG.cell rfl
    by_cases hlt : k < m
    · have s11 : wr.cell? ⟨g, 11, none⟩ = some (.slice C nb cb) := hG.cell rfl
      have hcall := HTK.out (k : Int) wr (HL.out.bel hbo)
      obtain ⟨q, hq⟩ : ∃ q, q = takB x.bks (k : Int) := ⟨_, rfl⟩
      rw [← hq] at hcall
      have HCALL := Lib.hid hcall
      clear hcall
      have HQ := Lib.hid hq
      clear hq
      clear hG
      go_wp2_with fail
      refine HCALL.out.mono ?_
      rintro e w2 ⟨v, xs, rfl, hO, hb2⟩
      obtain ⟨A1, n1, c1, rfl, _⟩ := hO.sl spanC_good
      replace hb := hb.trans (hb2.mono hb.size)
      replace hbo := hbo.trans (hb2.mono hbo.size)
      clear hO hb2 s11 s3
      cases q
      · obtain rfl : r = 6 := by rw [HR.out, if_pos (any_range hlt (by show (!takB x.bks (k : Int)) = true; rw [← HQ.out]; rfl))]
        go_wp2_with fail
        go_ret
        exact ⟨rfl, hbo⟩
      · skip
        go_wp2_with fail
        go_roundg (m - (k + 1))
        case measure => omega
        case rel => exact ⟨k + 1, by omega, by omega, by go_num, fun j hj => by
          by_cases e : j = k
          · subst e; exact HQ.out.symm
          · exact HE j (by omega), hb⟩
    · obtain rfl : k = m := by omega
      have HR2 := Lib.hid (HR.out.trans (if_neg (by
        rw [any_range_no (fun i hi => by show (!takB x.bks (i : Int)) = false; rw [HE i hi]; rfl)]; simp)))
      have hlg := shp_legs HOK.out
      obtain ⟨N, hNl⟩ : ∃ N : Nat, x.ship.legs = N := ⟨x.ship.legs.toNat, by omega⟩
      have hNt : x.ship.legs.toNat = N := by omega
      have HAB := Lib.hid (fun W hW => SoulsOf_any N C nb cb x.bks W hW (by rw [← hNt]; exact abOk_of HOK.out HK.out) (by omega) (by omega))
      obtain ⟨sl, hsl⟩ : ∃ q, q = soulL x.bks N := ⟨_, rfl⟩
      rw [← hsl, ← hNl] at HAB
      have HSLN := Lib.hid (show sl.length = N by rw [hsl]; exact soulL_len _ _)
      have HSB := Lib.hid (show ∀ y ∈ sl, 0 ≤ y ∧ y ≤ 4 * nb from fun y hy => by
        rw [hsl] at hy
        obtain ⟨i, hi⟩ := List.getElem?_of_mem hy
        have hlt : i < N := by have := (List.getElem?_eq_some_iff.1 hi).1; rwa [soulL_len] at this
        rw [soulL_get _ _ _ hlt] at hi
        injection hi with hi
        have := soulK_bd (l := x.bks) (fun b hb => (HK.out b hb).gst) i
        have := HN.out
        omega)
      have HN7 := Lib.hid (show 0 < N ∧ N ≤ 7 from by omega)
      obtain ⟨M, hM⟩ : ∃ M, M = mst sl := ⟨_, rfl⟩
      have hso := betB_iff.1 HOK.out.souls
      have hmx : (x.ship.souls < mx sl) = (x.ship.souls < M) := by
        rw [hM]; unfold mst
        exact propext ⟨fun h => by omega, fun h => by omega⟩
      have HR3 := Lib.hid (show r = if x.ship.souls < M then 8 else if allB (idsL x).length (edgL x) = true then 0 else 9 by
        rw [HR2.out, hNt, ← hsl]; simp only [hmx])
      have HMX := Lib.hid hM
      clear hM
      have HCEL := Lib.hid (show ∀ X, Below wr.heap.size wr X → (fun w' => w'.cell? ⟨g, 0, none⟩ = some (.int .i64 x.ship.legs) ∧ w'.cell? ⟨g, 1, none⟩ = some (.int .i64 x.ship.souls) ∧ w'.cell? ⟨g, 11, none⟩ = some (.slice C nb cb)) X from fun X hX => ⟨(hG.bel hX).cell rfl, (hG.bel hX).cell rfl, (hG.bel hX).cell rfl⟩)
      have HLW := Lib.hid (HL.out.bel hbo)
      clear hlg hNl hNt hsl HE HR2 HR hmx hso
      go_upto_region 7 with (fail)
      go_cut [35] (fun t wx => t = .bool (decide (x.ship.souls < M)) ∧ Below wr.heap.size wr wx)
      case first => as_aux_lemma =>
        have hbx : Below wr.heap.size wr wr.drew := (Below.refl _ wr).drew
        clear hG hb hbo s3
        refine wp_region_held_drew (S := (fun w' => w'.cell? ⟨g, 0, none⟩ = some (.int .i64 x.ship.legs) ∧ w'.cell? ⟨g, 1, none⟩ = some (.int .i64 x.ship.souls) ∧ w'.cell? ⟨g, 11, none⟩ = some (.slice C nb cb))) (by kernel_rfl) (HCEL.out _ hbx) (fun hHeld => ?_)
        refine wpAnyH_take (i := 0) (v := ?v1) (gA rfl) (by kernel_rfl) (by kernel_rfl) (by kernel_rfl) (fun _ _ _ h => h) (Or.inl ⟨rfl, ?y1⟩) (by assumption) ?_
        case y1 => (intro w hSw; (try dsimp only at hSw); go_simp <;> with_reducible rfl)
        simp only [Act.put, List.setIfInBounds_toArray, List.set_cons_zero, List.set_cons_succ]
        refine wpAnyH_take (i := 1) (v := ?v2) (gA rfl) (by kernel_rfl) (by kernel_rfl) (by kernel_rfl) (fun _ _ _ h => h) (Or.inl ⟨rfl, ?y2⟩) (by assumption) ?_
        case y2 => (intro w hSw; (try dsimp only at hSw); go_simp <;> with_reducible rfl)
        simp only [Act.put, List.setIfInBounds_toArray, List.set_cons_zero, List.set_cons_succ]
        refine wpAnyH_take (i := 2) (v := ?v3) (gA rfl) (by kernel_rfl) (by kernel_rfl) (by kernel_rfl) (fun _ _ _ h => h) (Or.inl ⟨rfl, ?y3⟩) (by assumption) ?_
        case y3 => (intro w hSw; (try dsimp only at hSw); go_simp <;> with_reducible rfl)
        simp only [Act.put, List.setIfInBounds_toArray, List.set_cons_zero, List.set_cons_succ]
        refine wpAnyH_take (i := 3) (v := ?v4) (gA rfl) (by kernel_rfl) (by kernel_rfl) (by kernel_rfl) (fun _ _ _ h => h) (Or.inl ⟨rfl, ?y4⟩) (by assumption) ?_
        case y4 => (intro w hSw; (try dsimp only at hSw); go_simp <;> with_reducible rfl)
        simp only [Act.put, List.setIfInBounds_toArray, List.set_cons_zero, List.set_cons_succ]
        refine wpAnyH_take (i := 4) (v := ?v5) (gA rfl) (by kernel_rfl) (by kernel_rfl) (by kernel_rfl) (fun _ _ _ h => h) (Or.inl ⟨rfl, ?y5⟩) (by assumption) ?_
        case y5 => (intro w hSw; (try dsimp only at hSw); go_simp <;> with_reducible rfl)
        simp only [Act.put, List.setIfInBounds_toArray, List.set_cons_zero, List.set_cons_succ]
        refine wpAnyH_take (i := 7) (v := ?v6) (gA rfl) (by kernel_rfl) (by kernel_rfl) (by kernel_rfl) (fun _ _ _ h => h) (Or.inl ⟨rfl, ?y6⟩) (by assumption) ?_
        case y6 => (intro w hSw; (try dsimp only at hSw); go_simp <;> with_reducible rfl)
        simp only [Act.put, List.setIfInBounds_toArray, List.set_cons_zero, List.set_cons_succ]
        refine wpAnyH_take (i := 8) (v := ?v7) (gA rfl) (by kernel_rfl) (by kernel_rfl) (by kernel_rfl) (fun _ _ _ h => h) (Or.inl ⟨rfl, ?y7⟩) (by assumption) ?_
        case y7 => (intro w hSw; (try dsimp only at hSw); go_simp <;> with_reducible rfl)
        simp only [Act.put, List.setIfInBounds_toArray, List.set_cons_zero, List.set_cons_succ]
        refine wpAnyH_take (i := 9) (v := ?v8) (gA rfl) (by kernel_rfl) (by kernel_rfl) (by kernel_rfl) (fun _ _ _ h => h) (Or.inl ⟨rfl, ?y8⟩) (by assumption) ?_
        case y8 => (intro w hSw; (try dsimp only at hSw); go_simp <;> with_reducible rfl)
        simp only [Act.put, List.setIfInBounds_toArray, List.set_cons_zero, List.set_cons_succ]
        refine wpAnyH_ready (rs := [5]) (by kernel_rfl) (by simp) (AllReadyH.cons (gA rfl) (fun K hK => ?_) AllReadyH.nil)
        go_simp
        (go_at_call 191; refine (HAB.out _ (HLW.out.bel hbx)).mono ?_; rintro e w3 ⟨G, rfl, hG2, hR, hb3⟩; have hown := hR.own (base := 0) (by omega) (fun y hy => by have := HSB.out y hy; exact .of (by omega) (by omega)) (by have := HSLN.out; have := HN7.out.2; omega); rw [HSLN.out] at hown; obtain ⟨A4, n4, c4, hv4, hs4⟩ := hown.sl intC_good; simp only [Value.slice.injEq] at hv4; obtain ⟨rfl, rfl, rfl⟩ := hv4; have HM4 := Lib.hid (most_any _ _ _ sl w3 (hs4.all intC_good (by omega)) (fun y hy => by have := HSB.out y hy; omega)); rw [← HMX.out] at HM4; replace hbx := hbx.trans (hb3.mono hbx.size); clear hb3 hown hs4 hR)
        go_wp2_with fail
        refine hK.out _ _ ?_ (fun hHeld => ?_)
        · exact HCEL.out _ hbx
        clear hK K
        try simp only [Act.put, List.setIfInBounds_toArray, List.set_cons_zero, List.set_cons_succ]
        refine wpAnyH_ready (rs := [6]) (by kernel_rfl) (by simp) (AllReadyH.cons (gA rfl) (fun K hK => ?_) AllReadyH.nil)
        go_simp
        (go_at_call 190; refine HM4.out.mono ?_; rintro e w4 ⟨rfl, q4, rfl⟩; replace hbx := below_drewN hbx q4)
        go_wp2_with fail
        refine hK.out _ _ ?_ (fun hHeld => ?_)
        · exact HCEL.out _ hbx
        clear hK K
        try simp only [Act.put, List.setIfInBounds_toArray, List.set_cons_zero, List.set_cons_succ]
        refine wpAnyH_take (i := 10) (v := ?v11) (gA rfl) (by kernel_rfl) (by kernel_rfl) (by kernel_rfl) (fun _ _ _ h => h) (Or.inl ⟨rfl, ?y11⟩) (by assumption) ?_
        case y11 => (intro w hSw; (try dsimp only at hSw); go_simp <;> with_reducible rfl)
        simp only [Act.put, List.setIfInBounds_toArray, List.set_cons_zero, List.set_cons_succ]
        refine wpAnyH_done (by kernel_rfl) ?_ _
        go_wp2_with fail
        go_meet
        exact ⟨rfl, hbx⟩
      obtain ⟨rfl, hb1⟩ := hcut
      replace hG := hG.bel hb1
      replace hb := hb.trans (hb1.mono hb.size)
      replace hbo := hbo.trans (hb1.mono hbo.size)
      clear hb1 HCEL HLW HAB s3
      by_cases h8 : x.ship.souls < M
      · obtain rfl : r = 8 := by rw [HR3.out, if_pos h8]
        clear hG
        go_wp2_with fail
        go_ret
        exact ⟨rfl, hbo⟩
      have HR4 := Lib.hid (HR3.out.trans (if_neg h8))
      have h8' : M ≤ x.ship.souls := by omega
      have HCALL := Lib.hid (HOP.out _ (HS.out.bel hbo))
      have s0 : wc.cell? ⟨g, 0, none⟩ = some (.int .i64 x.ship.legs) := hG.cell rfl
      have s1 : wc.cell? ⟨g, 1, none⟩ = some (.int .i64 x.ship.souls) := hG.cell rfl
      have s2 : wc.cell? ⟨g, 2, none⟩ = some (.slice A n cap) := hG.cell rfl
      have s3 : wc.cell? ⟨g, 3, none⟩ = some (.slice B k cap2) := hG.cell rfl
      have s4 : wc.cell? ⟨g, 4, none⟩ = some (.slice D nd cd) := hG.cell rfl
      have s5 : wc.cell? ⟨g, 5, none⟩ = some (.int .i64 x.fares.alone) := hG.cell rfl
      have s6 : wc.cell? ⟨g, 6, none⟩ = some (.int .i64 x.fares.third) := hG.cell rfl
      have s7 : wc.cell? ⟨g, 7, none⟩ = some (.slice E ne ce) := hG.cell rfl
      have s8 : wc.cell? ⟨g, 8, none⟩ = some (.int .i64 x.fares.down) := hG.cell rfl
      have s9 : wc.cell? ⟨g, 9, none⟩ = some (.int .i64 x.day) := hG.cell rfl
      have s10 : wc.cell? ⟨g, 10, none⟩ = some (.int .i64 x.leaves) := hG.cell rfl
      have s11 : wc.cell? ⟨g, 11, none⟩ = some (.slice C nb cb) := hG.cell rfl
      have s12 : wc.cell? ⟨g, 12, none⟩ = some (.bool x.closed) := hG.cell rfl
      have HGG := Lib.hid hG
      clear hG h8
      go_wp2_with fail
      refine HCALL.out.mono ?_
      rintro e w5 ⟨v1, v2, xs1, xs2, rfl, hO1, hO2, hb5⟩
      obtain ⟨A1, n1, c1, rfl, hs1⟩ := hO1.sl intC_good
      obtain ⟨A2, n2, c2, rfl, hs2⟩ := hO2.sl edgC_good
      have hG := HGG.out.bel hb5
      have s3 : w5.cell? ⟨g, 3, none⟩ = some (.slice B k cap2) := hG.cell rfl
      have hn1 : n1 = (idsL x).length := hs1.len.symm
      have hn1' : n1 ≤ 16 := by have := ids_len x; rw [hn1]; have := HL16.out; omega
      have hgr := edgL_ok x
      rw [← hn1, HM.out] at hgr
      have hall := Size_any n1 k A2 n2 c2 (edgL x) w5 (hs2.all edgC_good (by omega)) hn1' (by omega) hgr
      obtain ⟨q, hq⟩ : ∃ q, q = allB n1 (edgL x) := ⟨_, rfl⟩
      have HR5 := Lib.hid (show r = if q = true then 0 else 9 by rw [HR4.out, hq, hn1])
      have HGR := Lib.hid hgr
      clear hgr
      have HQ := Lib.hid hq
      clear hq
      have HALL := Lib.hid hall
      clear hall
      replace hbo := hbo.trans (hb5.mono hbo.size)
      clear hb5 hO1 hO2 hs1 hs2 hn1 s0 s1 s2 s4 s5 s6 s7 s8 s9 s10 s11 s12 hG hb
      go_wp2_with fail
      refine HALL.out.mono ?_
      rintro e w6 ⟨has, no, D, rfl, hA, hb6⟩
      replace hbo := hbo.trans (hb6.mono hbo.size)
      have HQ2 := Lib.hid (show q = decide (no.length = 0) by rw [HQ.out, allB_asked hA HGR.out])
      clear hA
      by_cases h0 : no.length = 0
      · obtain rfl : r = 0 := by rw [HR5.out, HQ2.out, decide_eq_true h0]; rfl
        have h1 : (n1 : Int) - (no.length : Int) = n1 := by omega
        rw [h1]
        clear h1 h0
        go_wp2_with fail
        go_ret
        exact ⟨rfl, hbo⟩
      · obtain rfl : r = 9 := by rw [HR5.out, HQ2.out, decide_eq_false h0]; rfl
        have h1 : (n1 : Int) - (no.length : Int) < n1 := by omega
        obtain ⟨z, hz⟩ : ∃ z, z = (n1 : Int) - (no.length : Int) := ⟨_, rfl⟩
        rw [← hz] at h1
        rw [← hz]
        clear hz h0
        go_wp2_with fail
        go_ret
        exact ⟨rfl, hbo⟩
end Go.Proofs.YtoilcdgpeilgaaaGreat
