/-
  Words, laws and contracts: VoyP, VoyF, VoyC.
-/
import Derived.Test.YtoilcdgpeilgaaaGreatBun33
import Derived.Test.YtoilcdgpeilgaaaGreatBun35
import Derived.BigQuiet
set_option linter.unusedSimpArgs false
set_option linter.unusedVariables false
namespace Go.Proofs.YtoilcdgpeilgaaaGreat
open Go.RowKit Go.Shelf
def shE (c : Int) (l : List Edg) : List Edg := (l.filter (fun e => decide (0 < e.lft) && !decide (e.rgt = c))).map (fun e => ⟨e.lft - 1, e.rgt⟩)
theorem shE_app (c : Int) (l m : List Edg) : shE c (l ++ m) = shE c l ++ shE c m := by unfold shE; rw [List.filter_append, List.map_append]
theorem shE_toE0 (c : Int) (l : List Int) : shE c (toE 0 l) = [] := by
  unfold shE toE
  rw [List.filter_eq_nil_iff.2 (fun e he => by
    obtain ⟨d, _, rfl⟩ := List.mem_map.1 he
    simp)]
  rfl
theorem shE_toE (c : Int) (i : Nat) : ∀ l : List Int, shE c (toE (i + 1) l) = toE i (l.filter (fun d => !decide (d = c)))
  | [] => rfl
  | d :: l => by
    have ih := shE_toE c i l
    have h1 : toE (i + 1) (d :: l) = [⟨((i + 1 : Nat) : Int), d⟩] ++ toE (i + 1) l := rfl
    rw [h1, shE_app, ih, List.filter_cons]
    have h0 : (0 : Int) < ((i + 1 : Nat) : Int) := by omega
    by_cases hd : d = c
    · have h2 : shE c [⟨((i + 1 : Nat) : Int), d⟩] = [] := by unfold shE; rw [List.filter_cons, if_neg (by simp [hd])]; rfl
      rw [h2, if_neg (by simp [hd])]; rfl
    · have h2 : shE c [⟨((i + 1 : Nat) : Int), d⟩] = [⟨(i : Int), d⟩] := by
        unfold shE
        rw [List.filter_cons, if_pos (by simp [hd])]
        show [(⟨((i + 1 : Nat) : Int) - 1, d⟩ : Edg)] = _
        rw [show ((i + 1 : Nat) : Int) - 1 = i by omega]
      rw [h2, if_pos (by simp [hd])]; rfl
theorem edgF_cons (x : Sai) (b : Bkg) (os : List Bkg) (i : Nat) : edgF x (b :: os) i = toE i (mayL x b) ++ edgF x os (i + 1) := rfl
theorem edgF_sh {x y : Sai} {c : Int} (hm : ∀ q, mayL y q = (mayL x q).filter (fun d => !decide (d = c))) : ∀ (os : List Bkg) (i : Nat), edgF y os i = shE c (edgF x os (i + 1))
  | [], _ => rfl
  | b :: os, i => by rw [edgF_cons, edgF_cons, shE_app, shE_toE, hm, edgF_sh hm os (i + 1)]
section
variable {x : Sai} {i : Nat} {b : Bkg}
theorem bks_split (hb : x.bks[i]? = some b) : x.bks = x.bks.take i ++ b :: x.bks.drop (i + 1) := less_split hb
theorem set_split {l : List Bkg} (hb : l[i]? = some b) (b' : Bkg) : l.set i b' = l.take i ++ b' :: l.drop (i + 1) := by
  rw [List.set_eq_take_append_cons_drop, if_pos (List.getElem?_eq_some_iff.1 hb).1]
theorem open_parts (ho : openB b = true) : b.kind = 2 ∧ liveB b = true ∧ b.cab < 0 := by
  unfold openB at ho
  rw [Bool.and_eq_true, Bool.and_eq_true] at ho
  exact ⟨of_decide_eq_true ho.1, ho.2.1, of_decide_eq_true ho.2.2⟩
theorem move_closed (b : Bkg) (c : Nat) : openB (moveB b c) = false := by
  unfold openB moveB
  have : ¬ ((c : Int) < 0) := by omega
  simp [this]
theorem open_at (hb : x.bks[i]? = some b) (hn : openN x i = []) (ho : openB b = true) : openL x = b :: (x.bks.drop (i + 1)).filter openB := by
  unfold openL
  conv => lhs; rw [bks_split hb]
  rw [List.filter_append, show (x.bks.take i).filter openB = [] from hn, List.filter_cons, if_pos ho]; rfl
theorem open_mv (hb : x.bks[i]? = some b) (hn : openN x i = []) (c : Nat) : openL (setS x i (moveB b c)) = (x.bks.drop (i + 1)).filter openB := by
  unfold openL
  show (x.bks.set i (moveB b c)).filter openB = _
  rw [set_split hb, List.filter_append, show (x.bks.take i).filter openB = [] from hn, List.filter_cons, if_neg (by rw [move_closed]; simp)]; rfl
theorem openN_mv (hb : x.bks[i]? = some b) (hn : openN x i = []) (c : Nat) : openN (setS x i (moveB b c)) (i + 1) = [] := by
  have hi := (List.getElem?_eq_some_iff.1 hb).1
  unfold openN
  show ((x.bks.set i (moveB b c)).take (i + 1)).filter openB = []
  rw [take_snoc (x := moveB b c) (List.getElem?_set_self hi), List.take_set_of_le (Nat.le_refl i), List.filter_append, show (x.bks.take i).filter openB = [] from hn, List.filter_cons, if_neg (by rw [move_closed]; simp)]; rfl
theorem has_mv (ho : openB b = true) (c c' : Nat) : hasB (c' : Int) (moveB b c) = decide (c' = c) ∧ hasB (c' : Int) b = false := by
  obtain ⟨_, h1, h2⟩ := open_parts ho
  constructor
  · unfold hasB
    rw [show liveB (moveB b c) = true from h1, Bool.true_and, decide_eq_decide]
    show (c : Int) = c' ↔ _
    omega
  · unfold hasB
    rw [decide_eq_false (by omega), Bool.and_false]
theorem emptyB_mv (hb : x.bks[i]? = some b) (ho : openB b = true) (c c' : Nat) : emptyB (x.bks.set i (moveB b c)) c' = (emptyB x.bks c' && !decide (c' = c)) := by
  obtain ⟨h1, h2⟩ := has_mv ho c c'
  unfold emptyB
  conv => rhs; rw [bks_split hb]
  rw [set_split hb, List.any_append, List.any_cons, List.any_append, List.any_cons, h1, h2]
  cases (x.bks.take i).any (hasB (c' : Int)) <;> cases (x.bks.drop (i + 1)).any (hasB (c' : Int)) <;> cases decide (c' = c) <;> rfl
theorem mayL_mv (hb : x.bks[i]? = some b) (ho : openB b = true) (c : Nat) (q : Bkg) : mayL (setS x i (moveB b c)) q = (mayL x q).filter (fun d => !decide (d = (c : Int))) := by
  unfold mayL
  show ((List.range x.ship.cabs.length).filter (fun d : Nat => eligB x.ship q (d : Int) && emptyB (x.bks.set i (moveB b c)) d)).map Int.ofNat = _
  rw [List.filter_map, List.filter_filter]
  congr 2
  funext d
  rw [emptyB_mv hb ho]
  show _ = (!decide ((d : Int) = (c : Int)) && (eligB x.ship q (d : Int) && emptyB x.bks d))
  rw [show decide ((d : Int) = (c : Int)) = decide (d = c) from decide_eq_decide.2 (by omega)]
  cases eligB x.ship q (d : Int) <;> cases emptyB x.bks d <;> cases decide (d = c) <;> rfl
theorem edgL_mv (hb : x.bks[i]? = some b) (hn : openN x i = []) (ho : openB b = true) (c : Nat) : edgL (setS x i (moveB b c)) = shE c (edgL x) := by
  unfold edgL
  rw [open_at hb hn ho, open_mv hb hn, edgF_cons, shE_app, shE_toE0, edgF_sh (mayL_mv hb ho c)]; rfl
theorem mem_may {q : Bkg} {c : Int} (h : c ∈ mayL x q) : ∃ d : Nat, c = d ∧ d < x.ship.cabs.length ∧ eligB x.ship q d = true ∧ emptyB x.bks d = true := by
  unfold mayL at h
  obtain ⟨d, hd, rfl⟩ := List.mem_map.1 h
  obtain ⟨h1, h2⟩ := List.mem_filter.1 hd
  have h2 : (eligB x.ship q (d : Int) && emptyB x.bks d) = true := h2
  rw [Bool.and_eq_true] at h2
  exact ⟨d, rfl, List.mem_range.1 h1, h2.1, h2.2⟩
theorem spL_mv (hb : x.bks[i]? = some b) (ho : openB b = true) {c c' : Nat} (h : ¬ c' = c) : spL (x.bks.set i (moveB b c)) (c' : Int) = spL x.bks (c' : Int) := by
  obtain ⟨h1, h2⟩ := has_mv ho c c'
  rw [decide_eq_false h] at h1
  unfold spL
  conv => rhs; rw [bks_split hb]
  rw [set_split hb, List.filter_append, List.filter_cons, if_neg (by rw [h1]; simp), List.filter_append, List.filter_cons, if_neg (by rw [h2]; simp)]
theorem spL_mv1 (hb : x.bks[i]? = some b) (ho : openB b = true) {c : Nat} (h : emptyB x.bks c = true) : spL (x.bks.set i (moveB b c)) (c : Int) = [⟨b.frm, b.upto⟩] := by
  obtain ⟨h1, _⟩ := has_mv ho c c
  have h2 : ∀ q ∈ x.bks, ¬ hasB (c : Int) q = true := by
    unfold emptyB at h
    rw [Bool.not_eq_true'] at h
    exact List.any_eq_false.1 h
  unfold spL
  rw [set_split hb, List.filter_append, List.filter_cons, if_pos (by rw [h1]; simp), List.filter_eq_nil_iff.2 (fun q hq => h2 q (List.take_subset _ _ hq)), List.filter_eq_nil_iff.2 (fun q hq => h2 q (List.drop_subset _ _ hq))]
  rfl
theorem twice_mv (hs : OkShp x.ship) (hk : OkBk x.ship b) (h2 : twiceB x = false) (hb : x.bks[i]? = some b) (ho : openB b = true) {c : Nat} (h : emptyB x.bks c = true) : twiceB (setS x i (moveB b c)) = false := by
  unfold twiceB at h2 ⊢
  refine List.any_eq_false.2 fun d hd => ?_
  have htk : takB x.bks (d : Int) = true := by simpa using List.any_eq_false.1 h2 d hd
  show ¬ (!takB (x.bks.set i (moveB b c)) (d : Int)) = true
  by_cases q : d = c
  · subst q
    have hf : b.frm < b.upto := (bk_span hs hk).2.1
    obtain ⟨o, ho2⟩ := spF_apart (ls := spL (x.bks.set i (moveB b d)) (d : Int)) (fun s hs => by
      rw [spL_mv1 hb ho h, List.mem_singleton] at hs
      rw [hs]; exact hf) (by rw [spL_mv1 hb ho h]; exact List.pairwise_singleton _ _)
    rw [(tak_of ho2).1]; simp
  · have : takB (x.bks.set i (moveB b c)) (d : Int) = true := by unfold takB at htk ⊢; rw [spL_mv hb ho q]; exact htk
    rw [this]; simp
theorem soul_mv (hb : x.bks[i]? = some b) (c : Int) (n : Nat) : soulL (x.bks.set i (moveB b c)) n = soulL x.bks n := by
  unfold soulL
  refine List.map_congr_left fun k _ => ?_
  unfold soulK
  conv => rhs; rw [bks_split hb]
  rw [set_split hb, List.map_append, List.map_cons, List.map_append, List.map_cons]
  rfl
theorem ids_open (x : Sai) : (idsL x).length = (openL x).length := List.length_map _
theorem room_mv (hs : OkShp x.ship) (hk : OkBk x.ship b) (hr : roomE x = 0) (hb : x.bks[i]? = some b) (hn : openN x i = []) (ho : openB b = true) {c : Nat} (h : emptyB x.bks c = true) :
    roomE (setS x i (moveB b c)) = if allB ((openL x).length - 1) (shE c (edgL x)) = true then 0 else 9 := by
  obtain ⟨r1, r2, _⟩ := room_ok hr
  unfold roomE
  rw [if_neg (by rw [twice_mv hs hk r1 hb ho h]; simp), show (setS x i (moveB b c)).bks = x.bks.set i (moveB b c) from rfl, show (setS x i (moveB b c)).ship = x.ship from rfl, soul_mv hb, if_neg r2, edgL_mv hb hn ho, ids_open, open_mv hb hn, open_at hb hn ho]
  rfl
theorem pick_ex (hb : x.bks[i]? = some b) (hn : openN x i = []) (ho : openB b = true) (hall : allB (openL x).length (edgL x) = true) : ∃ c : Nat, (c : Int) ∈ mayL x b ∧ allB ((openL x).length - 1) (shE c (edgL x)) = true := by
  have h0 := open_at hb hn ho
  obtain ⟨ps, h1, h2, h3⟩ := sdr_of (allB_iff.1 hall)
  rw [h0] at h1
  rcases ps with _ | ⟨⟨b', c⟩, ps⟩
  · cases h1
  rw [List.map_cons] at h1 h2
  injection h1 with e1 e2
  obtain rfl : b' = b := e1
  refine ⟨c, h3 _ (List.mem_cons_self ..), ?_⟩
  rw [← edgL_mv hb hn ho c, show (openL x).length - 1 = (openL (setS x i (moveB b' c))).length by rw [h0, open_mv hb hn]; rfl]
  refine allB_true (sdr_to ⟨ps, by rw [open_mv hb hn]; exact e2, (List.nodup_cons.1 h2).2, fun p hp => ?_⟩)
  rw [mayL_mv hb ho]
  refine List.mem_filter.2 ⟨h3 p (List.mem_cons_of_mem _ hp), ?_⟩
  have hne : ¬ p.2 = c := fun e => (List.nodup_cons.1 h2).1 (by rw [← e]; exact List.mem_map.2 ⟨p, hp, rfl⟩)
  have : ¬ (p.2 : Int) = c := by omega
  simp [this]
end
noncomputable def pickC (x : Sai) (b : Bkg) : Option Int := (mayL x b).find? (fun c => allB ((openL x).length - 1) (shE c (edgL x)))
noncomputable def closeAt (x : Sai) (i : Nat) : Sai := match x.bks[i]? with
  | some b => if openB b = true then (match pickC x b with | some c => setS x i (moveB b c) | none => x) else x
  | none => x
noncomputable def closeK (x : Sai) : Nat → Sai
  | 0 => x
  | k + 1 => closeAt (closeK x k) k
noncomputable def closeX (x : Sai) : Sai := { closeK x x.bks.length with closed := true }
theorem closeAt_skip {x : Sai} {i : Nat} {b : Bkg} (hb : x.bks[i]? = some b) (ho : openB b = false) : closeAt x i = x := by
  unfold closeAt
  rw [hb]
  show (if openB b = true then _ else _) = _
  rw [ho]; rfl
theorem closeAt_open {x : Sai} {i : Nat} {b : Bkg} {c : Int} (hb : x.bks[i]? = some b) (ho : openB b = true) (hp : pickC x b = some c) : closeAt x i = setS x i (moveB b c) := by
  unfold closeAt
  rw [hb]
  show (if openB b = true then _ else _) = _
  rw [if_pos ho, hp]
structure CloK (x y : Sai) (i : Nat) : Prop where
  ship : y.ship = x.ship
  fares : y.fares = x.fares
  day : y.day = x.day
  leaves : y.leaves = x.leaves
  closed : y.closed = x.closed
  ids : y.bks.map (·.id) = x.bks.map (·.id)
  bk : ∀ b ∈ y.bks, OkBk x.ship b
  tail : y.bks.drop i = x.bks.drop i
  none : openN y i = []
  room : roomE y = 0
theorem CloK.len {x y : Sai} {i : Nat} (h : CloK x y i) : y.bks.length = x.bks.length := by
  have := congrArg List.length h.ids
  rwa [List.length_map, List.length_map] at this
theorem CloK.at {x y : Sai} {i : Nat} (h : CloK x y i) : y.bks[i]? = x.bks[i]? := by
  have := congrArg (fun l : List Bkg => l[0]?) h.tail
  simpa [List.getElem?_drop] using this
theorem move_okBk {X : Shp} {b : Bkg} {c : Nat} (h : OkBk X b) (ho : openB b = true) (hc : c < X.cabs.length) (he : eligB X b c = true) : OkBk X (moveB b c) := by
  obtain ⟨h1, _, h2⟩ := open_parts ho
  refine ⟨h.kind, h.state, h.id, h.gst, h.span, ?_, h.til, h.opt, h.fol⟩
  have hk := h.kindE
  unfold kindE at hk ⊢
  rw [if_pos h1] at hk
  rw [show (moveB b c).kind = b.kind from rfl, if_pos h1]
  unfold promE at hk ⊢
  show (if betB b.cat 0 ((X.cats.length : Int) - 1) = false then (3 : Int) else if b.frm ≠ 0 ∨ b.upto ≠ X.legs then 4 else if betB (c : Int) (-1) ((X.cabs.length : Int) - 1) = false then 3 else if 0 ≤ (c : Int) ∧ eligB X (moveB b c) c = false then 4 else 0) = 0
  by_cases q1 : betB b.cat 0 ((X.cats.length : Int) - 1) = false
  · rw [if_pos q1] at hk; omega
  rw [if_neg q1] at hk ⊢
  by_cases q2 : b.frm ≠ 0 ∨ b.upto ≠ X.legs
  · rw [if_pos q2] at hk; omega
  rw [if_neg q2, if_neg (by rw [betB_true (by omega) (by omega)]; simp), if_neg]
  rintro ⟨_, q⟩
  rw [show eligB X (moveB b c) c = eligB X b c from rfl, he] at q
  cases q
theorem CloK.start {x : Sai} (ho : OkSai x) : CloK x x 0 := ⟨rfl, rfl, rfl, rfl, rfl, rfl, ho.bs.bk, rfl, rfl, ho.room⟩
section
variable {x y : Sai} {i : Nat} {b : Bkg}
theorem CloK.pick (h : CloK x y i) (hb : x.bks[i]? = some b) (ho : openB b = true) : ∃ c : Nat, pickC y b = some (c : Int) ∧ c < x.ship.cabs.length ∧ eligB x.ship b c = true ∧ emptyB y.bks c = true ∧ allB ((openL y).length - 1) (shE c (edgL y)) = true := by
  have hb' : y.bks[i]? = some b := h.at.trans hb
  have hall := (room_ok h.room).2.2
  rw [ids_open] at hall
  obtain ⟨c, h1, h2⟩ := pick_ex hb' h.none ho hall
  have hs : (pickC y b).isSome = true := by unfold pickC; exact List.find?_isSome.2 ⟨(c : Int), h1, h2⟩
  obtain ⟨e, he⟩ := Option.isSome_iff_exists.1 hs
  have he1 : e ∈ mayL y b := List.mem_of_find?_eq_some he
  have he2 := List.find?_some he
  obtain ⟨d, rfl, k1, k2, k3⟩ := mem_may he1
  exact ⟨d, he, by rw [← h.ship]; exact k1, by rw [← h.ship]; exact k2, k3, he2⟩
theorem CloK.step (hs : OkShp x.ship) (h : CloK x y i) (hb : x.bks[i]? = some b) : CloK x (closeAt y i) (i + 1) := by
  have hb' : y.bks[i]? = some b := h.at.trans hb
  have hi := (List.getElem?_eq_some_iff.1 hb').1
  have hbk := h.bk b (List.mem_of_getElem? hb')
  rcases Bool.eq_false_or_eq_true (openB b) with ho | ho
  · obtain ⟨c, h1, h2, h3, h4, h5⟩ := h.pick hb ho
    rw [closeAt_open hb' ho h1]
    refine ⟨h.ship, h.fares, h.day, h.leaves, h.closed, ?_, fun q hq => ?_, ?_, openN_mv hb' h.none c, ?_⟩
    · rw [← h.ids]
      show (y.bks.set i (moveB b c)).map (·.id) = _
      conv => rhs; rw [bks_split hb']
      rw [set_split hb', List.map_append, List.map_cons, List.map_append, List.map_cons]; rfl
    · rcases mem_set_of hq with q1 | rfl
      · exact h.bk q q1
      · exact move_okBk hbk ho h2 h3
    · show (y.bks.set i (moveB b c)).drop (i + 1) = _
      rw [List.drop_set_of_lt (by omega)]
      have := congrArg (List.drop 1) h.tail
      rwa [List.drop_drop, List.drop_drop] at this
    · rw [room_mv (by rw [h.ship]; exact hs) (by rw [h.ship]; exact hbk) h.room hb' h.none ho h4, if_pos h5]
  · rw [closeAt_skip hb' ho]
    refine ⟨h.ship, h.fares, h.day, h.leaves, h.closed, h.ids, h.bk, ?_, ?_, h.room⟩
    · have := congrArg (List.drop 1) h.tail
      rwa [List.drop_drop, List.drop_drop] at this
    · rw [openN_succ hb', h.none, if_neg (by rw [ho]; simp)]; rfl
end
theorem closeK_ok {x : Sai} (ho : OkSai x) : ∀ k, k ≤ x.bks.length → CloK x (closeK x k) k
  | 0, _ => CloK.start ho
  | k + 1, h => (closeK_ok ho k (by omega)).step ho.bs.ship (List.getElem?_eq_getElem (by omega))
theorem closeK_more {x : Sai} (ho : OkSai x) {i : Nat} : ∀ d, i + d ≤ x.bks.length → (openN x (i + d)).length = (openN x i).length → closeK x (i + d) = closeK x i
  | 0, _, _ => rfl
  | d + 1, h, he => by
    have hb : x.bks[i + d]? = some (x.bks[i + d]'(by omega)) := List.getElem?_eq_getElem (by omega)
    have h1 := openN_succ hb
    have hlo : ∀ d, i + d ≤ x.bks.length → (openN x i).length ≤ (openN x (i + d)).length := fun d _ => by
      unfold openN
      refine List.Sublist.length_le (List.Sublist.filter _ ?_)
      exact (List.take_prefix_take_left (by omega)).sublist
    have h2 := hlo d (by omega)
    rw [show i + (d + 1) = i + d + 1 by omega, h1, List.length_append] at he
    have hcl : openB (x.bks[i + d]'(by omega)) = false := by
      rcases Bool.eq_false_or_eq_true (openB (x.bks[i + d]'(by omega))) with q | q
      · rw [q] at he; simp at he; omega
      · exact q
    rw [hcl] at he
    have hy := closeK_ok ho (i + d) (by omega)
    show closeAt (closeK x (i + d)) (i + d) = _
    rw [closeAt_skip (hy.at.trans hb) hcl, closeK_more ho d (by omega) (by simp at he; omega)]
theorem closeK_same {x : Sai} (ho : OkSai x) {i j : Nat} (hi : i ≤ x.bks.length) (hj : j ≤ x.bks.length) (h : (openN x i).length = (openN x j).length) : closeK x i = closeK x j := by
  rcases Nat.le_total i j with q | q
  · have := closeK_more ho (i := i) (j - i) (by omega) (by rw [show i + (j - i) = j by omega]; exact h.symm)
    rw [show i + (j - i) = j by omega] at this
    exact this.symm
  · have := closeK_more ho (i := j) (i - j) (by omega) (by rw [show j + (i - j) = i by omega]; exact h)
    rwa [show j + (i - j) = i by omega] at this
theorem open_place {x : Sai} : ∀ {n k : Nat} {b : Bkg}, (openN x n)[k]? = some b → ∃ j, j < n ∧ x.bks[j]? = some b ∧ openB b = true ∧ (openN x j).length = k
  | 0, _, _, h => by simp [openN] at h
  | n + 1, k, b, h => by
    rcases hq : x.bks[n]? with _ | q
    · have : openN x (n + 1) = openN x n := by
        unfold openN
        have hl := List.getElem?_eq_none_iff.1 hq
        rw [List.take_of_length_le (by omega), List.take_of_length_le hl]
      rw [this] at h
      obtain ⟨j, h1, h2⟩ := open_place h
      exact ⟨j, by omega, h2⟩
    · rw [openN_succ hq] at h
      by_cases hk : k < (openN x n).length
      · rw [List.getElem?_append_left hk] at h
        obtain ⟨j, h1, h2⟩ := open_place h
        exact ⟨j, by omega, h2⟩
      · rw [List.getElem?_append_right (by omega)] at h
        rcases Bool.eq_false_or_eq_true (openB q) with ho | ho
        · rw [if_pos ho] at h
          have hz : k - (openN x n).length = 0 := by
            have := (List.getElem?_eq_some_iff.1 h).1
            simp at this; omega
          rw [hz] at h
          obtain rfl : q = b := by simpa using h
          exact ⟨n, by omega, hq, ho, by omega⟩
        · rw [if_neg (by rw [ho]; simp)] at h
          simp at h
theorem open_left {x y : Sai} {i : Nat} (h : CloK x y i) : openL y = (x.bks.drop i).filter openB := by
  unfold openL
  conv => lhs; rw [← List.take_append_drop i y.bks]
  rw [List.filter_append, show (y.bks.take i).filter openB = [] from h.none, h.tail]; rfl
theorem open_len {x : Sai} (i : Nat) : (openN x i).length + ((x.bks.drop i).filter openB).length = (openL x).length := by
  unfold openL openN
  conv => rhs; rw [← List.take_append_drop i x.bks]
  rw [List.filter_append, List.length_append]
theorem room_closed (y : Sai) (c : Bool) : roomE { y with closed := c } = roomE y := by
  have h4 : edgL { y with closed := c } = edgL y := edgF_may (x := { y with closed := c }) (y := y) (fun _ => rfl) (openL y) 0
  unfold roomE
  rw [h4]
  rfl
theorem close_right {x : Sai} (h : saiE x = 0) : saiE (closeX x) = 0 := by
  have ho := sai_ok h
  have hc := closeK_ok ho x.bks.length (Nat.le_refl _)
  have hlen := hc.len
  refine saiE_mk (y := closeX x) (by show shipE (closeK x _).ship = 0; rw [hc.ship]; exact (bks_zero h).1) (by show fareE (closeK x _).fares (closeK x _).ship.cats.length (closeK x _).ship.legs = 0; rw [hc.ship, hc.fares]; exact ho.fares) (by show betB (closeK x _).day 0 9999 = true; rw [hc.day]; exact ho.day)
    (by show betB (closeK x _).leaves 0 9999 = true; rw [hc.leaves]; exact ho.leaves) (by show (closeK x _).bks.length ≤ 16; rw [hlen]; exact ho.bs.len) (fun b hb => by show ofE (closeK x _).ship b = 0; rw [hc.ship]; exact ok_of (hc.bk b hb)) ?_ ?_ ((room_closed _ true).trans hc.room)
  · show Rise (closeK x _).bks
    have hr := rise_pw.1 (rise_of ho.bs.rise)
    refine rise_pw.2 ?_
    have h1 : (x.bks.map (·.id)).Pairwise (· < ·) := List.pairwise_map.2 hr
    rw [← hc.ids] at h1
    exact List.pairwise_map.1 h1
  · refine List.any_eq_false.2 fun b hb => ?_
    have hop : openL (closeK x x.bks.length) = [] := by
      rw [← openN_all hlen]; exact hc.none
    have hnb : ¬ openB b = true := fun q => by
      have : b ∈ openL (closeK x x.bks.length) := List.mem_filter.2 ⟨hb, q⟩
      rw [hop] at this
      cases this
    intro hbad
    refine hnb ?_
    unfold badB at hbad
    unfold openB
    rw [Bool.and_eq_true, Bool.and_eq_true] at hbad ⊢
    refine ⟨hbad.1, hbad.2.1, ?_⟩
    have := hbad.2.2
    simpa [closeX] using this
end Go.Proofs.YtoilcdgpeilgaaaGreat
namespace Go.Proofs.YtoilcdgpeilgaaaGreat
open Go.RowKit Go.Shelf
noncomputable def pickF (n : Nat) (l : List Edg) : List Edg → Option Int
  | [] => none
  | e :: m => if 0 < e.lft then none else if allB n (shE e.rgt l) = true then some e.rgt else pickF n l m
noncomputable def pickN (n : Nat) (l : List Edg) : Int := (pickF n l l).getD (-1)
noncomputable def leftL (n : Nat) (l : List Edg) : List Edg := ((pickF n l l).map (fun c => shE c l)).getD []
theorem pickF_toE (n : Nat) (l r : List Edg) (hr : ∀ e ∈ r, 0 < e.lft) : ∀ m : List Int, pickF n l (toE 0 m ++ r) = m.find? (fun c => allB n (shE c l))
  | [] => by
    rcases r with _ | ⟨e, r⟩
    · rfl
    · show (if 0 < e.lft then none else _) = none
      rw [if_pos (hr e (List.mem_cons_self ..))]
  | c :: m => by
    show (if (0 : Int) < ((0 : Nat) : Int) then none else if allB n (shE c l) = true then some c else pickF n l (toE 0 m ++ r)) = _
    rw [if_neg (by omega), pickF_toE n l r hr m, List.find?_cons]
    cases allB n (shE c l) <;> rfl
theorem pickF_edg {x : Sai} {b : Bkg} {os : List Bkg} (h : openL x = b :: os) (n : Nat) : pickF n (edgL x) (edgL x) = (mayL x b).find? (fun c => allB n (shE c (edgL x))) := by
  have h1 : edgL x = toE 0 (mayL x b) ++ edgF x os 1 := by unfold edgL; rw [h, edgF_cons]
  conv => lhs; rw [show pickF n (edgL x) (edgL x) = pickF n (edgL x) (toE 0 (mayL x b) ++ edgF x os 1) by rw [← h1]]
  exact pickF_toE n _ _ (fun e he => by have := edgF_from x os 1 e he; omega) _
theorem shE_take {l : List Edg} {k : Nat} {e : Edg} (h : l[k]? = some e) (c : Int) : shE c (l.take (k + 1)) = shE c (l.take k) ++ (if (decide (0 < e.lft) && !decide (e.rgt = c)) = true then [⟨e.lft - 1, e.rgt⟩] else []) := by
  rw [take_snoc h, shE_app]
  congr 1
  unfold shE
  rw [List.filter_cons]
  split <;> rfl
theorem shE_len (c : Int) (l : List Edg) : (shE c l).length ≤ l.length := by
  unfold shE
  rw [List.length_map]
  exact List.length_filter_le _ _
theorem shE_gr {n m : Nat} {l : List Edg} (c : Int) (h : OkGr (n + 1) m l) : OkGr n m (shE c l) := fun e he => by
  unfold shE at he
  obtain ⟨q, hq, rfl⟩ := List.mem_map.1 he
  obtain ⟨h1, h2⟩ := List.mem_filter.1 hq
  have h3 := h q h1
  rw [Bool.and_eq_true] at h2
  have h4 : 0 < q.lft := of_decide_eq_true h2.1
  refine ⟨?_, ?_, h3.2.2⟩
  · show 0 ≤ q.lft - 1; omega
  · show q.lft - 1 < n; omega
theorem pickF_none {n : Nat} {l m : List Edg} {e : Edg} (h : 0 < e.lft) : pickF n l (e :: m) = none := if_pos h
theorem pickF_some {n : Nat} {l m : List Edg} {e : Edg} (h : ¬ 0 < e.lft) (ha : allB n (shE e.rgt l) = true) : pickF n l (e :: m) = some e.rgt := (if_neg h).trans (if_pos ha)
theorem pickF_next {n : Nat} {l m : List Edg} {e : Edg} (h : ¬ 0 < e.lft) (ha : ¬ allB n (shE e.rgt l) = true) : pickF n l (e :: m) = pickF n l m := (if_neg h).trans (if_neg ha)
set_option maxRecDepth 100000 in
set_option maxHeartbeats 16000000 in
theorem first_any (many cabins : Nat) (A : Option Addr) (n cap : Nat) (l : List Edg) (w : World) (h : Sl edgC 2 w All A n cap l) (hm : many + 1 ≤ 16) (hr : cabins ≤ 16) (hg : OkGr (many + 1) cabins l) (hn : n ≤ 1000) :
    Calls Tryz.prog 204 #[.int .i64 ((many + 1 : Nat) : Int), .int .i64 (cabins : Int), .slice A n cap] w fun e w' => ∃ v xs, e = .returned (.tuple #[.int .i64 (pickN many l), v]) ∧ Own edgC 2 115 w' w.heap.size v (leftL many l) xs ∧ Below w.heap.size w w' := by
  have HALL := Lib.hid (fun A' n' cap' c W hS => All_any many cabins A' n' cap' (shE c l) W hS (by omega) hr (shE_gr c hg))
  have HS := Lib.hid h
  have HLN := Lib.hid h.len
  have HLB := Lib.hid (show ∀ c, (shE c l).length ≤ 1000 from fun c => by have := shE_len c l; have := h.len; omega)
  have HGR := Lib.hid hg
  have HMB := Lib.hid hm
  have hsub : IntKind.i64.wrap (((many + 1 : Nat) : Int) - 1) = (many : Int) := by rw [IntWalk.i64_in _ (by omega)]; omega
  obtain ⟨M, hM⟩ : ∃ M, M = ((many + 1 : Nat) : Int) := ⟨_, rfl⟩
  rw [← hM] at hsub ⊢
  clear h hg hM hr hm
  go_enter Tryz.func204, Tryz.ntmps204
  go_wp2_with fail
  go_loopg [15] n (fun gk i wr => ∃ (k : Nat), k ≤ n ∧ n - k ≤ gk ∧ i = .int .i64 k ∧ pickF many l l = pickF many l (l.drop k) ∧ Below w.heap.size w wr)
  case atStart => exact ⟨0, Nat.zero_le _, by omega, rfl, rfl, Below.refl _ _⟩
  case round =>
    obtain ⟨k, hk, hgk, rfl, hpk, hb⟩ := hrel
    by_cases hlt : k < n
    · obtain ⟨bb, off, x, c0, c1, rfl, hx, ⟨hd, hi0, hi1⟩, e0, e1⟩ := (HS.out.bel hb).at2 hlt
      obtain ⟨rfl, rfl⟩ : c0 = .int .i64 x.lft ∧ c1 = .int .i64 x.rgt := by simpa using hd
      have hdr : l.drop k = x :: l.drop (k + 1) := by rw [List.drop_eq_getElem_cons (List.getElem?_eq_some_iff.1 hx).1]; rw [(List.getElem?_eq_some_iff.1 hx).2]
      rw [hdr] at hpk
      obtain ⟨W1, hW1⟩ : ∃ V, V = wr := ⟨_, rfl⟩
      subst hW1
      have HPK := Lib.hid hpk
      clear hpk
      have HX := Lib.hid hi1
      clear hd hdr hi0 hx
      go_upto_region 3 with (fail)
      go_cut [9] (fun p wx => ∃ g, p = .pointer (some ⟨g, 0, none⟩) ∧ W1.heap.size ≤ g ∧ Blk wx g #[.int .i64 x.lft, .int .i64 x.rgt] 115 ∧ Below W1.heap.size W1 wx)
      case first => as_aux_lemma =>
        go_wp2_with fail
        go_meet
        exact ⟨_, rfl, Nat.le_refl _, blk1 _ _, bel1 _ _⟩
      obtain ⟨g, rfl, hgs, hG, hbg⟩ := hcut
      obtain ⟨W2, hW2⟩ : ∃ V, V = wc := ⟨_, rfl⟩
      subst hW2
      replace hb := hb.trans (hbg.mono hb.size)
      have hs12 := hbg.size
      have hgl := hG.lt
      have g0 : W2.cell? ⟨g, 0, none⟩ = some (.int .i64 x.lft) := hG.cell rfl
      have HG := Lib.hid (fun X (hX : Below W2.heap.size W2 X) => hG.bel hX)
      clear hbg hG e0 e1
      by_cases q0 : 0 < x.lft
      · have q1 : decide (0 < x.lft) = true := decide_eq_true q0
        have HV := Lib.hid (HPK.out.trans (pickF_none q0))
        clear q0
        go_wp2_with fail
        go_ret2
        exact ⟨.slice none 0 0, [], by unfold pickN; rw [HV.out]; rfl, by unfold leftL; rw [HV.out]; exact Own.nil _ _ _ _ _, hb⟩
      have q1 : decide (0 < x.lft) = false := decide_eq_false q0
      have Q0 := Lib.hid q0
      have HB := Lib.hid hb
      clear hb
      clear q0
      go_wp2_with fail
      go_loopg [10, 24] n (fun gk v i wr => ∃ (j : Nat) (xs : List Value) (vo : Value), j ≤ n ∧ n - j ≤ gk ∧ i = .int .i64 j ∧ vo = v ∧ Own edgC 2 115 wr W2.heap.size vo (shE x.rgt (l.take j)) xs ∧ Below W2.heap.size W2 wr)
      case atStart => exact ⟨0, [], _, Nat.zero_le _, by omega, rfl, rfl, by rw [List.take_zero]; exact Own.nil _ _ _ _ _, Below.refl _ _⟩
      case round =>
        obtain ⟨j, xs, vo, hj, hgj, rfl, rfl, hO, hb2⟩ := hrel
        by_cases hlt2 : j < n
        · obtain ⟨b2, off2, y, d0, d1, hbo, hy, ⟨hd, hy0, hy1⟩, e0, e1⟩ := (HS.out.bel (HB.out.trans (hb2.mono HB.out.size))).at2 hlt2
          obtain ⟨rfl, rfl⟩ : d0 = .int .i64 y.lft ∧ d1 = .int .i64 y.rgt := by simpa using hd
          obtain ⟨rfl, rfl⟩ : b2 = bb ∧ off2 = off := by injection hbo with h; injection h with h1 h2; exact ⟨h1.symm, h2.symm⟩
          obtain ⟨V1, hV1⟩ : ∃ V, V = wr := ⟨_, rfl⟩
          subst hV1
          have HNX := Lib.hid (shE_take hy x.rgt)
          have HYG := Lib.hid (HGR.out y (List.mem_of_getElem? hy))
          have hol := hO.lt
          have HSL0 := Lib.hid (show (shE x.rgt (l.take j)).length ≤ 1000 from by have := shE_len x.rgt (l.take j); rw [List.length_take] at this; omega)
          have HO := Lib.hid hO
          clear hO
          clear hd hbo hy hy0
          go_upto_region 8 with (fail)
          go_cut [12] (fun p wx => ∃ z, p = .pointer (some ⟨z, 0, none⟩) ∧ V1.heap.size ≤ z ∧ Blk wx z #[.int .i64 y.lft, .int .i64 y.rgt] 115 ∧ Below V1.heap.size V1 wx)
          case first => as_aux_lemma =>
            go_wp2_with fail
            go_meet
            exact ⟨_, rfl, Nat.le_refl _, blk1 _ _, bel1 _ _⟩
          obtain ⟨z, rfl, hzs, hZ, hbz⟩ := hcut
          obtain ⟨V2, hV2⟩ : ∃ V, V = wc := ⟨_, rfl⟩
          subst hV2
          have hO := HO.out.bel hbz
          have hzo : vo.ownBlock ≠ some z := fun e => by have := (hol z e).2; omega
          replace hb2 := hb2.trans (hbz.mono hb2.size)
          have z0 : V2.cell? ⟨z, 0, none⟩ = some (.int .i64 y.lft) := hZ.cell rfl
          have z1 : V2.cell? ⟨z, 1, none⟩ = some (.int .i64 y.rgt) := hZ.cell rfl
          have g1 : V2.cell? ⟨g, 1, none⟩ = some (.int .i64 x.rgt) := (HG.out _ hb2).cell rfl
          have hzl := hZ.lt
          have hgl2 := (HG.out _ hb2).lt
          clear hZ hbz e0 e1 HO hol
          obtain ⟨tv, htv⟩ : ∃ q, q = (decide (0 < y.lft) && !decide (y.rgt = x.rgt)) := ⟨_, rfl⟩
          rw [← htv] at HNX
          have HTV := Lib.hid htv
          clear htv
          have HO := Lib.hid hO
          clear hO
          have HB2 := Lib.hid hb2
          clear hb2
          go_upto_region 9 with (fail)
          go_cut [37] (fun q wx => q = .bool tv ∧ V2 = wx)
          case first => as_aux_lemma =>
            by_cases q2 : 0 < y.lft
            · have q3 : decide (0 < y.lft) = true := decide_eq_true q2
              by_cases q4 : y.rgt = x.rgt
              · obtain rfl : tv = false := by rw [HTV.out, decide_eq_true q2, decide_eq_true q4]; rfl
                have q5 : (y.rgt != x.rgt) = false := by simpa using q4
                clear q2 q4
                go_wp2_with fail
                go_meet
                exact ⟨rfl, rfl⟩
              · obtain rfl : tv = true := by rw [HTV.out, decide_eq_true q2, decide_eq_false q4]; rfl
                have q5 : (y.rgt != x.rgt) = true := by simpa using q4
                clear q2 q4
                go_wp2_with fail
                go_meet
                exact ⟨rfl, rfl⟩
            · have q3 : decide (0 < y.lft) = false := decide_eq_false q2
              obtain rfl : tv = false := by rw [HTV.out, decide_eq_false q2]; rfl
              clear q2
              go_wp2_with fail
              go_meet
              exact ⟨rfl, rfl⟩
          obtain ⟨rfl, rfl⟩ := hcut
          cases tv
          · have HV := Lib.hid (HNX.out.trans (by simp : _ = shE x.rgt (l.take j)))
            go_wp2_with fail
            go_roundg (n - (j + 1))
            case measure => omega
            case rel => exact ⟨j + 1, xs, vo, by omega, by omega, by go_num, rfl, by rw [HV.out]; exact HO.out, HB2.out⟩
          · have HV := Lib.hid (HNX.out.trans (show _ = shE x.rgt (l.take j) ++ [⟨y.lft - 1, y.rgt⟩] from rfl))
            have hyl : 0 < y.lft := by have h := HTV.out.symm; rw [Bool.and_eq_true] at h; exact of_decide_eq_true h.1
            have hyl2 : y.lft ≤ 16 := by have := HYG.out; have := HMB.out; omega
            have hsb : IntKind.i64.wrap (y.lft - 1) = y.lft - 1 := IntWalk.i64_in _ (by have := HYG.out; omega)
            have hin : InI (y.lft - 1) := .of (by have := HYG.out; omega) (by have := HYG.out; omega)
            have hby : ((shE x.rgt (l.take j)).length + 1) * 16 ≤ 140737488355328 := by have := HSL0.out; omega
            have HOL := Lib.hid (HO.out.bel (bel1 V2 (.cells #[.int .i64 (y.lft - 1), .int .i64 y.rgt] 115)))
            have hs20 : W2.heap.size ≤ (V2.alloc (.cells #[.int .i64 (y.lft - 1), .int .i64 y.rgt] 115)).heap.size := by have := HB2.out.size; simp; omega
            have HSL := Lib.hid (sl_edg V2 All (y.lft - 1) y.rgt 115 hin hy1 trivial)
            have HB3 := Lib.hid (HB2.out.trans ((bel1 V2 (.cells #[.int .i64 (y.lft - 1), .int .i64 y.rgt] 115)).mono HB2.out.size))
            clear hin hyl hyl2
            go_wp2_with (at_builtin; refine list_app (t := 65) (e := 115) (bytes := 16) rfl (.tmp 38) (.tmp 45) rfl edg_elem edgC_good rfl HOL.out rfl HSL.out (fun _ _ hc => hc) hby (by omega) hs20 ?_; intro v' w' xs' hown' hg' hat'; have HOWN := Lib.hid hown'; have HGR2 := Lib.hid hg'; clear hown' hg' hat')
            go_roundg (n - (j + 1))
            case measure => omega
            case rel => exact ⟨j + 1, xs', v', by omega, by omega, by go_num, rfl, by rw [HV.out]; exact HOWN.out, below_app HB3.out HOL.out HGR2.out HB3.out.size⟩
        · obtain rfl : j = n := by omega
          rw [List.take_of_length_le (by have := HLN.out; omega)] at hO
          obtain ⟨V1, hV1⟩ : ∃ V, V = wr := ⟨_, rfl⟩
          subst hV1
          have hb3 := HB.out.trans (hb2.mono HB.out.size)
          have hgg := HG.out _ hb2
          obtain ⟨A1, n1, c1, rfl, hs1⟩ := hO.sl edgC_good
          have hn1 : n1 ≤ 1000 := by have := hs1.len; have := HLB.out x.rgt; omega
          obtain ⟨ab, hab⟩ : ∃ q, q = allB many (shE x.rgt l) := ⟨_, rfl⟩
          have HC := Lib.hid (HALL.out A1 n1 c1 x.rgt V1 (hs1.all edgC_good (by omega)) hn1)
          rw [← hab] at HC
          have HAB := Lib.hid hab
          clear hab
          have HO := Lib.hid hO
          clear hO
          clear hs1 hn1 hb2 g0
          go_wp2_with fail
          refine HC.out.mono ?_
          rintro e w3 ⟨rfl, hb4⟩
          have hO3 := HO.out.bel hb4
          have g1 : w3.cell? ⟨g, 1, none⟩ = some (.int .i64 x.rgt) := (hgg.bel hb4).cell rfl
          replace hb3 := hb3.trans (hb4.mono hb3.size)
          have HO3 := Lib.hid hO3
          clear hO3
          have HB3 := Lib.hid hb3
          clear hb3
          clear hgg HC hb4
          cases ab
          · have HV := Lib.hid (HPK.out.trans (pickF_next (Int.not_lt.2 Q0.out) (by rw [← HAB.out]; simp)))
            go_wp2_with fail
            go_roundg (j - (k + 1))
            case measure => omega
            case rel => exact ⟨k + 1, by omega, by omega, by go_num, HV.out, HB3.out⟩
          · have HV := Lib.hid (HPK.out.trans (pickF_some (Int.not_lt.2 Q0.out) HAB.out.symm))
            go_wp2_with fail
            go_ret2
            exact ⟨_, xs, by unfold pickN; rw [HV.out]; rfl, by unfold leftL; rw [HV.out]; exact HO3.out.mono edgC_good (HB.out.size), HB3.out⟩
    · obtain rfl : k = n := by omega
      rw [List.drop_of_length_le (by have := HLN.out; omega)] at hpk
      go_wp2_with fail
      go_ret2
      exact ⟨.slice none 0 0, [], by unfold pickN; rw [hpk]; rfl, by unfold leftL; rw [hpk]; exact Own.nil _ _ _ _ _, hb⟩
end Go.Proofs.YtoilcdgpeilgaaaGreat
namespace Go.Proofs.YtoilcdgpeilgaaaGreat
open Go.RowKit Go.Shelf
section
variable {w0 : World} {b0 : Nat} {w : World} {base : Nat} {x : Sai} {p : SaiV} {g : Nat}
theorem SaiW.geB (h : SaiW w0 b0 w base x p) (hC : p.C = some ⟨g, 0, none⟩) : w0.heap.size ≤ g ∧ g < w.heap.size := by
  obtain ⟨a1, a2, a3, a4, a5, xs, a6⟩ := h
  rw [hC] at a6
  exact a6.lt g rfl
end
theorem saiA_clo {x y : Sai} {i : Nat} (h : CloK x y i) (p : SaiV) : saiA y p = saiA x p := by unfold saiA; rw [h.ship, h.fares, h.day, h.leaves, h.closed]
theorem saiA_close {x : Sai} (ho : OkSai x) (p : SaiV) : saiA (closeX x) p = saiA { x with closed := true } p := by
  have h := closeK_ok ho x.bks.length (Nat.le_refl _)
  show saiA { closeK x x.bks.length with closed := true } p = _
  unfold saiA
  simp only
  rw [h.ship, h.fares, h.day, h.leaves]
theorem pos_at {l : List Bkg} {k : Nat} {b : Bkg} (hr : Rise l) (hb : l[k]? = some b) : posI l b.id = k := by
  have hk := (List.getElem?_eq_some_iff.1 hb).1
  refine pos_of (by omega) (fun q c hq hc => hr q k c b hq hc hb) (fun q c hq hc => ?_)
  rcases Nat.lt_or_ge k q with h | h
  · exact Int.le_of_lt (hr k q b c h hb hc)
  · obtain rfl : q = k := by omega
    rw [hb] at hc; injection hc with hc; rw [hc]; exact Int.le_refl _
theorem clo_rise {x y : Sai} {i : Nat} (h : CloK x y i) (hr : Rise x.bks) : Rise y.bks := by
  refine rise_pw.2 ?_
  have h1 : (x.bks.map (·.id)).Pairwise (· < ·) := List.pairwise_map.2 (rise_pw.1 hr)
  rw [← h.ids] at h1
  exact List.pairwise_map.1 h1
set_option maxRecDepth 100000 in
set_option maxHeartbeats 16000000 in
theorem close_any (w0 : World) (b0 : Nat) (x : Sai) (p : SaiV) (y : Nat) (base : Nat) (w : World) (hW : SaiW w0 b0 w base x p) (hY : Blk w y (saiA x p) 163) (hw0 : w0.heap.size ≤ y) (ho : OkSai x) :
    Calls Tryz.prog 120 #[.pointer (some ⟨y, 0, none⟩)] w fun e w' => e = .returned (.tuple #[]) ∧ SaiW w0 b0 w' base (closeX x) p ∧ Blk w' y (saiA (closeX x) p) 163 ∧ Kept (fun j => w0.heap.size ≤ j) w w' := by
  have HM := hW.sai.cabs.len
  have h12 := ho.bs.ship.cabs12
  have HOP := Lib.hid (Open_any x p w hW.sai ho.bs.ship ho.bs.bk ho.bs.len)
  have HFI := Lib.hid (fun many A n cap l W hS hm hg hn => first_any many p.m A n cap l W hS hm (by omega) hg hn)
  have HPL := Lib.hid (fun Y t X hl hr hid hn ht => Place_any Y p t X hl hr hid hn ht)
  have HYA := Lib.hid (fun Y i (h : CloK x Y i) => saiA_clo h p)
  have HCA := Lib.hid (saiA_close ho p)
  have HNB := Lib.hid (show x.bks.length = p.nb from hW.sai.bks.len)
  have hnb16 : p.nb ≤ 16 := by have := HNB.out; have := ho.bs.len; omega
  have HGE := Lib.hid (fun g (hC : p.C = some ⟨g, 0, none⟩) => hW.geB hC)
  have HGY := Lib.hid (fun g (hC : p.C = some ⟨g, 0, none⟩) (e : y = g) => hW.neB hC hY (by decide) e.symm)
  have HBB := Lib.hid (fun g (hC : p.C = some ⟨g, 0, none⟩) => hW.blkB hC)
  have HO := Lib.hid ho
  have HW := Lib.hid hW
  have HY := Lib.hid hY
  have HPM := Lib.hid HM
  have hyl := hY.lt
  clear ho hW hY HM h12
  go_enter Tryz.func120, Tryz.ntmps120
  go_wp2_with (refine wpList_load_row rfl 32 (.tmp 13) rfl y rfl 163 _ (0, 0) _ HY.out Tryz.underlying32 rfl (by kernel_rfl) ?_)
  refine HOP.out.mono ?_
  rintro e w1 ⟨v1, v2, xs1, xs2, rfl, hO1, hO2, hb1⟩
  obtain ⟨A1, n1, c1, rfl, hs1⟩ := hO1.sl intC_good
  have hn1 : n1 = (idsL x).length := hs1.len.symm
  have hn16 : n1 ≤ 16 := by have := ids_len x; have := HNB.out; omega
  have hs01 := hb1.size
  have hW1 := HW.out.bel hb1
  have hY1 := HY.out.bel hb1
  have HB1 := Lib.hid hb1
  have HN1 := Lib.hid (show n1 = (openL x).length by rw [hn1, ids_open])
  have HW1 := Lib.hid hW1
  clear hW1
  have HY1 := Lib.hid hY1
  clear hY1
  have HO1 := Lib.hid hO1
  clear hO1
  have HO2 := Lib.hid hO2
  clear hO2
  obtain ⟨W1, hWW⟩ : ∃ V, V = w1 := ⟨_, rfl⟩
  subst hWW
  clear hs1 hn1 hb1 HW HY HOP
  go_wp2_with fail
  go_loopg [3, 20] n1 (fun gk v iv wr => ∃ (k i : Nat) (xs : List Value) (vo : Value), k ≤ n1 ∧ n1 - k ≤ gk ∧ iv = .int .i64 k ∧ i ≤ x.bks.length ∧ (openN x i).length = k ∧ vo = v ∧ Own edgC 2 115 wr w.heap.size vo (edgL (closeK x i)) xs ∧ SaiW w0 b0 wr base (closeK x i) p ∧ Kept (fun j => p.C = some ⟨j, 0, none⟩) W1 wr)
  case atStart => exact ⟨0, 0, xs2, _, Nat.zero_le _, by omega, rfl, Nat.zero_le _, rfl, rfl, HO2.out, HW1.out, Kept.refl _ _⟩
  case round =>
    obtain ⟨k, i, xs, vo, hk, hgk, rfl, hi, hik, rfl, hO, hW, hK⟩ := hrel
    obtain ⟨V1, hV1⟩ : ∃ V, V = wr := ⟨_, rfl⟩
    subst hV1
    have hsz := hK.size
    have hYV := HY1.out.kept hK (fun e => HGY.out y e rfl)
    by_cases hlt : k < n1
    · obtain ⟨b, hbo⟩ : ∃ b, (openL x)[k]? = some b := ⟨_, List.getElem?_eq_getElem (by have := HN1.out; omega)⟩
      obtain ⟨j, hj, hxb, hob, hjk⟩ := open_place (x := x) (n := x.bks.length) (k := k) (b := b) (by rw [openN_all rfl]; exact hbo)
      rw [closeK_same HO.out hi (Nat.le_of_lt hj) (hik.trans hjk.symm)] at hO hW
      have hc := closeK_ok HO.out j (Nat.le_of_lt hj)
      obtain ⟨c, hp1, hp2, hp3, hp4, hp5⟩ := hc.pick hxb hob
      have hYb : (closeK x j).bks[j]? = some b := hc.at.trans hxb
      have hnx : closeK x (j + 1) = setS (closeK x j) j (moveB b c) := closeAt_open hYb hob hp1
      have hopy := open_at hYb hc.none hob
      have hcnt : (openL (closeK x j)).length = n1 - k := by rw [open_left hc, HN1.out]; have := open_len (x := x) j; omega
      obtain ⟨M, hM⟩ : ∃ M, n1 - k = M + 1 := ⟨n1 - k - 1, by omega⟩
      have hpf : pickF M (edgL (closeK x j)) (edgL (closeK x j)) = some (c : Int) := by
        rw [pickF_edg hopy, show M = (openL (closeK x j)).length - 1 by omega]
        exact hp1
      have hpn : pickN M (edgL (closeK x j)) = (c : Int) := by unfold pickN; rw [hpf]; rfl
      have hpl : leftL M (edgL (closeK x j)) = edgL (closeK x (j + 1)) := by
        unfold leftL
        rw [hpf, hnx, edgL_mv hYb hc.none hob]; rfl
      have hgr : OkGr (M + 1) p.m (edgL (closeK x j)) := by
        have h := edgL_ok (closeK x j)
        rw [ids_open, hcnt, hM, hc.ship, HPM.out] at h
        exact h
      have hbk := hc.bk b (List.mem_of_getElem? hYb)
      have hbid := betB_iff.1 hbk.id
      obtain ⟨Z, hZ⟩ : ∃ Z, Z = ((M + 1 : Nat) : Int) := ⟨_, rfl⟩
      have hsub : IntKind.i64.wrap ((n1 : Int) - (k : Int)) = Z := by rw [IntWalk.i64_in _ (by omega), hZ]; omega
      obtain ⟨A2, n2, c2, rfl, hs2⟩ := hO.sl edgC_good
      have hn2 : n2 ≤ 1000 := by
        have h1 := hs2.len
        have h2 := edgF_len (closeK x j) (openL (closeK x j)) 0
        have h3 : (edgL (closeK x j)).length ≤ (openL (closeK x j)).length * (closeK x j).ship.cabs.length := h2
        rw [hcnt, hc.ship] at h3
        have h4 := HO.out.bs.ship.cabs12
        have h5 : (n1 - k) * x.ship.cabs.length ≤ 16 * 12 := Nat.mul_le_mul (by omega) h4
        omega
      have HFC := Lib.hid (HFI.out M A2 n2 c2 (edgL (closeK x j)) V1 (hs2.all edgC_good (by omega)) (by omega) hgr hn2)
      rw [← hZ, hpn, hpl] at HFC
      obtain ⟨id, hid⟩ : ∃ q, q = b.id := ⟨_, rfl⟩
      have hid0 : (idsL x)[k]? = some id := by unfold idsL; rw [List.getElem?_map, hbo, hid]; rfl
      have hO1V : Own intC 1 3 V1 w.heap.size (.slice A1 n1 c1) (idsL x) xs1 := HO1.out.keepB intC_flat (fun q hq => hK.block q (HO1.out.lt q hq).2 (fun e => by
        have h1 := (HO1.out.lt q hq).1
        have h2 := (HGE.out q e).2
        omega))
      obtain ⟨A3, n3, c3, hv3, hs3⟩ := hO1V.sl intC_good
      obtain ⟨rfl, rfl, rfl⟩ : A1 = A3 ∧ n1 = n3 ∧ c1 = c3 := by injection hv3 with h1 h2 h3; exact ⟨h1, h2, h3⟩
      obtain ⟨a1, off1, t, c0, rfl, ht, ⟨hd, hti⟩, e0⟩ := hs3.at1 hlt
      obtain rfl : t = id := by rw [hid0] at ht; injection ht with ht; exact ht.symm
      obtain rfl : c0 = .int .i64 t := by simpa using hd
      obtain ⟨g, A4, n4, c4, hC, hg0, hgl, hcel, hfr, hF, hI, _⟩ := hW.at hYb
      have HPC := Lib.hid (fun X (hX : SaiR X (closeK x j) p) => HPL.out (closeK x j) t X hX.bks (clo_rise hc (rise_of HO.out.bs.rise)) (fun q hq => by have := betB_iff.1 (hc.bk q hq).id; omega) (by rw [hc.len]; exact HO.out.bs.len) hti)
      have HPO := Lib.hid (show posI (closeK x j).bks t = j by rw [hid]; exact pos_at (clo_rise hc (rise_of HO.out.bs.rise)) hYb)
      have hsa := HYA.out _ _ hc
      rw [hsa] at HPC
      have HSM := Lib.hid (show SmallN t by rw [hid]; unfold SmallN; omega)
      obtain ⟨Y, hYY⟩ : ∃ q, q = closeK x j := ⟨_, rfl⟩
      obtain ⟨Y', hYN⟩ : ∃ q, q = closeK x (j + 1) := ⟨_, rfl⟩
      rw [← hYY] at HPC HPO hW hYb
      have HNX := Lib.hid (show setS Y j (moveB b c) = Y' by rw [hYY, hYN]; exact hnx.symm)
      have HJK := Lib.hid (show (openN x (j + 1)).length = k + 1 by rw [openN_succ hxb, List.length_append, if_pos hob, hjk]; rfl)
      rw [← hYN] at HFC
      have HYN := Lib.hid hYN
      have hc0 : (0 : Int) ≤ (c : Int) := Int.natCast_nonneg _
      have hc12 : (c : Int) ≤ 12 := by have := HO.out.bs.ship.cabs12; omega
      have hj0 : (0 : Int) ≤ (j : Int) := Int.natCast_nonneg _
      have hjn : (j : Int) < (p.nb : Int) := by have := HNB.out; omega
      have HJ := Lib.hid hj
      have HCEL := Lib.hid hcel
      have HFR := Lib.hid (hfr (j * 11 + 5))
      have HYB := Lib.hid hYb
      have HW := Lib.hid hW
      clear hW
      have HK := Lib.hid hK
      clear hK
      have HYV := Lib.hid hYV
      have HC := Lib.hid hC
      have y3 : V1.cell? ⟨y, 3, none⟩ = some (.slice p.B p.m p.cap2) := hYV.cell rfl
      clear hYV hC hbo hxb hob hjk hc hp1 hp2 hp3 hp4 hp5 hnx hopy hcnt hM hpf hpn hpl hgr hbk hbid hZ hO hs2 hid hid0 hO1V hv3 hs3 ht hti hd hcel hfr hF hI hYY hYN hYb hi hik HPL hsa hj
      go_wp2_with fail
      refine HFC.out.mono ?_
      rintro e w3 ⟨v3, xs3, rfl, hO3, hb3⟩
      have hW3 := HW.out.bel hb3
      have hY3 := HYV.out.bel hb3
      have hs13 := hb3.size
      have HB3 := Lib.hid hb3
      have HPD := Lib.hid (HPC.out w3 hW3.sai)
      have HW3 := Lib.hid hW3
      clear hW3
      have HY3 := Lib.hid hY3
      clear hY3
      have HO3 := Lib.hid hO3
      clear hO3
      clear hb3 HFC HPC y3 e0
      go_wp2_with (refine wpList_load_row rfl 32 (.tmp 45) rfl y rfl 163 _ (0, 0) _ HY3.out Tryz.underlying32 rfl (by kernel_rfl) ?_)
      refine HPD.out.mono ?_
      rintro e w4 ⟨i2, rfl, -, hsm, hb4⟩
      obtain rfl : i2 = j := (hsm HSM.out).trans HPO.out
      have hW4 := HW3.out.bel hb4
      have hO4 := HO3.out.bel hb4
      have hb34 := HB3.out.trans (hb4.mono HB3.out.size)
      have y11 : w4.cell? ⟨y, 11, none⟩ = some (.slice (some ⟨g, 0, none⟩) p.nb p.cb) := by rw [← HC.out]; exact (HY3.out.bel hb4).cell rfl
      have c5 : w4.cell? ⟨g, i2 * 11 + 5, none⟩ = some (.int .i64 b.cab) := cellB hb34 (HCEL.out 5 _ rfl)
      have f5 : w4.frozen? ⟨g, i2 * 11 + 5, none⟩ = false := by rw [World.frozen?_of_block (a := ⟨g, i2 * 11 + 5, none⟩) (hb34.block g (by omega))]; exact HFR.out
      have HB34 := Lib.hid hb34
      have hs34 := hb4.size
      have HW4 := Lib.hid hW4
      clear hW4
      have HO4 := Lib.hid hO4
      clear hO4
      clear hsm hb34 hb4 HPD
      go_wp2_with fail
      go_roundg (n1 - (k + 1))
      case measure => omega
      case rel =>
        have hW5 := HW4.out.put HC.out HYB.out (j := 5) (by omega) (u := .int .i64 (c : Int)) (fun cs h => bkgO_cab h (.of (by omega) (by omega)))
        have hKs : Kept (fun q => q = g) w4 (w4.setCell ⟨g, i2 * 11 + 5, none⟩ (.int .i64 (c : Int))) := kset w4 g [(i2 * 11 + 5, .int .i64 (c : Int))]
        have hO5 := HO4.out.keepB edgC_flat (w' := w4.setCell ⟨g, i2 * 11 + 5, none⟩ (.int .i64 (c : Int))) (fun q hq => hKs.block q (HO4.out.lt q hq).2 (fun e => by have := (HO4.out.lt q hq).1; omega))
        refine ⟨k + 1, i2 + 1, xs3, v3, by omega, by omega, by go_num, HJ.out, HJK.out, rfl, ?_, ?_, ?_⟩
        · rw [← HYN.out]; exact hO5.mono edgC_good (by omega)
        · rw [← HYN.out, ← HNX.out]; exact hW5
        · exact HK.out.trans ((Kept.of_below HB34.out (fun q h1 h2 => absurd h1 (by omega)) : Kept (fun q => p.C = some ⟨q, 0, none⟩) V1 w4).trans (hKs.mono fun q _ e => by rw [e]; exact HC.out))
    · obtain rfl : k = n1 := by omega
      have hend : closeK x i = closeK x x.bks.length := closeK_same HO.out hi (Nat.le_refl _) (by rw [hik, HN1.out, openN_all rfl])
      rw [hend] at hW
      have f12 := hYV.free 12
      have y12 : V1.cell? ⟨y, 12, none⟩ = some (.bool x.closed) := hYV.cell rfl
      have HYV := Lib.hid hYV
      have HW := Lib.hid hW
      have HK := Lib.hid hK
      clear hYV hW hK hO hend
      go_wp2_with fail
      go_end0
      have hk := kset V1 y [(12, .bool true)]
      obtain ⟨a1, a2, a3, a4, a5, ys, a6⟩ := HW.out.keepZ HYV.out (by decide) (by decide) hw0 hk
      refine ⟨rfl, ⟨a1, a2, a3, a4, ⟨a5.cats, a5.cabs, a5.leg, a5.bands, a5.a, a5.t, a5.d⟩, ys, a6⟩, ?_, ?_⟩
      · rw [HCA.out]; exact HYV.out.set (j := 12) _
      · exact (Kept.of_below HB1.out (fun q h1 h2 => absurd h1 (by omega)) : Kept (fun j => w0.heap.size ≤ j) w W1).trans ((HK.out.mono fun q _ e => (HGE.out q e).1).trans (hk.mono fun q _ e => by rw [e]; exact hw0))
end Go.Proofs.YtoilcdgpeilgaaaGreat
