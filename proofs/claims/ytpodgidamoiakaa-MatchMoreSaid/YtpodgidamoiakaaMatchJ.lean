/-
  Matchings: a map of edges that tells how often each was met.
-/
import Derived.Test.YtpodgidamoiakaaMatchB
import Derived.Test.YtpodgidamoiakaaTally
import Derived.WideKeyEntry
import Derived.DeepKeys4
namespace Go.Proofs.Ytpodgidamoiakaa
open Go.RowKit Go.Shelf Go.Maps
open Go.ChangeMaps (setBlock heap_setBlock_same heap_setBlock_other modify_eq_set)
open Go.WideElems (Fit entry_then_store set_self)

theorem laidOutM : laidOutB Try.prog = true := by kernel_rfl
theorem edgLaw : WideMaps.KeyLaw Try.prog 70 := deep_law_laid laidOutM (m := 2) (by omega) (of_decide_eq_true (by kernel_rfl)) (by kernel_rfl) (by kernel_rfl)
def edgV (x : Edg) : Value := .agg #[.int .i64 x.lft, .int .i64 x.rgt]
theorem edg_key (x : Edg) (h1 : InI x.lft) (h2 : InI x.rgt) : ∃ kl, keyOf Try.prog 70 (edgV x) = some kl := by
  have hw1 := h1.wf
  have hw2 := h2.wf
  have hk : Try.prog.keyType 70 = true := by kernel_rfl
  have hi : Try.prog.underlying 3 = some (.int .i64) := Try.underlying3
  have hc : Try.prog.cellsOf 3 = 1 := by kernel_rfl
  have hc2 : Try.prog.cellsOf 70 = 2 := by kernel_rfl
  have hn : Try.prog.types.size + 1 = (Try.prog.types.size - 1) + 2 := by kernel_rfl
  obtain ⟨n, hn2⟩ : ∃ n, n = Try.prog.types.size - 1 := ⟨_, rfl⟩
  rw [← hn2] at hn
  clear hn2
  have hu := Try.underlying70
  unfold keyOf
  rw [hu]
  have hl : ∀ a : Int, (Lit.int .i64 a).wf = true → Try.prog.keyLits (n + 1) 3 [.int .i64 a] = some [.int .i64 a] := fun a ha => by
    simp only [Program.keyLits, hi]
    rw [if_pos ⟨trivial, ha⟩]
  have hfm : (edgV x).formed Try.prog 70 = true := by
    unfold edgV Value.formed
    simp only [hu]
    simp [hc2]
  have hkl : Try.prog.keyLits (n + 2) 70 [.int .i64 x.lft, .int .i64 x.rgt] = some [.int .i64 x.lft, .int .i64 x.rgt] := by
    unfold Program.keyLits
    simp only [hu]
    rw [if_pos ⟨by rw [hc2]; rfl, by first | kernel_rfl | (simp; done)⟩]
    simp only [List.mapM_cons, List.mapM_nil, hc, List.drop_zero, List.drop_succ_cons, List.take_succ_cons, List.take_zero, hl _ hw1, hl _ hw2]
    rfl
  simp only [hk, hn, hfm, Bool.and_self, if_true]
  unfold edgV
  simp only [Value.cells, hkl]
  exact ⟨_, rfl⟩

theorem edgV_inj {x y : Edg} (h : edgV x = edgV y) : x = y := by
  unfold edgV at h
  injection h with h
  have h1 := congrArg Array.toList h
  simp only [List.cons.injEq, Value.int.injEq, true_and, and_true] at h1
  cases x; cases y
  simp_all
/-- How often each edge is there. -/
noncomputable def cntE (l : List Edg) : Lit → Int := fun kl => ((l.countP (fun y => @decide (keyOf Try.prog 70 (edgV y) = some kl) (Classical.propDecidable _)) : Nat) : Int)
theorem cntE_nil : cntE [] = fun _ => 0 := rfl
theorem cntE_snoc (l : List Edg) {x : Edg} {kl : Lit} (h : keyOf Try.prog 70 (edgV x) = some kl) : cntE (l ++ [x]) kl = cntE l kl + 1 := by
  simp [cntE, List.countP_append, h]
theorem cntE_other (l : List Edg) {x : Edg} {kl y : Lit} (h : keyOf Try.prog 70 (edgV x) = some kl) (hy : y ≠ kl) : cntE (l ++ [x]) y = cntE l y := by
  have : ¬ kl = y := fun e => hy e.symm
  simp [cntE, List.countP_append, h, this]
set_option maxRecDepth 100000 in
theorem cntE_at (l : List Edg) {x : Edg} {kl : Lit} (h : keyOf Try.prog 70 (edgV x) = some kl) : cntE l kl = (l.count x : Nat) := by
  unfold cntE List.count
  congr 1
  apply List.countP_congr
  intro y _
  simp only [decide_eq_true_eq, beq_iff_eq]
  exact ⟨fun e => edgV_inj (edgLaw.inj e h), fun e => by rw [e]; exact h⟩

theorem setBlock_self {w : World} {b : Nat} {o : Obj} (h : w.heap[b]? = some o) : setBlock w b o = w := by
  have : w.heap.setIfInBounds b o = w.heap := by
    apply Array.ext_getElem?
    intro i
    rw [Array.getElem?_setIfInBounds]
    split
    · next e =>
      subst e
      have := (Array.getElem?_eq_some_iff.1 h).1
      rw [if_pos this, h]
    · rfl
  unfold setBlock
  rw [this]
theorem grown_setBlock {w : World} {b : Nat} {es : Array MapEntry} {clock : Nat} (hb : w.heap[b]? = some (.map es clock)) (o : Obj) : w.grownBy (setBlock w b o) (some b) :=
  ⟨rfl, rfl, rfl, by simp [setBlock], fun i _ hi => heap_setBlock_other hb _ (fun e => hi (by rw [e]))⟩
theorem setBlock_two {w : World} {b : Nat} {o p : Obj} : setBlock (setBlock w b o) b p = setBlock w b p := by
  unfold setBlock
  simp
theorem zeroI (w : World) : (zeroValue 3).run Try.prog w = .ok (.int .i64 0) w := by kernel_rfl

set_option maxRecDepth 100000 in
set_option maxHeartbeats 1000000 in
theorem tally_incr {w : World} {B n : Nat} {l : List Edg} {x : Edg} (h1 : InI x.lft) (h2 : InI x.rgt) (h : Tally Try.prog w 70 3 B n (cntE l)) (hn : n < maxLen) (hci : InI (((l.count x : Nat) : Int) + 1)) :
    ∃ (st : Nat) (W2 W3 : World), (Instr.lookup 106 (.map (some B)) (edgV x) false).run Try.prog w = .ok (.int .i64 (l.count x : Nat)) w ∧
      (Instr.mapEntry 106 (.map (some B)) (edgV x)).run Try.prog w = .ok (.tuple #[.int .i64 (l.count x : Nat), goInt st]) W2 ∧
      (Instr.lookup 106 (.map (some B)) (edgV x) false).run Try.prog W2 = .ok (.int .i64 (l.count x : Nat)) W2 ∧
      (Instr.entryStore 106 (.map (some B)) (goInt st) (.int .i64 ((l.count x : Nat) + 1))).run Try.prog W2 = .ok () W3 ∧
      Tally Try.prog W3 70 3 B (n + 1) (cntE (l ++ [x])) ∧ w.grownBy W2 (some B) ∧ w.grownBy W3 (some B) := by
  have ht : Try.prog.underlying 106 = some (.map 70 3) := Try.underlying106
  have he : Try.prog.underlying 3 = some (.int .i64) := Try.underlying3
  have KK : Keyed Try.prog 70 := Keyed.of_law edgLaw
  obtain ⟨kl, hkl⟩ := edg_key x h1 h2
  have hc := cntE_at l hkl
  obtain ⟨D, hown, hmap, hcnt⟩ := h
  obtain ⟨c, hlook, hat, hwc⟩ := hown.lookup_int KK ht he (zeroI w) hkl
  have hcc : c = (l.count x : Nat) := by
    have := hat.symm.trans (hcnt kl)
    injection this with this
    injection this with _ this
    rw [this, hc]
  subst hcc
  obtain ⟨w', hup, hown', hgr'⟩ := hown.update KK ht hn (val := .int .i64 ((l.count x : Nat) + 1)) hkl (plainElem_int (H := Unit) he hci.wf)
  obtain ⟨es, clock, hb, F, hs, hD⟩ := hown
  obtain ⟨v0, st, es1, clock1, hme, _, hst⟩ := entry_then_store edgLaw ht zeroI hb F hkl
  have hb2 : (setBlock w B (.map es1 clock1)).heap[B]? = some (.map es1 clock1) := heap_setBlock_same hb _
  obtain ⟨es', clock', hes, hmu⟩ := hst _ (.int .i64 ((l.count x : Nat) + 1)) hb2
  rw [hup] at hmu
  have hw' : w' = setBlock w B (.map es' clock') := by injection hmu
  rw [setBlock_two, ← hw'] at hes
  have hT : Tally Try.prog w' 70 3 B (n + 1) (cntE (l ++ [x])) := ⟨_, hown', hmap.put _ _, fun y => by
    by_cases hy : y = kl
    · subst hy; rw [atKey_put_same hmap (KK.key hkl), cntE_snoc l hkl, hc]
    · rw [atKey_put_other hy, hcnt, cntE_other l hkl hy]⟩
  -- what the entry tells, and what is told behind it
  have key : v0 = .int .i64 (l.count x : Nat) ∧ (Instr.lookup 106 (.map (some B)) (edgV x) false).run Try.prog (setBlock w B (.map es1 clock1)) = .ok (.int .i64 (l.count x : Nat)) (setBlock w B (.map es1 clock1)) := by
    rcases edgLaw.find w hkl es.toList F.keys with ⟨g1, g2⟩ | ⟨j, e0, g1, g2, g3⟩
    · have hl0 : (Instr.lookup 106 (.map (some B)) (edgV x) false).run Try.prog w = .ok (.int .i64 0) w := by
        simp [Instr.lookup, run_underlying ht, MapKept.run_getObj_map hb, edgLaw.check w _ hkl, g1, zeroI, Result.andThen]
      rw [hlook] at hl0
      have h0 : ((l.count x : Nat) : Int) = 0 := by injection hl0 with hl0; injection hl0
      have hme2 : (Instr.mapEntry 106 (.map (some B)) (edgV x)).run Try.prog w = .ok (.tuple #[.int .i64 0, goInt clock]) (setBlock w B (.map (es.push ⟨edgV x, .int .i64 0, clock⟩) (clock + 1))) := by
        simp [Instr.mapEntry, run_underlying ht, MapKept.run_getObj_map hb, edgLaw.check w false hkl, g1, zeroI, MapKept.run_setObj_map _ hb, Result.andThen, setBlock]
      rw [hme] at hme2
      injection hme2 with e1 e2
      have hb3 : (setBlock w B (.map es1 clock1)).heap[B]? = some (.map (es.push ⟨edgV x, .int .i64 0, clock⟩) (clock + 1)) := by rw [e2]; exact heap_setBlock_same hb _
      have e3 : v0 = .int .i64 0 := by
        injection e1 with e1
        have := congrArg Array.toList e1
        simp only [List.cons.injEq] at this
        exact this.1
      rw [h0]
      refine ⟨e3, ?_⟩
      rcases edgLaw.find (setBlock w B (.map es1 clock1)) hkl (es.push ⟨edgV x, .int .i64 0, clock⟩).toList (fun e he => by
        simp only [Array.toList_push, List.mem_append, List.mem_singleton] at he
        rcases he with he | rfl
        · exact F.keys e he
        · exact ⟨kl, hkl⟩) with ⟨k1, k2⟩ | ⟨j, e0, k1, k2, k3⟩
      · exact absurd rfl (k2 ⟨edgV x, .int .i64 0, clock⟩ (by simp))
      · have hm := List.mem_of_getElem? k2
        rw [Array.toList_push] at k1
        simp only [Array.toList_push, List.mem_append, List.mem_singleton] at hm
        have hv0 : e0.val = .int .i64 0 := by
          rcases hm with hm | rfl
          · exact absurd k3 (g2 e0 hm)
          · rfl
        simp [Instr.lookup, run_underlying ht, MapKept.run_getObj_map hb3, edgLaw.check _ _ hkl, k1, hv0, Result.andThen]
    · have hl0 : (Instr.lookup 106 (.map (some B)) (edgV x) false).run Try.prog w = .ok e0.val w := by
        simp [Instr.lookup, run_underlying ht, MapKept.run_getObj_map hb, edgLaw.check w _ hkl, g1, Result.andThen]
      rw [hlook] at hl0
      have hv0 : Value.int .i64 (l.count x : Nat) = e0.val := by injection hl0
      have hj : es[j]? = some e0 := by simpa using g2
      have hsame : es.modify j (fun e => { e with key := edgV x }) = es := by
        apply Array.ext'
        rw [Array.toList_modify, modify_eq_set _ _ _ _ g2]
        have : ({ e0 with key := edgV x } : MapEntry) = e0 := by rw [← g3]
        rw [this]
        exact set_self _ _ _ g2
      have hme2 : (Instr.mapEntry 106 (.map (some B)) (edgV x)).run Try.prog w = .ok (.tuple #[e0.val, goInt e0.born]) (setBlock w B (.map es clock)) := by
        simp [Instr.mapEntry, run_underlying ht, MapKept.run_getObj_map hb, edgLaw.check w false hkl, g1, hj, g3, edgLaw.stays w hkl, hsame, MapKept.run_setObj_map _ hb, Result.andThen, setBlock]
      rw [hme] at hme2
      injection hme2 with e1 e2
      have e3 : v0 = e0.val := by
        injection e1 with e1
        have := congrArg Array.toList e1
        simp only [List.cons.injEq] at this
        exact this.1
      refine ⟨by rw [e3, hv0], ?_⟩
      rw [e2, setBlock_self hb]
      exact hlook
  rw [key.1] at hme
  exact ⟨st, _, w', hlook, hme, key.2, hes, hT, grown_setBlock hb _, hgr'⟩
set_option maxRecDepth 100000 in
theorem tally_look {w : World} {B n : Nat} {l : List Edg} {x : Edg} (h1 : InI x.lft) (h2 : InI x.rgt) (h : Tally Try.prog w 70 3 B n (cntE l)) :
    (Instr.lookup 106 (.map (some B)) (edgV x) false).run Try.prog w = .ok (.int .i64 (l.count x : Nat)) w := by
  obtain ⟨kl, hkl⟩ := edg_key x h1 h2
  have hc := cntE_at l hkl
  obtain ⟨D, hown, hmap, hcnt⟩ := h
  obtain ⟨c, hlook, hat, hwc⟩ := hown.lookup_int (Keyed.of_law edgLaw) Try.underlying106 Try.underlying3 (zeroI w) hkl
  have := hat.symm.trans (hcnt kl)
  injection this with this
  injection this with _ this
  rw [hlook, this, hc]
end Go.Proofs.Ytpodgidamoiakaa
