/-
  Matchings: the matcher's table of whom each left one may have; forget.
-/
import Derived.Test.YtpodgidamoiakaaMatchE
namespace Go.Proofs.Ytpodgidamoiakaa
open Go.RowKit Go.Shelf

theorem cell_bv {W X : World} {p j : Nat} {v : Value} (hX : Below W.heap.size W X) (hc : W.cell? ⟨p, j, none⟩ = some v) : X.cell? ⟨p, j, none⟩ = some v := (World.cell?_of_block (a := ⟨p, j, none⟩) (hX.block _ (cell_lt hc))).trans hc

/-- A table of rows of numbers: O holds the rows' slices; each is the call's own. -/
structure TabI (w : World) (base O : Nat) (vs : List Value) (rows : List (List Int)) : Prop where
  ll : rows.length = vs.length
  outer : Blk w O vs.toArray 30
  lo : O < base
  row : ∀ (a : Nat) (v : Value), vs[a]? = some v → ∃ xs, Own intC 1 3 w base v (rows.getD a []) xs
  dis : ∀ (a b : Nat) (v u : Value) (g : Nat), vs[a]? = some v → vs[b]? = some u → v.ownBlock = some g → u.ownBlock = some g → a = b
theorem TabI.bel {w w' : World} {base O : Nat} {vs : List Value} {rows : List (List Int)} (h : TabI w base O vs rows) (hb : Below w.heap.size w w') : TabI w' base O vs rows :=
  ⟨h.ll, h.outer.bel hb, h.lo, fun a v hv => by obtain ⟨xs, ho⟩ := h.row a v hv; exact ⟨xs, ho.bel hb⟩, h.dis⟩
theorem TabI.new {w : World} {base O n : Nat} (hO : Blk w O (Array.replicate n (Value.slice none 0 0)) 30) (hlo : O < base) : TabI w base O (List.replicate n (.slice none 0 0)) (List.replicate n []) := by
  have hv : ∀ (a : Nat) (v : Value), (List.replicate n (Value.slice none 0 0))[a]? = some v → v = .slice none 0 0 := fun a v h => by
    rw [List.getElem?_replicate] at h
    split at h
    · injection h with h; exact h.symm
    · cases h
  refine ⟨by simp, by rw [List.toArray_replicate]; exact hO, hlo, fun a v h => ?_, fun a b v u g h _ hg _ => ?_⟩
  · obtain rfl := hv a v h
    have : (List.replicate n ([] : List Int)).getD a [] = [] := by
      rw [List.getD_eq_getElem?_getD, List.getElem?_replicate]; split <;> rfl
    rw [this]
    exact ⟨[], Own.nil _ _ _ _ _⟩
  · obtain rfl := hv a v h
    cases hg
/-- A row that grew, and lies in its place. -/
theorem TabI.put {w w' : World} {base O : Nat} {vs : List Value} {rows : List (List Int)} (h : TabI w base O vs rows) {l : Nat} {v v' : Value} {r' : List Int} {xs : List Value} (hv : vs[l]? = some v)
    (ho : Own intC 1 3 w' base v' r' xs) (hg : w.grownBy w' v.ownBlock) (hat : v'.ownBlock = v.ownBlock ∨ v'.ownBlock = some w.heap.size) :
    TabI (w'.setCell ⟨O, l, none⟩ v') base O (vs.set l v') (rows.set l r') := by
  have hl : l < vs.length := (List.getElem?_eq_some_iff.1 hv).1
  have hlo := h.lo
  have hOv : some O ≠ v.ownBlock := fun e => by
    obtain ⟨xs0, h0⟩ := h.row l v hv
    have := (h0.lt O e.symm).1; omega
  have hold : ∀ (a : Nat) (u : Value) (g : Nat), vs[a]? = some u → u.ownBlock = some g → g < w.heap.size := fun a u g hu hug => by
    obtain ⟨xs0, h0⟩ := h.row a u hu
    exact (h0.lt g hug).2
  refine ⟨by rw [List.length_set, List.length_set]; exact h.ll, ?_, hlo, fun a u hu => ?_, fun a b u1 u2 g h1 h2 e1 e2 => ?_⟩
  · have := Blk.set (j := l) (show Blk w' O vs.toArray 30 from (hg.block O h.outer.lt hOv).trans h.outer) v'
    rw [show (vs.set l v').toArray = vs.toArray.set! l v' by simp]
    exact this
  · by_cases hal : l = a
    · subst hal
      rw [List.getElem?_set_self hl] at hu
      injection hu with hu
      subst hu
      refine ⟨xs, ?_⟩
      rw [List.getD_eq_getElem?_getD, List.getElem?_set_self (by rw [h.ll]; exact hl)]
      exact ho.keep intC_good fun b hb _ => Below.heap_setCell _ _ _ _ (by show b ≠ O; omega)
    · rw [List.getElem?_set_ne hal] at hu
      obtain ⟨xs0, h0⟩ := h.row a u hu
      refine ⟨xs0, ?_⟩
      rw [List.getD_eq_getElem?_getD, List.getElem?_set_ne hal, ← List.getD_eq_getElem?_getD]
      have h1 : Own intC 1 3 w' base u (rows.getD a []) xs0 := by
        rcases h0.row.2 with ⟨rfl, hn⟩ | ⟨g, cap, cur, rfl, hb, hgg, r⟩
        · have : rows.getD a [] = [] := List.eq_nil_of_length_eq_zero hn
          have hx : xs0 = [] := List.eq_nil_of_length_eq_zero (by rw [h0.row.1, hn])
          rw [this, hx]
          exact Own.nil _ _ _ _ _
        · have hgne : some g ≠ v.ownBlock := fun e => hal (h.dis l a v _ g hv hu e.symm rfl)
          exact ⟨⟨h0.row.1, .inr ⟨g, cap, cur, rfl, hb, (hg.block g (Array.getElem?_eq_some_iff.1 hgg).1 hgne).trans hgg, r⟩⟩, fun i x hx => by
            obtain ⟨cs, hc, r2⟩ := h0.el i x hx
            exact ⟨cs, intC_flat _ _ _ _ _ _ hc, r2⟩⟩
      exact h1.keep intC_good fun b hb _ => Below.heap_setCell _ _ _ _ (by show b ≠ O; omega)
  · have key : ∀ (c : Nat) (u : Value), l ≠ c → vs[c]? = some u → ∀ q, u.ownBlock = some q → v'.ownBlock ≠ some q := fun c u hlc hu q hq e => by
      rcases hat with e3 | e3
      · exact hlc (h.dis l c v u q hv hu (by rw [← e3]; exact e) hq)
      · rw [e3] at e; injection e with e; have := hold c u q hu hq; omega
    by_cases hla : l = a <;> by_cases hlb : l = b
    · rw [← hla, ← hlb]
    · subst hla
      rw [List.getElem?_set_self hl] at h1
      injection h1 with h1
      subst h1
      rw [List.getElem?_set_ne hlb] at h2
      exact absurd e1 (key b u2 hlb h2 g e2)
    · subst hlb
      rw [List.getElem?_set_self hl] at h2
      injection h2 with h2
      subst h2
      rw [List.getElem?_set_ne hla] at h1
      exact absurd e2 (key a u1 hla h1 g e1)
    · rw [List.getElem?_set_ne hla] at h1
      rw [List.getElem?_set_ne hlb] at h2
      exact h.dis a b u1 u2 g h1 h2 e1 e2
/-- It reads as its rows. -/
theorem TabI.sl {w : World} {base O : Nat} {vs : List Value} {rows : List (List Int)} (h : TabI w base O vs rows) (hm : vs.length ≤ 1000000) {S : Nat → Prop} (hO : S O) (hS : ∀ b, base ≤ b → b < w.heap.size → S b) :
    Sl (slC intC 1) 1 w S (some ⟨O, 0, none⟩) vs.length vs.length rows := by
  refine ⟨h.ll, Nat.le_refl _, by unfold maxLen; omega, fun i x hx => ?_⟩
  have hi : i < vs.length := by rw [← h.ll]; exact (List.getElem?_eq_some_iff.1 hx).1
  obtain ⟨xs, ho⟩ := h.row i _ (List.getElem?_eq_getElem hi)
  obtain ⟨A, n, cap, he, hs⟩ := ho.sl intC_good
  have hr : rows.getD i [] = x := by rw [List.getD_eq_getElem?_getD, hx]; rfl
  rw [hr] at hs
  refine ⟨O, 0, [vs[i]], rfl, hO, ⟨A, n, cap, by rw [he], hs.keep intC_good (by omega) fun b hb hlt => ⟨rfl, hS b hb hlt⟩⟩, rfl, fun j u hu => ?_⟩
  rcases j with _ | j
  · simp at hu; subst hu
    exact Blk.cell h.outer (by simp [hi])
  · simp at hu

/-- A matcher behind solve, from block N on all is other. -/
structure StAt (w : World) (P G N : Nat) (A : Option Addr) (n cap R : Nat) (rows : List (List Int)) (has : List Int) : Prop where
  sl : Sl (slC intC 1) 1 w (fun b => b ≠ G ∧ b ≠ P ∧ b < N) A n cap rows
  st : ∃ z, Blk w P #[.slice A n cap, .slice (some ⟨G, 0, none⟩) R R, z] 103
  row : RowI w G has 3
  lh : has.length = R
  pg : P ≠ G
  pn : P < N
  gn : G < N
  le : N ≤ w.heap.size
theorem StAt.bel {w w' : World} {P G N : Nat} {A : Option Addr} {n cap R : Nat} {rows : List (List Int)} {has : List Int} (h : StAt w P G N A n cap R rows has) (hb : Below w.heap.size w w') : StAt w' P G N A n cap R rows has := by
  obtain ⟨z, hz⟩ := h.st
  exact ⟨h.sl.below ints_good (by omega) hb, ⟨z, hz.bel hb⟩, h.row.bel hb, h.lh, h.pg, h.pn, h.gn, Nat.le_trans h.le hb.size⟩
/-- Behind a search: it may have written into G and M. -/
theorem StAt.found {w w' : World} {P G N M : Nat} {A : Option Addr} {n cap R : Nat} {rows : List (List Int)} {has has' : List Int} {met' : List Bool} (h : StAt w P G N A n cap R rows has) (hM : N ≤ M) (hk : Kept (fun k => k = G ∨ k = M) w w') (hA : MtAt w' P G M A n cap R rows has' met') : StAt w' P G N A n cap R rows has' :=
  ⟨h.sl.keep ints_good (by omega) fun b hb hlt => ⟨hk.block b hlt (by rintro (e | e); exact hb.1 e; have := hb.2.2; omega), hb⟩, ⟨_, hA.st⟩, hA.row, hA.lh, h.pg, h.pn, h.gn, Nat.le_trans h.le hk.size⟩

set_option maxRecDepth 100000 in
theorem forget_any (P G N : Nat) (A : Option Addr) (n cap R : Nat) (rows : List (List Int)) (has : List Int) (w : World) (h : StAt w P G N A n cap R rows has) (hR : R ≤ 16) :
    Calls Try.prog 73 #[.pointer (some ⟨P, 0, none⟩)] w fun e w' => e = .returned (.tuple #[]) ∧ MtAt w' P G w.heap.size A n cap R rows has (List.replicate R false) ∧ StAt w' P G N A n cap R rows has ∧ Kept (fun k => k = P) w w' := by
  have hmk := fun W => mkB R hR W
  obtain ⟨z, hz⟩ := h.st
  have hPl := hz.lt
  have p1 : w.cell? ⟨P, 1, none⟩ = some (.slice (some ⟨G, 0, none⟩) R R) := hz.cell rfl
  have p2 : w.cell? ⟨P, 2, none⟩ = some z := hz.cell rfl
  have f2 := hz.free 2
  have hGl : G < w.heap.size := Blk.lt h.row
  have hz2 : Blk ((w.alloc (.cells (Array.replicate R (Value.bool false)) 4)).setCell ⟨P, 2, none⟩ (.slice (some ⟨w.heap.size, 0, none⟩) R R)) P #[.slice A n cap, .slice (some ⟨G, 0, none⟩) R R, .slice (some ⟨w.heap.size, 0, none⟩) R R] 103 := Blk.set (j := 2) (Blk.old hz _) (.slice (some ⟨w.heap.size, 0, none⟩) R R)
  have hrow : RowI ((w.alloc (.cells (Array.replicate R (Value.bool false)) 4)).setCell ⟨P, 2, none⟩ (.slice (some ⟨w.heap.size, 0, none⟩) R R)) G has 3 := RowI.other (Blk.old h.row _) h.pg _
  have hsl : ∀ S : Nat → Prop, (∀ b, b ≠ G ∧ b ≠ P ∧ b < N → S b) → Sl (slC intC 1) 1 ((w.alloc (.cells (Array.replicate R (Value.bool false)) 4)).setCell ⟨P, 2, none⟩ (.slice (some ⟨w.heap.size, 0, none⟩) R R)) S A n cap rows := fun S hS =>
    h.sl.keep ints_good (by omega) fun b hb hlt => ⟨(Below.heap_setCell _ _ _ _ hb.2.1).trans (Below.heap_alloc _ _ _ hlt), hS b hb⟩
  have hmt : RowB ((w.alloc (.cells (Array.replicate R (Value.bool false)) 4)).setCell ⟨P, 2, none⟩ (.slice (some ⟨w.heap.size, 0, none⟩) R R)) w.heap.size (List.replicate R false) := RowB.other (rowB_new (blk1 _ _)) (by simp; omega) _
  have hN := h.le
  have hpn := h.pn
  have HPOST := Lib.hid (show MtAt ((w.alloc (.cells (Array.replicate R (Value.bool false)) 4)).setCell ⟨P, 2, none⟩ (.slice (some ⟨w.heap.size, 0, none⟩) R R)) P G w.heap.size A n cap R rows has (List.replicate R false) ∧ StAt ((w.alloc (.cells (Array.replicate R (Value.bool false)) 4)).setCell ⟨P, 2, none⟩ (.slice (some ⟨w.heap.size, 0, none⟩) R R)) P G N A n cap R rows has ∧
      Kept (fun k => k = P) w ((w.alloc (.cells (Array.replicate R (Value.bool false)) 4)).setCell ⟨P, 2, none⟩ (.slice (some ⟨w.heap.size, 0, none⟩) R R)) from
    ⟨⟨hsl _ fun b hb => ⟨hb.1, by omega⟩, hz2, hrow, hmt, h.lh, by simp⟩, ⟨hsl _ fun b hb => hb, ⟨_, hz2⟩, hrow, h.lh, h.pg, h.pn, h.gn, by simp [World.setCell]; omega⟩, ((Kept.refl (fun k => k = P) w).alloc _).setCell (p := ⟨P, 2, none⟩) (.inl rfl) _⟩)
  rw [World.setCell_alloc_past _ _ _ _ hPl] at HPOST
  clear h hz hz2 hrow hsl hmt
  go_enter Try.func73, Try.ntmps73
  go_wp2_with fail
  go_end0
  exact ⟨rfl, HPOST.out⟩
end Go.Proofs.Ytpodgidamoiakaa
