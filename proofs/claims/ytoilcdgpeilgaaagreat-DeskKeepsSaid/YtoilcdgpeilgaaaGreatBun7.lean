/-
  Words, laws and contracts: CodeI.
-/
import Derived.Test.YtoilcdgpeilgaaaGreatBun6
import Derived.Laws.ResultCell
set_option linter.unusedSimpArgs false
set_option linter.unusedVariables false
namespace Go.Proofs.YtoilcdgpeilgaaaGreat
open Go.RowKit Go.Shelf
abbrev Dec := Ask × Int × (List UInt8 × Bool)
def decStep (d : Dec) (p : Part) : Dec := (setF d.1 p.ix (readN d.2.2 p.bytes.toNat).1, levF d.2.1 p.ix (readN d.2.2 p.bytes.toNat).1, (readN d.2.2 p.bytes.toNat).2)
def ask0 : Ask := ⟨0, 0, 0, 0, false, 0, 0, 0, 0, 0, 0⟩
def dec0 (s : List UInt8) : Dec := (⟨(readN (readN (s, false) 1).2 2).1, (readN (s, false) 1).1, 0, 0, false, 0, 0, 0, 0, 0, 0⟩, 0, (readN (readN (s, false) 1).2 2).2)
def decL (l : List Part) (d : Dec) : Dec := l.foldl decStep d
theorem decL_succ {l : List Part} {k : Nat} {p : Part} (d : Dec) (h : l[k]? = some p) : decL (l.take (k + 1)) d = decStep (decL (l.take k) d) p := by rw [take_snoc h]; simp [decL]
def decD (s : List UInt8) : Dec := decL (partsL (dec0 s).1.kind) (dec0 s)
def decX (d : Dec) : Ask := { d.1 with level := d.2.1 == 1 }
def decBad (d : Dec) (k : Int) : Bool := betB k 1 8 == false || d.2.2.2 || decide (d.2.2.1 ≠ []) || decide (1 < d.2.1)
def decV (s : List UInt8) : Ask × Int := if decBad (decD s) (dec0 s).1.kind then (ask0, 1) else if codeE (decX (decD s)) ≠ 0 then (ask0, codeE (decX (decD s))) else (decX (decD s), 0)
theorem RdAt.kept {S : Nat → Prop} {w w' : World} {b : Nat} {r : List UInt8 × Bool} (h : RdAt w b r) (hk : Kept S w w') (hS : ¬ S b) : RdAt w' b r := Blk.kept h hk hS
theorem RdAt.bel {w w' : World} {b : Nat} {r : List UInt8 × Bool} (h : RdAt w b r) (hb : Below w.heap.size w w') : RdAt w' b r := Blk.bel h hb
theorem AskAt.kept {S : Nat → Prop} {w w' : World} {b : Nat} {x : Ask} (h : AskAt w b x) (hk : Kept S w w') (hS : ¬ S b) : AskAt w' b x := Blk.kept h hk hS
theorem loadVar_ask {w : World} {b : Nat} {x : Ask} (h : AskAt w b x) : (loadVar 93 ⟨b, 0, none⟩).run Tryz.prog w = .ok (.agg (askA x)) w := by
  obtain ⟨c0, c1, c2, c3, c4, c5, c6, c7, c8, c9, c10⟩ := h.all
  unfold askA
  go_simp
theorem ret_ask {w : World} {b : Nat} {x : Ask} {e : Int} {fn : Func} {tmps : Array Value} (hf : fn.results = #[.cell 2 93, .tmp 3]) (h : AskAt w b x) (h2 : tmps.getD 2 undef = .pointer (some ⟨b, 0, none⟩)) (h3 : tmps.getD 3 undef = .int .i64 e) :
    (results fn tmps).run Tryz.prog w = .ok (.tuple #[.agg (askA x), .int .i64 e]) w := by
  rw [results_cell_tmp (p := 2) (u := 3) (ty := 93) hf, h2, h3]
  simp [asAddr, loadVar_ask h, Sem.run_pure]
theorem set_all (x y : Ask) : ((((((((((((askA x).set! 0 (.int .i64 y.number)).set! 1 (.int .i64 y.kind)).set! 2 (.int .i64 y.id)).set! 3 (.int .i64 y.guests)).set! 4 (.bool y.level)).set! 5 (.int .i64 y.cabin)).set! 6 (.int .i64 y.category)).set! 7 (.int .i64 y.frm)).set! 8 (.int .i64 y.upto)).set! 9 (.int .i64 y.til)).set! 10 (.int .i64 y.amount)) = askA y := by
  simp [askA]
theorem ask_store {w : World} {z : Nat} {x : Ask} (y : Ask) (hZ : AskAt w z x) :
    AskAt (((((((((((w.setCell ⟨z, 0, none⟩ (.int .i64 y.number)).setCell ⟨z, 1, none⟩ (.int .i64 y.kind)).setCell ⟨z, 2, none⟩ (.int .i64 y.id)).setCell ⟨z, 3, none⟩ (.int .i64 y.guests)).setCell ⟨z, 4, none⟩ (.bool y.level)).setCell ⟨z, 5, none⟩ (.int .i64 y.cabin)).setCell
      ⟨z, 6, none⟩ (.int .i64 y.category)).setCell ⟨z, 7, none⟩ (.int .i64 y.frm)).setCell ⟨z, 8, none⟩ (.int .i64 y.upto)).setCell ⟨z, 9, none⟩ (.int .i64 y.til)).setCell ⟨z, 10, none⟩ (.int .i64 y.amount)) z y := by
  unfold AskAt at hZ ⊢
  rw [← set_all x y]
  generalize askA x = cs at hZ
  have h0 := hZ.set (j := 0) (.int .i64 y.number)
  have h1 := h0.set (j := 1) (.int .i64 y.kind)
  have h2 := h1.set (j := 2) (.int .i64 y.id)
  have h3 := h2.set (j := 3) (.int .i64 y.guests)
  have h4 := h3.set (j := 4) (.bool y.level)
  have h5 := h4.set (j := 5) (.int .i64 y.cabin)
  have h6 := h5.set (j := 6) (.int .i64 y.category)
  have h7 := h6.set (j := 7) (.int .i64 y.frm)
  have h8 := h7.set (j := 8) (.int .i64 y.upto)
  have h9 := h8.set (j := 9) (.int .i64 y.til)
  exact h9.set (j := 10) (.int .i64 y.amount)
set_option maxRecDepth 100000 in
set_option maxHeartbeats 1000000 in
theorem Decode_any (s : List UInt8) (w : World) : Calls Tryz.prog 133 #[.string ⟨s.toArray⟩] w fun e w' =>
    e = .returned (.tuple #[.agg (askA (decV s).1), .int .i64 (decV s).2]) ∧ Below w.heap.size w w' := by
  obtain ⟨V, hV⟩ : ∃ V, V = decV s := ⟨_, rfl⟩
  rw [← hV]
  have HV := Lib.hid hV
  clear hV
  go_enter Tryz.func133, Tryz.ntmps133
  go_upto_region 1 with (fail)
  go_cut [2, 4] (fun c a wx => ∃ z b, c = .pointer (some ⟨z, 0, none⟩) ∧ a = .pointer (some ⟨b, 0, none⟩) ∧ AskAt wx z ask0 ∧ RdAt wx b (s, false) ∧ Below w.heap.size w wx ∧ w.heap.size ≤ z ∧ w.heap.size ≤ b ∧ z ≠ b)
  case first => as_aux_lemma =>
    go_wp2_with fail
    go_meet
    exact ⟨_, _, rfl, rfl, blk2_0 _ _ _, blk2_1 _ _ _, bel2 _ _ _, by omega, by omega, by omega⟩
  obtain ⟨z, b, rfl, rfl, hZ, hR, hb, gz, gb, nzb⟩ := hcut
  obtain ⟨⟨kd, r1⟩, h1⟩ : ∃ q, q = readN (s, false) 1 := ⟨_, rfl⟩
  obtain ⟨⟨nu, r2⟩, h2⟩ : ∃ q, q = readN r1 2 := ⟨_, rfl⟩
  have hd0 : dec0 s = (⟨nu, kd, 0, 0, false, 0, 0, 0, 0, 0, 0⟩, 0, r2) := by unfold dec0; rw [← h1, ← h2]
  have HD0 := Lib.hid hd0
  clear hd0
  go_upto_region 2 with (fail)
  go_cut [5] (fun a wx => ∃ ba, a = .pointer (some ⟨ba, 0, none⟩) ∧ AskAt wx ba ⟨0, kd, 0, 0, false, 0, 0, 0, 0, 0, 0⟩ ∧ RdAt wx b r1 ∧ AskAt wx z ask0 ∧ Below w.heap.size w wx ∧ w.heap.size ≤ ba ∧ ba ≠ z ∧ ba ≠ b)
  case first => as_aux_lemma =>
    have hn : Calls Tryz.prog 209 #[.pointer (some ⟨b, 0, none⟩), .int .i64 1] wc fun e w' => e = .returned (.int .i64 kd) ∧ RdAt w' b r1 ∧ Kept (fun k => k = b) wc w' := by
      have := number_any b (s, false) 1 wc (by omega) hR
      rw [← h1] at this
      exact this
    have l1 := Blk.lt hR
    have l2 := Blk.lt hZ
    have HN := Lib.hid hn
    clear hn
    clear h1 h2 hR
    go_wp2_with fail
    refine HN.out.mono ?_
    rintro e w1 ⟨rfl, hR1, hK1⟩
    have hsz := hK1.size
    have hZ1 := hZ.kept hK1 nzb
    have hb1 := hK1.below (B := w.heap.size) hb.size (by intro j hj (e : j = b); omega)
    have HR1 := Lib.hid hR1
    have HZ1 := Lib.hid hZ1
    have HB1 := Lib.hid (hb.trans hb1)
    clear hR1 hZ1 hK1 hZ hb1
    go_wp2_with fail
    go_meet
    exact ⟨_, rfl, Blk.new _ _ _, HR1.out.bel (bel1 _ _), HZ1.out.bel (bel1 _ _), HB1.out.alloc HB1.out.size _, HB1.out.size, by omega, by omega⟩
  clear h1 hR hZ hb
  obtain ⟨ba, rfl, hA, hR, hZ, hb, ge1, naz, nab⟩ := hcut
  go_upto_region 3 with (fail)
  go_cut [] (fun wx => AskAt wx ba ⟨nu, kd, 0, 0, false, 0, 0, 0, 0, 0, 0⟩ ∧ RdAt wx b r2 ∧ AskAt wx z ask0 ∧ Below w.heap.size w wx)
  case first => as_aux_lemma =>
    have hn : Calls Tryz.prog 209 #[.pointer (some ⟨b, 0, none⟩), .int .i64 2] wc fun e w' => e = .returned (.int .i64 nu) ∧ RdAt w' b r2 ∧ Kept (fun k => k = b) wc w' := by
      have := number_any b r1 2 wc (by omega) hR
      rw [← h2] at this
      exact this
    have HN := Lib.hid hn
    clear hn
    clear h2 hR
    go_wp2_with fail
    refine HN.out.mono ?_
    rintro e w1 ⟨rfl, hR1, hK1⟩
    have hZ1 := hZ.kept hK1 nzb
    have hA1 := hA.kept hK1 nab
    have hb1 := hK1.below (B := w.heap.size) hb.size (by intro j hj (e : j = b); omega)
    have f0 := hA1.free 0
    obtain ⟨a0, _⟩ := hA1.all
    have HR1 := Lib.hid hR1
    have HZ1 := Lib.hid hZ1
    have HA1 := Lib.hid hA1
    have HB1 := Lib.hid (hb.trans hb1)
    clear hR1 hZ1 hK1 hZ hb1 hA1
    go_wp2_with fail
    go_meet
    exact ⟨HA1.out.set _, HR1.out.other (p := ⟨ba, 0, none⟩) nab _, HZ1.out.other (p := ⟨ba, 0, none⟩) naz _, HB1.out.setCell (p := ⟨ba, 0, none⟩) ge1 _⟩
  clear h2 hR hZ hb hA
  obtain ⟨hA, hR, hZ, hb⟩ := hcut
  go_upto_region 4 with (fail)
  go_cut [6] (fun a wx => ∃ bl, a = .pointer (some ⟨bl, 0, none⟩) ∧ AskAt wx ba ⟨nu, kd, 0, 0, false, 0, 0, 0, 0, 0, 0⟩ ∧ RdAt wx b r2 ∧ AskAt wx z ask0 ∧ Blk wx bl #[.int .i64 0] 3 ∧ Below w.heap.size w wx ∧ w.heap.size ≤ bl ∧ ba ≠ bl ∧ z ≠ bl ∧ b ≠ bl)
  case first => as_aux_lemma =>
    have l1 := Blk.lt hA
    have l2 := Blk.lt hR
    have l3 := Blk.lt hZ
    go_wp2_with fail
    go_meet
    exact ⟨_, rfl, hA.bel (bel1 _ _), hR.bel (bel1 _ _), hZ.bel (bel1 _ _), Blk.new _ _ _, hb.alloc hb.size _, hb.size, by omega, by omega, by omega⟩
  clear hR hZ hb hA
  obtain ⟨bl, rfl, hA, hR, hZ, hL, hb, ge2, n12, nzl, nbl⟩ := hcut
  go_wp2_with fail
  refine (parts_any ba bl kd _ (hA.cell rfl)).mono ?_
  rintro e w3 ⟨A, n, cap, rfl, hS, hb2⟩
  have la := Blk.lt hA
  have ll := hL.lt
  have lr := Blk.lt hR
  replace hA := hA.bel hb2
  replace hL := hL.bel hb2
  replace hR := hR.bel hb2
  replace hZ := hZ.bel hb2
  replace hb := hb.trans (hb2.mono hb.size)
  clear hb2
  obtain ⟨pl, hpl⟩ : ∃ pl, pl = partsL kd := ⟨_, rfl⟩
  have hDD : decD s = decL pl (dec0 s) := by unfold decD; rw [HD0.out, hpl]
  have hkd : (dec0 s).1.kind = kd := by rw [HD0.out]
  rw [← hpl] at hS
  have HPL := Lib.hid hpl
  clear hpl
  have HDD := Lib.hid hDD
  clear hDD
  have HKD := Lib.hid hkd
  clear hkd
  have hbd := hS.bd
  obtain ⟨d0, hd0⟩ : ∃ d, d = dec0 s := ⟨_, rfl⟩
  have hi0 : (⟨nu, kd, 0, 0, false, 0, 0, 0, 0, 0, 0⟩, (0 : Int), r2) = d0 := by rw [hd0, HD0.out]
  have HD := Lib.hid hd0
  clear hd0
  have e1 : (⟨nu, kd, 0, 0, false, 0, 0, 0, 0, 0, 0⟩ : Ask) = d0.1 := by rw [← hi0]
  have e2 : (0 : Int) = d0.2.1 := by rw [← hi0]
  have e3 : r2 = d0.2.2 := by rw [← hi0]
  rw [e1] at hA
  rw [e3] at hR
  rw [e2] at hL
  clear e1 e2 e3 hi0
  go_wp2_with fail
  go_loopg [27] n (fun gk i wr => ∃ k : Nat, k ≤ n ∧ n - k ≤ gk ∧ i = .int .i64 k ∧ AskAt wr ba (decL (pl.take k) d0).1 ∧ Blk wr bl #[.int .i64 (decL (pl.take k) d0).2.1] 3 ∧ RdAt wr b (decL (pl.take k) d0).2.2 ∧ Kept (fun j => j = ba ∨ j = bl ∨ j = b) w3 wr)
  case atStart => exact ⟨0, Nat.zero_le _, by omega, rfl, hA, hL, hR, Kept.refl _ _⟩
  case round =>
    clear hA hL hR
    obtain ⟨k, hk, hgk, rfl, hA, hL, hR, hK⟩ := hrel
    have hS2 := hS.kept hK (fun j _ hT => by have hT : wc.heap.size ≤ j := hT; rintro (rfl | rfl | rfl) <;> omega)
    by_cases hlt : k < n
    · obtain ⟨o, off, p, c0, c1, c2, rfl, hx, ⟨hc, _⟩, g0, g1, g2⟩ := hS2.at3 hlt
      simp only [List.cons.injEq, and_true] at hc
      obtain ⟨rfl, rfl, rfl⟩ := hc
      have hpm : p ∈ partsL kd := by rw [← HPL.out]; exact List.mem_of_getElem? hx
      obtain ⟨m, hm, hm1, hm4⟩ := part_bytes hpm
      have HDS := Lib.hid (decL_succ d0 hx)
      obtain ⟨d, hd⟩ : ∃ d, d = decL (pl.take k) d0 := ⟨_, rfl⟩
      rw [← hd] at hA hL hR HDS
      obtain ⟨q, hq⟩ : ∃ q, q = readN d.2.2 m := ⟨_, rfl⟩
      have HST := Lib.hid (show decStep d p = (setF d.1 p.ix q.1, levF d.2.1 p.ix q.1, q.2) by unfold decStep; rw [hm, hq]; rfl)
      have hnum : ∀ W, RdAt W b d.2.2 → Calls Tryz.prog 209 #[.pointer (some ⟨b, 0, none⟩), .int .i64 m] W fun e w' => e = .returned (.int .i64 q.1) ∧ RdAt w' b q.2 ∧ Kept (fun k => k = b) W w' := fun W h => by
        have := number_any b d.2.2 m W hm4 h
        rw [← hq] at this
        exact this
      obtain ⟨v, hv⟩ : ∃ v, v = q.1 := ⟨_, rfl⟩
      rw [← hv] at HST hnum
      rw [hm] at g0
      have hls := Blk.lt hR
      have HNU := Lib.hid hnum
      clear hnum
      have HM := Lib.hid hpm
      clear hpm
      have hPT : Blk (wr.alloc (.cells #[.int .i64 m, .int .i64 p.most, .pointer (some (partAt ba bl p.ix))] 212)).drew wr.heap.size #[.int .i64 m, .int .i64 p.most, .pointer (some (partAt ba bl p.ix))] 212 := Blk.new wr _ _
      have hA1 : AskAt (wr.alloc (.cells #[.int .i64 m, .int .i64 p.most, .pointer (some (partAt ba bl p.ix))] 212)).drew ba d.1 := hA.bel (bel1 wr _).drew
      have hL1 : Blk (wr.alloc (.cells #[.int .i64 m, .int .i64 p.most, .pointer (some (partAt ba bl p.ix))] 212)).drew bl #[.int .i64 d.2.1] 3 := hL.bel (bel1 wr _).drew
      have hR0 : RdAt (wr.alloc (.cells #[.int .i64 m, .int .i64 p.most, .pointer (some (partAt ba bl p.ix))] 212)).drew b d.2.2 := hR.bel (bel1 wr _).drew
      have hK0 := (hK.alloc (.cells #[.int .i64 m, .int .i64 p.most, .pointer (some (partAt ba bl p.ix))] 212)).drew
      have hkeep : ∀ w4, Kept (fun k => k = b) (wr.alloc (.cells #[.int .i64 m, .int .i64 p.most, .pointer (some (partAt ba bl p.ix))] 212)).drew w4 →
          (w4.cell? ⟨wr.heap.size, 0, none⟩ = some (.int .i64 m) ∧ w4.cell? ⟨wr.heap.size, 2, none⟩ = some (.pointer (some (partAt ba bl p.ix)))) ∧
          (w4.cell? (partAt ba bl p.ix) = some (.int .i64 (memF d.1 d.2.1 p.ix)) ∧ w4.frozen? (partAt ba bl p.ix) = false) ∧
          AskAt (w4.setCell (partAt ba bl p.ix) (.int .i64 v)) ba (setF d.1 p.ix v) ∧ Blk (w4.setCell (partAt ba bl p.ix) (.int .i64 v)) bl #[.int .i64 (levF d.2.1 p.ix v)] 3 ∧
          Kept (fun j => j = ba ∨ j = bl ∨ j = b) w3 (w4.setCell (partAt ba bl p.ix) (.int .i64 v)) := fun w4 hK4 => by
        have hP4 := Blk.kept hPT hK4 (by show ¬ wr.heap.size = b; omega)
        have hA4 := hA1.kept hK4 nab
        have hL4 := hL1.kept hK4 (fun e => nbl e.symm)
        have hS4 := mem_set hA4 hL4 n12 HM.out v
        refine ⟨⟨hP4.cell rfl, hP4.cell rfl⟩, mem_at hA4 hL4 HM.out, hS4.1, hS4.2, (hK0.trans (hK4.mono fun j _ h => .inr (.inr h))).setCell (.inl ?_) _⟩
        unfold partAt; split
        · exact .inr (.inl rfl)
        · exact .inl rfl
      have HKP := Lib.hid hkeep
      clear hkeep
      have nbp : (partAt ba bl p.ix).block ≠ b := by
        unfold partAt; split
        · exact fun e => nbl e.symm
        · exact nab
      clear hx hd hq hv hm hS2 hK0 hPT hA1 hL1
      go_wp2_with fail
      go_region_with (go_at_call 209; refine (HNU.out _ hR0).mono ?_; rintro e w4 ⟨rfl, hR4, hK4⟩; obtain ⟨⟨p0, p2⟩, ⟨m4, f4⟩, hA4, hL4, hK5⟩ := HKP.out w4 hK4)
      all_goals go_wp2_with fail
      all_goals go_roundg (n - (k + 1))
      all_goals first
        | omega
        | exact ⟨k + 1, by omega, by omega, by go_num, by rw [HDS.out, HST.out]; exact hA4, by rw [HDS.out, HST.out]; exact hL4, by rw [HDS.out, HST.out]; exact Blk.other hR4 nbp _, hK5⟩
    · obtain rfl : k = n := by omega
      have hT : pl.take k = pl := List.take_of_length_le (Nat.le_of_eq hS.len)
      obtain ⟨d, hd⟩ : ∃ d, d = decD s := ⟨_, rfl⟩
      have hdd : decL (pl.take k) d0 = d := by rw [hT, hd, HDD.out, HD.out]
      rw [hdd] at hA hL hR
      have HV2 := Lib.hid (show V = if decBad d kd then (ask0, 1) else if codeE (decX d) ≠ 0 then (ask0, codeE (decX d)) else (decX d, 0) by rw [HV.out, hd]; unfold decV; rw [HKD.out])
      have hZ' := hZ.kept hK (by rintro (h | h | h); exact naz h.symm; exact nzl h; exact nzb h)
      replace hb := hb.trans (hK.below (B := w.heap.size) hb.size (by rintro j hj (h | h | h) <;> omega))
      clear hd hdd hT hK hZ hS2
      go_upto_region 11 with (fail)
      go_cut [] (fun wx => AskAt wx ba (decX d) ∧ Blk wx bl #[.int .i64 d.2.1] 3 ∧ RdAt wx b d.2.2 ∧ AskAt wx z ask0 ∧ Below w.heap.size w wx)
      case first => as_aux_lemma =>
        have l0 := hL.cell (j := 0) rfl
        have f4 := hA.free 4
        obtain ⟨_, _, _, _, a4, _⟩ := hA.all
        have HA := Lib.hid hA
        have HL := Lib.hid hL
        have HR := Lib.hid hR
        clear hA hL hR
        go_wp2_with fail
        go_meet
        exact ⟨HA.out.set _, HL.out.other (p := ⟨ba, 4, none⟩) n12 _, HR.out.other (p := ⟨ba, 4, none⟩) nab _, hZ'.other (p := ⟨ba, 4, none⟩) naz _, hb.setCell (p := ⟨ba, 4, none⟩) ge1 _⟩
      clear hA hL hR hZ' hb
      obtain ⟨hA, hL, hR, hZ, hb⟩ := hcut
      obtain ⟨dx, lev, rest, sh⟩ := d
      have l0 : wc.cell? ⟨bl, 0, none⟩ = some (.int .i64 lev) := hL.cell rfl
      have r0 : wc.cell? ⟨b, 0, none⟩ = some (.string ⟨rest.toArray⟩) := Blk.cell hR (j := 0) rfl
      have r1 : wc.cell? ⟨b, 1, none⟩ = some (.bool sh) := Blk.cell hR (j := 1) rfl
      obtain ⟨z0, z1, z2, z3, z4, z5, z6, z7, z8, z9, z10⟩ := hZ.all
      have zf := hZ.free
      have hbad : decBad (dx, lev, (rest, sh)) kd = (betB kd 1 8 == false || sh || decide (rest ≠ []) || decide (1 < lev)) := rfl
      have HBAD := Lib.hid hbad
      clear hbad
      have hVb : decBad (dx, lev, (rest, sh)) kd = true → V = (ask0, 1) := fun h => by rw [HV2.out, if_pos h]
      have HVB := Lib.hid hVb
      clear hVb
      clear hR
      cases q_HK : betB kd 1 8 <;> have HK := Lib.hid q_HK <;> clear q_HK
      · obtain rfl : V = (ask0, 1) := HVB.out (by rw [HBAD.out, HK.out]; rfl)
        go_wp2_with fail
        exact bodyPost_ret (v := .tuple #[.agg (askA ask0), .int .i64 1]) (ret_ask (by kernel_rfl) (((((((((((Blk.set hZ _).set _).set _).set _).set _).set _).set _).set _).set _).set _).set _) rfl rfl) rfl ⟨rfl, ((((((((((Below.setCell hb (p := ⟨z, 0, none⟩) gz _).setCell (p := ⟨z, 1, none⟩) gz _).setCell (p := ⟨z, 2, none⟩) gz _).setCell (p := ⟨z, 3, none⟩) gz _).setCell (p := ⟨z, 4, none⟩) gz _).setCell (p := ⟨z, 5, none⟩) gz _).setCell (p := ⟨z, 6, none⟩) gz _).setCell (p := ⟨z, 7, none⟩) gz _).setCell (p := ⟨z, 8, none⟩) gz _).setCell (p := ⟨z, 9, none⟩) gz _).setCell (p := ⟨z, 10, none⟩) gz _⟩
      cases sh with
      | true =>
        obtain rfl : V = (ask0, 1) := HVB.out (by rw [HBAD.out, HK.out]; rfl)
        go_wp2_with fail
        exact bodyPost_ret (v := .tuple #[.agg (askA ask0), .int .i64 1]) (ret_ask (by kernel_rfl) (((((((((((Blk.set hZ _).set _).set _).set _).set _).set _).set _).set _).set _).set _).set _) rfl rfl) rfl ⟨rfl, ((((((((((Below.setCell hb (p := ⟨z, 0, none⟩) gz _).setCell (p := ⟨z, 1, none⟩) gz _).setCell (p := ⟨z, 2, none⟩) gz _).setCell (p := ⟨z, 3, none⟩) gz _).setCell (p := ⟨z, 4, none⟩) gz _).setCell (p := ⟨z, 5, none⟩) gz _).setCell (p := ⟨z, 6, none⟩) gz _).setCell (p := ⟨z, 7, none⟩) gz _).setCell (p := ⟨z, 8, none⟩) gz _).setCell (p := ⟨z, 9, none⟩) gz _).setCell (p := ⟨z, 10, none⟩) gz _⟩
      | false =>
        cases rest with
        | cons c rest =>
          obtain rfl : V = (ask0, 1) := HVB.out (by rw [HBAD.out, HK.out]; simp)
          go_wp2_with fail
          exact bodyPost_ret (v := .tuple #[.agg (askA ask0), .int .i64 1]) (ret_ask (by kernel_rfl) (((((((((((Blk.set hZ _).set _).set _).set _).set _).set _).set _).set _).set _).set _).set _) rfl rfl) rfl ⟨rfl, ((((((((((Below.setCell hb (p := ⟨z, 0, none⟩) gz _).setCell (p := ⟨z, 1, none⟩) gz _).setCell (p := ⟨z, 2, none⟩) gz _).setCell (p := ⟨z, 3, none⟩) gz _).setCell (p := ⟨z, 4, none⟩) gz _).setCell (p := ⟨z, 5, none⟩) gz _).setCell (p := ⟨z, 6, none⟩) gz _).setCell (p := ⟨z, 7, none⟩) gz _).setCell (p := ⟨z, 8, none⟩) gz _).setCell (p := ⟨z, 9, none⟩) gz _).setCell (p := ⟨z, 10, none⟩) gz _⟩
        | nil =>
          by_cases hlev : 1 < lev
          · obtain rfl : V = (ask0, 1) := HVB.out (by rw [HBAD.out, HK.out]; simp [hlev])
            go_wp2_with fail
            exact bodyPost_ret (v := .tuple #[.agg (askA ask0), .int .i64 1]) (ret_ask (by kernel_rfl) (((((((((((Blk.set hZ _).set _).set _).set _).set _).set _).set _).set _).set _).set _).set _) rfl rfl) rfl ⟨rfl, ((((((((((Below.setCell hb (p := ⟨z, 0, none⟩) gz _).setCell (p := ⟨z, 1, none⟩) gz _).setCell (p := ⟨z, 2, none⟩) gz _).setCell (p := ⟨z, 3, none⟩) gz _).setCell (p := ⟨z, 4, none⟩) gz _).setCell (p := ⟨z, 5, none⟩) gz _).setCell (p := ⟨z, 6, none⟩) gz _).setCell (p := ⟨z, 7, none⟩) gz _).setCell (p := ⟨z, 8, none⟩) gz _).setCell (p := ⟨z, 9, none⟩) gz _).setCell (p := ⟨z, 10, none⟩) gz _⟩
          have HV3 := Lib.hid (show V = if codeE (decX (dx, lev, ([], false))) ≠ 0 then (ask0, codeE (decX (dx, lev, ([], false)))) else (decX (dx, lev, ([], false)), 0) by
            rw [HV2.out, if_neg (by rw [HBAD.out, HK.out]; simp [hlev])])
          obtain ⟨y, hy⟩ : ∃ y, y = decX (dx, lev, ([], false)) := ⟨_, rfl⟩
          obtain ⟨r, hr⟩ : ∃ r, r = codeE y := ⟨_, rfl⟩
          rw [← hy, ← hr] at HV3
          rw [← hy] at hA
          have hck := fun W => codeCheck_any y W
          rw [← hr] at hck
          dsimp only [askA] at hck
          have HCK := Lib.hid hck
          clear hck
          obtain ⟨a0, a1, a2, a3, a4, a5, a6, a7, a8, a9, a10⟩ := hA.all
          clear hy hr HV2 HBAD HVB z0 z1 z2 z3 z4 z5 z6 z7 z8 z9 z10
          go_wp2_with fail
          refine (HCK.out _).mono ?_
          rintro e w5 ⟨rfl, hb5⟩
          replace hA := hA.bel hb5
          replace hZ := hZ.bel hb5
          replace hb := hb.trans (hb5.mono hb.size)
          obtain ⟨z0, z1, z2, z3, z4, z5, z6, z7, z8, z9, z10⟩ := hZ.all
          replace zf := hZ.free
          by_cases h0 : ¬ r = 0
          · obtain rfl : V = (ask0, r) := by rw [HV3.out, if_pos h0]
            have h0' : (r != 0) = true := by simpa using h0
            clear h0
            go_wp2_with fail
            exact bodyPost_ret (v := .tuple #[.agg (askA ask0), .int .i64 r]) (ret_ask (by kernel_rfl) (((((((((((Blk.set hZ _).set _).set _).set _).set _).set _).set _).set _).set _).set _).set _) rfl rfl) rfl ⟨rfl, ((((((((((Below.setCell hb (p := ⟨z, 0, none⟩) gz _).setCell (p := ⟨z, 1, none⟩) gz _).setCell (p := ⟨z, 2, none⟩) gz _).setCell (p := ⟨z, 3, none⟩) gz _).setCell (p := ⟨z, 4, none⟩) gz _).setCell (p := ⟨z, 5, none⟩) gz _).setCell (p := ⟨z, 6, none⟩) gz _).setCell (p := ⟨z, 7, none⟩) gz _).setCell (p := ⟨z, 8, none⟩) gz _).setCell (p := ⟨z, 9, none⟩) gz _).setCell (p := ⟨z, 10, none⟩) gz _⟩
          · obtain rfl : r = 0 := by omega
            obtain rfl : V = (y, 0) := by rw [HV3.out, if_neg (by simp)]
            clear a0 a1 a2 a3 a4 a5 a6 a7 a8 a9 a10
            obtain ⟨a0, a1, a2, a3, a4, a5, a6, a7, a8, a9, a10⟩ := hA.all
            go_wp2_with fail
            exact bodyPost_ret (v := .tuple #[.agg (askA y), .int .i64 0]) (ret_ask (x := y) (e := 0) (by kernel_rfl) (ask_store y hZ) rfl rfl) rfl ⟨rfl, ((((((((((Below.setCell hb (p := ⟨z, 0, none⟩) gz _).setCell (p := ⟨z, 1, none⟩) gz _).setCell (p := ⟨z, 2, none⟩) gz _).setCell (p := ⟨z, 3, none⟩) gz _).setCell (p := ⟨z, 4, none⟩) gz _).setCell (p := ⟨z, 5, none⟩) gz _).setCell (p := ⟨z, 6, none⟩) gz _).setCell (p := ⟨z, 7, none⟩) gz _).setCell (p := ⟨z, 8, none⟩) gz _).setCell (p := ⟨z, 9, none⟩) gz _).setCell (p := ⟨z, 10, none⟩) gz _⟩
end Go.Proofs.YtoilcdgpeilgaaaGreat
