/-
  No cell of these rows narrows 'for every input' (looked for: loops, veiled, ifaces, maps, wideKeys, modest, calm, conditions, laid).
  DERIVED. THE GIVEN ROWS OF THIS SEAT. 9 by the template 'for every input the law returns true; each argument reads behind the call as it read before'; 0 by the template 'total and deterministic' (their statements: YtlablioefblmkaaGreatTotals.lean).
  GIVEN WITH THE SEED: the statements are not yours to turn. If you find one false, say at which input.
  Laid BY PROGRAM, IN A SANDBOX (cutbox-rows.mjs): the forced cells as the released guide's own fill.sh prints them over the translation 594d4facc86ac817… (all of the seat's roots in one cut). By AI agents, Wed Nov 11 2026. No macro, syntax, notation, axiom, sorry.
-/
import Derived.Test.YtlablioefblmkaaGreatChecked
import GoSem.Claim
import GoSem.ClaimJoined
import GoSem.ClaimMapViews
import Derived.JoinedTies
import Derived.KernelRfl
namespace Go.Proofs.YtlablioefblmkaaGreat
/- THE CELL 'sum', in the pinned program and in every row, IS THE sha256 OF THE DUMP (.gsa) THAT YtlablioefblmkaaGreatProg.lean LOADS. Nothing in Lean hashes anything: it is a label: what it is worth is what the hold of that sum in a sandbox is worth. -/
noncomputable def Tryz.pinned : Pinned := { name := "ytlablioefblmkaagreat", sum := "594d4facc86ac81742694be772c323f217269709e112cc0b65bf5c829e662125", checked := Tryz.checked }
namespace Rows
def none {H : Type} : Left H := { results := [], args := [] }

/-- 'taffraillaw.StockLess': WHATEVER THE INPUT: true; the input reads as it did. -/
def stockLessSpec : ChangeSpec := { name := "stockLess", fn := fun _ => fun
  | [d1, d2] => { results := [.lit (.bool true)], args := [d1, d2] }
  | _ => none }
def stockLessRow : OpenClaim := { program := "ytlablioefblmkaagreat", sum := "594d4facc86ac81742694be772c323f217269709e112cc0b65bf5c829e662125", func := "taffrail/taffraillaw.StockLess", spec := "stockLess", inPlace := ["slices.overlaps[taffrail/api.Booking]"], unfollowed := true, recurses := true, plainKeys := false, apart := false }
def StockLessSaid : Prop := stockLessRow.holds Tryz.pinned (OpenSpec.ofChange stockLessSpec)

/-- ITS FALSE NEIGHBOUR: 'it returns false'. Refute it at one input. -/
def stockLessWrong : ChangeSpec := { name := "stockLess", fn := fun _ => fun
  | [d1, d2] => { results := [.lit (.bool false)], args := [d1, d2] }
  | _ => none }
def StockLessWrongFalsely : Prop := stockLessRow.holds Tryz.pinned (OpenSpec.ofChange stockLessWrong)

/-- 'taffraillaw.StockTells': WHATEVER THE INPUT: true; the input reads as it did. -/
def stockTellsSpec : ChangeSpec := { name := "stockTells", fn := fun _ => fun
  | [d1, d2, d3] => { results := [.lit (.bool true)], args := [d1, d2, d3] }
  | _ => none }
def stockTellsRow : OpenClaim := { program := "ytlablioefblmkaagreat", sum := "594d4facc86ac81742694be772c323f217269709e112cc0b65bf5c829e662125", func := "taffrail/taffraillaw.StockTells", spec := "stockTells", inPlace := ["slices.overlaps[taffrail/api.Booking]"], unfollowed := true, recurses := true, plainKeys := false, apart := false }
def StockTellsSaid : Prop := stockTellsRow.holds Tryz.pinned (OpenSpec.ofChange stockTellsSpec)

/-- ITS FALSE NEIGHBOUR: 'it returns false'. Refute it at one input. -/
def stockTellsWrong : ChangeSpec := { name := "stockTells", fn := fun _ => fun
  | [d1, d2, d3] => { results := [.lit (.bool false)], args := [d1, d2, d3] }
  | _ => none }
def StockTellsWrongFalsely : Prop := stockTellsRow.holds Tryz.pinned (OpenSpec.ofChange stockTellsWrong)

/-- 'taffraillaw.StockKept': WHATEVER THE INPUT: true; the input reads as it did. -/
def stockKeptSpec : ChangeSpec := { name := "stockKept", fn := fun _ => fun
  | [d] => { results := [.lit (.bool true)], args := [d] }
  | _ => none }
def stockKeptRow : OpenClaim := { program := "ytlablioefblmkaagreat", sum := "594d4facc86ac81742694be772c323f217269709e112cc0b65bf5c829e662125", func := "taffrail/taffraillaw.StockKept", spec := "stockKept", inPlace := ["slices.overlaps[taffrail/api.Booking]"], unfollowed := true, recurses := true, plainKeys := false, apart := false }
def StockKeptSaid : Prop := stockKeptRow.holds Tryz.pinned (OpenSpec.ofChange stockKeptSpec)

/-- ITS FALSE NEIGHBOUR: 'it returns false'. Refute it at one input. -/
def stockKeptWrong : ChangeSpec := { name := "stockKept", fn := fun _ => fun
  | [d] => { results := [.lit (.bool false)], args := [d] }
  | _ => none }
def StockKeptWrongFalsely : Prop := stockKeptRow.holds Tryz.pinned (OpenSpec.ofChange stockKeptWrong)

/-- 'taffraillaw.ChangeTells': WHATEVER THE INPUT: true; the input reads as it did. -/
def changeTellsSpec : ChangeSpec := { name := "changeTells", fn := fun _ => fun
  | [d1, d2, d3, d4] => { results := [.lit (.bool true)], args := [d1, d2, d3, d4] }
  | _ => none }
def changeTellsRow : OpenClaim := { program := "ytlablioefblmkaagreat", sum := "594d4facc86ac81742694be772c323f217269709e112cc0b65bf5c829e662125", func := "taffrail/taffraillaw.ChangeTells", spec := "changeTells", unfollowed := true, recurses := true, plainKeys := false, apart := false }
def ChangeTellsSaid : Prop := changeTellsRow.holds Tryz.pinned (OpenSpec.ofChange changeTellsSpec)

/-- ITS FALSE NEIGHBOUR: 'it returns false'. Refute it at one input. -/
def changeTellsWrong : ChangeSpec := { name := "changeTells", fn := fun _ => fun
  | [d1, d2, d3, d4] => { results := [.lit (.bool false)], args := [d1, d2, d3, d4] }
  | _ => none }
def ChangeTellsWrongFalsely : Prop := changeTellsRow.holds Tryz.pinned (OpenSpec.ofChange changeTellsWrong)

/-- 'taffraillaw.ChangePaid': WHATEVER THE INPUT: true; the input reads as it did. -/
def changePaidSpec : ChangeSpec := { name := "changePaid", fn := fun _ => fun
  | [d1, d2, d3] => { results := [.lit (.bool true)], args := [d1, d2, d3] }
  | _ => none }
def changePaidRow : OpenClaim := { program := "ytlablioefblmkaagreat", sum := "594d4facc86ac81742694be772c323f217269709e112cc0b65bf5c829e662125", func := "taffrail/taffraillaw.ChangePaid", spec := "changePaid", unfollowed := true, recurses := true, plainKeys := false, apart := false }
def ChangePaidSaid : Prop := changePaidRow.holds Tryz.pinned (OpenSpec.ofChange changePaidSpec)

/-- ITS FALSE NEIGHBOUR: 'it returns false'. Refute it at one input. -/
def changePaidWrong : ChangeSpec := { name := "changePaid", fn := fun _ => fun
  | [d1, d2, d3] => { results := [.lit (.bool false)], args := [d1, d2, d3] }
  | _ => none }
def ChangePaidWrongFalsely : Prop := changePaidRow.holds Tryz.pinned (OpenSpec.ofChange changePaidWrong)

/-- 'taffraillaw.ChangeOthers': WHATEVER THE INPUT: true; the input reads as it did. -/
def changeOthersSpec : ChangeSpec := { name := "changeOthers", fn := fun _ => fun
  | [d1, d2, d3, d4] => { results := [.lit (.bool true)], args := [d1, d2, d3, d4] }
  | _ => none }
def changeOthersRow : OpenClaim := { program := "ytlablioefblmkaagreat", sum := "594d4facc86ac81742694be772c323f217269709e112cc0b65bf5c829e662125", func := "taffrail/taffraillaw.ChangeOthers", spec := "changeOthers", inPlace := ["slices.overlaps[taffrail/api.Booking]"], unfollowed := true, recurses := true, plainKeys := false, apart := false }
def ChangeOthersSaid : Prop := changeOthersRow.holds Tryz.pinned (OpenSpec.ofChange changeOthersSpec)

/-- ITS FALSE NEIGHBOUR: 'it returns false'. Refute it at one input. -/
def changeOthersWrong : ChangeSpec := { name := "changeOthers", fn := fun _ => fun
  | [d1, d2, d3, d4] => { results := [.lit (.bool false)], args := [d1, d2, d3, d4] }
  | _ => none }
def ChangeOthersWrongFalsely : Prop := changeOthersRow.holds Tryz.pinned (OpenSpec.ofChange changeOthersWrong)

/-- 'taffraillaw.SellTells': WHATEVER THE INPUT: true; the input reads as it did. -/
def sellTellsSpec : ChangeSpec := { name := "sellTells", fn := fun _ => fun
  | [d1, d2, d3, d4, d5] => { results := [.lit (.bool true)], args := [d1, d2, d3, d4, d5] }
  | _ => none }
def sellTellsRow : OpenClaim := { program := "ytlablioefblmkaagreat", sum := "594d4facc86ac81742694be772c323f217269709e112cc0b65bf5c829e662125", func := "taffrail/taffraillaw.SellTells", spec := "sellTells", inPlace := ["slices.overlaps[taffrail/api.Booking]"], unfollowed := true, recurses := true, plainKeys := false, apart := false }
def SellTellsSaid : Prop := sellTellsRow.holds Tryz.pinned (OpenSpec.ofChange sellTellsSpec)

/-- ITS FALSE NEIGHBOUR: 'it returns false'. Refute it at one input. -/
def sellTellsWrong : ChangeSpec := { name := "sellTells", fn := fun _ => fun
  | [d1, d2, d3, d4, d5] => { results := [.lit (.bool false)], args := [d1, d2, d3, d4, d5] }
  | _ => none }
def SellTellsWrongFalsely : Prop := sellTellsRow.holds Tryz.pinned (OpenSpec.ofChange sellTellsWrong)

/-- 'taffraillaw.SellOffers': WHATEVER THE INPUT: true; the input reads as it did. -/
def sellOffersSpec : ChangeSpec := { name := "sellOffers", fn := fun _ => fun
  | [d1, d2] => { results := [.lit (.bool true)], args := [d1, d2] }
  | _ => none }
def sellOffersRow : OpenClaim := { program := "ytlablioefblmkaagreat", sum := "594d4facc86ac81742694be772c323f217269709e112cc0b65bf5c829e662125", func := "taffrail/taffraillaw.SellOffers", spec := "sellOffers", inPlace := ["slices.overlaps[taffrail/api.Booking]"], unfollowed := true, recurses := true, plainKeys := false, apart := false }
def SellOffersSaid : Prop := sellOffersRow.holds Tryz.pinned (OpenSpec.ofChange sellOffersSpec)

/-- ITS FALSE NEIGHBOUR: 'it returns false'. Refute it at one input. -/
def sellOffersWrong : ChangeSpec := { name := "sellOffers", fn := fun _ => fun
  | [d1, d2] => { results := [.lit (.bool false)], args := [d1, d2] }
  | _ => none }
def SellOffersWrongFalsely : Prop := sellOffersRow.holds Tryz.pinned (OpenSpec.ofChange sellOffersWrong)

/-- 'taffraillaw.SellOthers': WHATEVER THE INPUT: true; the input reads as it did. -/
def sellOthersSpec : ChangeSpec := { name := "sellOthers", fn := fun _ => fun
  | [d1, d2] => { results := [.lit (.bool true)], args := [d1, d2] }
  | _ => none }
def sellOthersRow : OpenClaim := { program := "ytlablioefblmkaagreat", sum := "594d4facc86ac81742694be772c323f217269709e112cc0b65bf5c829e662125", func := "taffrail/taffraillaw.SellOthers", spec := "sellOthers", inPlace := ["slices.overlaps[taffrail/api.Booking]"], unfollowed := true, recurses := true, plainKeys := false, apart := false }
def SellOthersSaid : Prop := sellOthersRow.holds Tryz.pinned (OpenSpec.ofChange sellOthersSpec)

/-- ITS FALSE NEIGHBOUR: 'it returns false'. Refute it at one input. -/
def sellOthersWrong : ChangeSpec := { name := "sellOthers", fn := fun _ => fun
  | [d1, d2] => { results := [.lit (.bool false)], args := [d1, d2] }
  | _ => none }
def SellOthersWrongFalsely : Prop := sellOthersRow.holds Tryz.pinned (OpenSpec.ofChange sellOthersWrong)

/- THE SECOND FORM. 'bulk': how many values and letters a reading holds, each counted each time it is reached (what is shared counts as often as it is met; a slice's spare places count too). A statement '..UptoSaid' is the law's where the arguments, and the package variables that the reading takes, are together of bulk at most 1048576: NARROWER than '..Said'. Prove '..Said' where nothing that the law and all that it calls make is longer than what came in: it says more and counts as full. Else prove '..UptoSaid'. A law counts once. -/
mutual
def uptoBulk {H : Type} : DataW H → Nat
  | .lit (.string bytes) => bytes.length + 1
  | .lit _ => 1
  | .nil => 1
  | .ptr d => uptoBulk d + 1
  | .slice elems spare => uptoBulkAll elems + uptoBulkAll spare + 1
  | .agg parts => uptoBulkAll parts + 1
  | .iface _ d => uptoBulk d + 1
  | .map entries => uptoBulkEntries entries + 1
  | .held _ => 1
def uptoBulkAll {H : Type} : List (DataW H) → Nat
  | [] => 0
  | d :: r => uptoBulk d + uptoBulkAll r
def uptoBulkEntries {H : Type} : List (Lit × DataW H) → Nat
  | [] => 0
  | x :: r => uptoBulkEntry x + uptoBulkEntries r
def uptoBulkEntry {H : Type} : Lit × DataW H → Nat
  | (.string bytes, d) => bytes.length + uptoBulk d + 1
  | (_, d) => uptoBulk d + 1
 end
def uptoSmall : (H : Type) → List (DataW H) → Bool := fun _ ds => decide (uptoBulkAll ds ≤ 1048576)
def OpenSpec.upto (s : _root_.Go.ChangeSpec) : _root_.Go.OpenSpec := { _root_.Go.OpenSpec.ofChange s with cond := some uptoSmall }

/-- 'taffraillaw.StockLess', WHERE WHAT IT READS IS OF BULK AT MOST 1048576: true; the input reads as it did. -/
def stockLessUptoRow : OpenClaim := { program := "ytlablioefblmkaagreat", sum := "594d4facc86ac81742694be772c323f217269709e112cc0b65bf5c829e662125", func := "taffrail/taffraillaw.StockLess", spec := "stockLess", inPlace := ["slices.overlaps[taffrail/api.Booking]"], unfollowed := true, recurses := true, plainKeys := false, apart := false, narrowed := true }
def StockLessUptoSaid : Prop := stockLessUptoRow.holds Tryz.pinned (OpenSpec.upto stockLessSpec)

/-- 'taffraillaw.StockTells', WHERE WHAT IT READS IS OF BULK AT MOST 1048576: true; the input reads as it did. -/
def stockTellsUptoRow : OpenClaim := { program := "ytlablioefblmkaagreat", sum := "594d4facc86ac81742694be772c323f217269709e112cc0b65bf5c829e662125", func := "taffrail/taffraillaw.StockTells", spec := "stockTells", inPlace := ["slices.overlaps[taffrail/api.Booking]"], unfollowed := true, recurses := true, plainKeys := false, apart := false, narrowed := true }
def StockTellsUptoSaid : Prop := stockTellsUptoRow.holds Tryz.pinned (OpenSpec.upto stockTellsSpec)

/-- 'taffraillaw.StockKept', WHERE WHAT IT READS IS OF BULK AT MOST 1048576: true; the input reads as it did. -/
def stockKeptUptoRow : OpenClaim := { program := "ytlablioefblmkaagreat", sum := "594d4facc86ac81742694be772c323f217269709e112cc0b65bf5c829e662125", func := "taffrail/taffraillaw.StockKept", spec := "stockKept", inPlace := ["slices.overlaps[taffrail/api.Booking]"], unfollowed := true, recurses := true, plainKeys := false, apart := false, narrowed := true }
def StockKeptUptoSaid : Prop := stockKeptUptoRow.holds Tryz.pinned (OpenSpec.upto stockKeptSpec)

/-- 'taffraillaw.ChangeTells', WHERE WHAT IT READS IS OF BULK AT MOST 1048576: true; the input reads as it did. -/
def changeTellsUptoRow : OpenClaim := { program := "ytlablioefblmkaagreat", sum := "594d4facc86ac81742694be772c323f217269709e112cc0b65bf5c829e662125", func := "taffrail/taffraillaw.ChangeTells", spec := "changeTells", unfollowed := true, recurses := true, plainKeys := false, apart := false, narrowed := true }
def ChangeTellsUptoSaid : Prop := changeTellsUptoRow.holds Tryz.pinned (OpenSpec.upto changeTellsSpec)

/-- 'taffraillaw.ChangePaid', WHERE WHAT IT READS IS OF BULK AT MOST 1048576: true; the input reads as it did. -/
def changePaidUptoRow : OpenClaim := { program := "ytlablioefblmkaagreat", sum := "594d4facc86ac81742694be772c323f217269709e112cc0b65bf5c829e662125", func := "taffrail/taffraillaw.ChangePaid", spec := "changePaid", unfollowed := true, recurses := true, plainKeys := false, apart := false, narrowed := true }
def ChangePaidUptoSaid : Prop := changePaidUptoRow.holds Tryz.pinned (OpenSpec.upto changePaidSpec)

/-- 'taffraillaw.ChangeOthers', WHERE WHAT IT READS IS OF BULK AT MOST 1048576: true; the input reads as it did. -/
def changeOthersUptoRow : OpenClaim := { program := "ytlablioefblmkaagreat", sum := "594d4facc86ac81742694be772c323f217269709e112cc0b65bf5c829e662125", func := "taffrail/taffraillaw.ChangeOthers", spec := "changeOthers", inPlace := ["slices.overlaps[taffrail/api.Booking]"], unfollowed := true, recurses := true, plainKeys := false, apart := false, narrowed := true }
def ChangeOthersUptoSaid : Prop := changeOthersUptoRow.holds Tryz.pinned (OpenSpec.upto changeOthersSpec)

/-- 'taffraillaw.SellTells', WHERE WHAT IT READS IS OF BULK AT MOST 1048576: true; the input reads as it did. -/
def sellTellsUptoRow : OpenClaim := { program := "ytlablioefblmkaagreat", sum := "594d4facc86ac81742694be772c323f217269709e112cc0b65bf5c829e662125", func := "taffrail/taffraillaw.SellTells", spec := "sellTells", inPlace := ["slices.overlaps[taffrail/api.Booking]"], unfollowed := true, recurses := true, plainKeys := false, apart := false, narrowed := true }
def SellTellsUptoSaid : Prop := sellTellsUptoRow.holds Tryz.pinned (OpenSpec.upto sellTellsSpec)

/-- 'taffraillaw.SellOffers', WHERE WHAT IT READS IS OF BULK AT MOST 1048576: true; the input reads as it did. -/
def sellOffersUptoRow : OpenClaim := { program := "ytlablioefblmkaagreat", sum := "594d4facc86ac81742694be772c323f217269709e112cc0b65bf5c829e662125", func := "taffrail/taffraillaw.SellOffers", spec := "sellOffers", inPlace := ["slices.overlaps[taffrail/api.Booking]"], unfollowed := true, recurses := true, plainKeys := false, apart := false, narrowed := true }
def SellOffersUptoSaid : Prop := sellOffersUptoRow.holds Tryz.pinned (OpenSpec.upto sellOffersSpec)

/-- 'taffraillaw.SellOthers', WHERE WHAT IT READS IS OF BULK AT MOST 1048576: true; the input reads as it did. -/
def sellOthersUptoRow : OpenClaim := { program := "ytlablioefblmkaagreat", sum := "594d4facc86ac81742694be772c323f217269709e112cc0b65bf5c829e662125", func := "taffrail/taffraillaw.SellOthers", spec := "sellOthers", inPlace := ["slices.overlaps[taffrail/api.Booking]"], unfollowed := true, recurses := true, plainKeys := false, apart := false, narrowed := true }
def SellOthersUptoSaid : Prop := sellOthersUptoRow.holds Tryz.pinned (OpenSpec.upto sellOthersSpec)

end Rows
end Go.Proofs.YtlablioefblmkaaGreat
