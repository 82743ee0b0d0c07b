/-
  No cell of these rows narrows 'for every input' (looked for: loops, veiled, ifaces, maps, wideKeys, modest, calm, conditions, laid).
  DERIVED. THE GIVEN ROWS OF THIS SEAT. 10 by the template 'for every input the law returns true; each argument reads behind the call as it read before'; 0 by the template 'total and deterministic' (their statements: YtehebngkjfjkbaaTotals.lean).
  GIVEN WITH THE SEED: the statements are not yours to turn. If you find one false, say at which input.
  Laid BY PROGRAM, IN A SANDBOX (cutbox-rows.mjs): the forced cells as the released guide's own fill.sh prints them over the translation c80289f302c00e1b… (all of the seat's roots in one cut). By AI agents, Wed Nov 11 2026. No macro, syntax, notation, axiom, sorry.
-/
import Derived.Test.YtehebngkjfjkbaaChecked
import GoSem.Claim
import GoSem.ClaimJoined
import GoSem.ClaimMapViews
import Derived.JoinedTies
import Derived.KernelRfl
namespace Go.Proofs.Ytehebngkjfjkbaa
/- THE CELL 'sum', in the pinned program and in every row, IS THE sha256 OF THE DUMP (.gsa) THAT YtehebngkjfjkbaaProg.lean LOADS. Nothing in Lean hashes anything: it is a label: what it is worth is what the hold of that sum in a sandbox is worth. -/
noncomputable def Try.pinned : Pinned := { name := "ytehebngkjfjkbaa", sum := "c80289f302c00e1bc7b501eb0fef867fc125722d841074cf99b942dd761b53b5", checked := Try.checked }
namespace Rows
def none {H : Type} : Left H := { results := [], args := [] }

/-- 'taffraillaw.FolioTells': WHATEVER THE INPUT: true; the input reads as it did. -/
def folioTellsSpec : ChangeSpec := { name := "folioTells", fn := fun _ => fun
  | [d1, d2, d3, d4] => { results := [.lit (.bool true)], args := [d1, d2, d3, d4] }
  | _ => none }
def folioTellsRow : OpenClaim := { program := "ytehebngkjfjkbaa", sum := "c80289f302c00e1bc7b501eb0fef867fc125722d841074cf99b942dd761b53b5", func := "taffrail/taffraillaw.FolioTells", spec := "folioTells", unfollowed := true, recurses := true, apart := false }
def FolioTellsSaid : Prop := folioTellsRow.holds Try.pinned (OpenSpec.ofChange folioTellsSpec)

/-- ITS FALSE NEIGHBOUR: 'it returns false'. Refute it at one input. -/
def folioTellsWrong : ChangeSpec := { name := "folioTells", fn := fun _ => fun
  | [d1, d2, d3, d4] => { results := [.lit (.bool false)], args := [d1, d2, d3, d4] }
  | _ => none }
def FolioTellsWrongFalsely : Prop := folioTellsRow.holds Try.pinned (OpenSpec.ofChange folioTellsWrong)

/-- 'taffraillaw.FolioCancel': WHATEVER THE INPUT: true; the input reads as it did. -/
def folioCancelSpec : ChangeSpec := { name := "folioCancel", fn := fun _ => fun
  | [d1, d2, d3] => { results := [.lit (.bool true)], args := [d1, d2, d3] }
  | _ => none }
def folioCancelRow : OpenClaim := { program := "ytehebngkjfjkbaa", sum := "c80289f302c00e1bc7b501eb0fef867fc125722d841074cf99b942dd761b53b5", func := "taffrail/taffraillaw.FolioCancel", spec := "folioCancel", unfollowed := true, recurses := true, apart := false }
def FolioCancelSaid : Prop := folioCancelRow.holds Try.pinned (OpenSpec.ofChange folioCancelSpec)

/-- ITS FALSE NEIGHBOUR: 'it returns false'. Refute it at one input. -/
def folioCancelWrong : ChangeSpec := { name := "folioCancel", fn := fun _ => fun
  | [d1, d2, d3] => { results := [.lit (.bool false)], args := [d1, d2, d3] }
  | _ => none }
def FolioCancelWrongFalsely : Prop := folioCancelRow.holds Try.pinned (OpenSpec.ofChange folioCancelWrong)

/-- 'taffraillaw.FolioPaid': WHATEVER THE INPUT: true; the input reads as it did. -/
def folioPaidSpec : ChangeSpec := { name := "folioPaid", fn := fun _ => fun
  | [d1, d2, d3] => { results := [.lit (.bool true)], args := [d1, d2, d3] }
  | _ => none }
def folioPaidRow : OpenClaim := { program := "ytehebngkjfjkbaa", sum := "c80289f302c00e1bc7b501eb0fef867fc125722d841074cf99b942dd761b53b5", func := "taffrail/taffraillaw.FolioPaid", spec := "folioPaid", unfollowed := true, recurses := true, apart := false }
def FolioPaidSaid : Prop := folioPaidRow.holds Try.pinned (OpenSpec.ofChange folioPaidSpec)

/-- ITS FALSE NEIGHBOUR: 'it returns false'. Refute it at one input. -/
def folioPaidWrong : ChangeSpec := { name := "folioPaid", fn := fun _ => fun
  | [d1, d2, d3] => { results := [.lit (.bool false)], args := [d1, d2, d3] }
  | _ => none }
def FolioPaidWrongFalsely : Prop := folioPaidRow.holds Try.pinned (OpenSpec.ofChange folioPaidWrong)

/-- 'taffraillaw.CountTells': WHATEVER THE INPUT: true; the input reads as it did. -/
def countTellsSpec : ChangeSpec := { name := "countTells", fn := fun _ => fun
  | [d1, d2, d3, d4, d5] => { results := [.lit (.bool true)], args := [d1, d2, d3, d4, d5] }
  | _ => none }
def countTellsRow : OpenClaim := { program := "ytehebngkjfjkbaa", sum := "c80289f302c00e1bc7b501eb0fef867fc125722d841074cf99b942dd761b53b5", func := "taffrail/taffraillaw.CountTells", spec := "countTells", unfollowed := true, recurses := true, apart := false }
def CountTellsSaid : Prop := countTellsRow.holds Try.pinned (OpenSpec.ofChange countTellsSpec)

/-- ITS FALSE NEIGHBOUR: 'it returns false'. Refute it at one input. -/
def countTellsWrong : ChangeSpec := { name := "countTells", fn := fun _ => fun
  | [d1, d2, d3, d4, d5] => { results := [.lit (.bool false)], args := [d1, d2, d3, d4, d5] }
  | _ => none }
def CountTellsWrongFalsely : Prop := countTellsRow.holds Try.pinned (OpenSpec.ofChange countTellsWrong)

/-- 'taffraillaw.CountBack': WHATEVER THE INPUT: true; the input reads as it did. -/
def countBackSpec : ChangeSpec := { name := "countBack", fn := fun _ => fun
  | [d1, d2, d3, d4, d5] => { results := [.lit (.bool true)], args := [d1, d2, d3, d4, d5] }
  | _ => none }
def countBackRow : OpenClaim := { program := "ytehebngkjfjkbaa", sum := "c80289f302c00e1bc7b501eb0fef867fc125722d841074cf99b942dd761b53b5", func := "taffrail/taffraillaw.CountBack", spec := "countBack", unfollowed := true, recurses := true, apart := false }
def CountBackSaid : Prop := countBackRow.holds Try.pinned (OpenSpec.ofChange countBackSpec)

/-- ITS FALSE NEIGHBOUR: 'it returns false'. Refute it at one input. -/
def countBackWrong : ChangeSpec := { name := "countBack", fn := fun _ => fun
  | [d1, d2, d3, d4, d5] => { results := [.lit (.bool false)], args := [d1, d2, d3, d4, d5] }
  | _ => none }
def CountBackWrongFalsely : Prop := countBackRow.holds Try.pinned (OpenSpec.ofChange countBackWrong)

/-- 'taffraillaw.CodeTells': WHATEVER THE INPUT: true; the input reads as it did. -/
def codeTellsSpec : ChangeSpec := { name := "codeTells", fn := fun _ => fun
  | [d1, d2] => { results := [.lit (.bool true)], args := [d1, d2] }
  | _ => none }
def codeTellsRow : OpenClaim := { program := "ytehebngkjfjkbaa", sum := "c80289f302c00e1bc7b501eb0fef867fc125722d841074cf99b942dd761b53b5", func := "taffrail/taffraillaw.CodeTells", spec := "codeTells", unfollowed := true, recurses := true, apart := false }
def CodeTellsSaid : Prop := codeTellsRow.holds Try.pinned (OpenSpec.ofChange codeTellsSpec)

/-- ITS FALSE NEIGHBOUR: 'it returns false'. Refute it at one input. -/
def codeTellsWrong : ChangeSpec := { name := "codeTells", fn := fun _ => fun
  | [d1, d2] => { results := [.lit (.bool false)], args := [d1, d2] }
  | _ => none }
def CodeTellsWrongFalsely : Prop := codeTellsRow.holds Try.pinned (OpenSpec.ofChange codeTellsWrong)

/-- 'taffraillaw.CodeBack': WHATEVER THE INPUT: true; the input reads as it did. -/
def codeBackSpec : ChangeSpec := { name := "codeBack", fn := fun _ => fun
  | [d1, d2] => { results := [.lit (.bool true)], args := [d1, d2] }
  | _ => none }
def codeBackRow : OpenClaim := { program := "ytehebngkjfjkbaa", sum := "c80289f302c00e1bc7b501eb0fef867fc125722d841074cf99b942dd761b53b5", func := "taffrail/taffraillaw.CodeBack", spec := "codeBack", unfollowed := true, recurses := true, apart := false }
def CodeBackSaid : Prop := codeBackRow.holds Try.pinned (OpenSpec.ofChange codeBackSpec)

/-- ITS FALSE NEIGHBOUR: 'it returns false'. Refute it at one input. -/
def codeBackWrong : ChangeSpec := { name := "codeBack", fn := fun _ => fun
  | [d1, d2] => { results := [.lit (.bool false)], args := [d1, d2] }
  | _ => none }
def CodeBackWrongFalsely : Prop := codeBackRow.holds Try.pinned (OpenSpec.ofChange codeBackWrong)

/-- 'taffraillaw.FareTells': WHATEVER THE INPUT: true; the input reads as it did. -/
def fareTellsSpec : ChangeSpec := { name := "fareTells", fn := fun _ => fun
  | [d1, d2, d3, d4, d5, d6, d7, d8] => { results := [.lit (.bool true)], args := [d1, d2, d3, d4, d5, d6, d7, d8] }
  | _ => none }
def fareTellsRow : OpenClaim := { program := "ytehebngkjfjkbaa", sum := "c80289f302c00e1bc7b501eb0fef867fc125722d841074cf99b942dd761b53b5", func := "taffrail/taffraillaw.FareTells", spec := "fareTells", unfollowed := true, recurses := true, apart := false }
def FareTellsSaid : Prop := fareTellsRow.holds Try.pinned (OpenSpec.ofChange fareTellsSpec)

/-- ITS FALSE NEIGHBOUR: 'it returns false'. Refute it at one input. -/
def fareTellsWrong : ChangeSpec := { name := "fareTells", fn := fun _ => fun
  | [d1, d2, d3, d4, d5, d6, d7, d8] => { results := [.lit (.bool false)], args := [d1, d2, d3, d4, d5, d6, d7, d8] }
  | _ => none }
def FareTellsWrongFalsely : Prop := fareTellsRow.holds Try.pinned (OpenSpec.ofChange fareTellsWrong)

/-- 'taffraillaw.FarePenalty': WHATEVER THE INPUT: true; the input reads as it did. -/
def farePenaltySpec : ChangeSpec := { name := "farePenalty", fn := fun _ => fun
  | [d1, d2, d3, d4, d5, d6] => { results := [.lit (.bool true)], args := [d1, d2, d3, d4, d5, d6] }
  | _ => none }
def farePenaltyRow : OpenClaim := { program := "ytehebngkjfjkbaa", sum := "c80289f302c00e1bc7b501eb0fef867fc125722d841074cf99b942dd761b53b5", func := "taffrail/taffraillaw.FarePenalty", spec := "farePenalty", unfollowed := true, recurses := true, apart := false }
def FarePenaltySaid : Prop := farePenaltyRow.holds Try.pinned (OpenSpec.ofChange farePenaltySpec)

/-- ITS FALSE NEIGHBOUR: 'it returns false'. Refute it at one input. -/
def farePenaltyWrong : ChangeSpec := { name := "farePenalty", fn := fun _ => fun
  | [d1, d2, d3, d4, d5, d6] => { results := [.lit (.bool false)], args := [d1, d2, d3, d4, d5, d6] }
  | _ => none }
def FarePenaltyWrongFalsely : Prop := farePenaltyRow.holds Try.pinned (OpenSpec.ofChange farePenaltyWrong)

/-- 'taffraillaw.FareParts': WHATEVER THE INPUT: true; the input reads as it did. -/
def farePartsSpec : ChangeSpec := { name := "fareParts", fn := fun _ => fun
  | [d1, d2, d3, d4, d5, d6, d7] => { results := [.lit (.bool true)], args := [d1, d2, d3, d4, d5, d6, d7] }
  | _ => none }
def farePartsRow : OpenClaim := { program := "ytehebngkjfjkbaa", sum := "c80289f302c00e1bc7b501eb0fef867fc125722d841074cf99b942dd761b53b5", func := "taffrail/taffraillaw.FareParts", spec := "fareParts", unfollowed := true, recurses := true, apart := false }
def FarePartsSaid : Prop := farePartsRow.holds Try.pinned (OpenSpec.ofChange farePartsSpec)

/-- ITS FALSE NEIGHBOUR: 'it returns false'. Refute it at one input. -/
def farePartsWrong : ChangeSpec := { name := "fareParts", fn := fun _ => fun
  | [d1, d2, d3, d4, d5, d6, d7] => { results := [.lit (.bool false)], args := [d1, d2, d3, d4, d5, d6, d7] }
  | _ => none }
def FarePartsWrongFalsely : Prop := farePartsRow.holds Try.pinned (OpenSpec.ofChange farePartsWrong)

/- THE SECOND FORM. 'bulk': how many values and letters a reading holds, each counted each time it is reached (what is shared counts as often as it is met; a slice's spare places count too). A statement '..UptoSaid' is the law's where the arguments, and the package variables that the reading takes, are together of bulk at most 1048576: NARROWER than '..Said'. Prove '..Said' where nothing that the law and all that it calls make is longer than what came in: it says more and counts as full. Else prove '..UptoSaid'. A law counts once. -/
mutual
def uptoBulk {H : Type} : DataW H → Nat
  | .lit (.string bytes) => bytes.length + 1
  | .lit _ => 1
  | .nil => 1
  | .ptr d => uptoBulk d + 1
  | .slice elems spare => uptoBulkAll elems + uptoBulkAll spare + 1
  | .agg parts => uptoBulkAll parts + 1
  | .iface _ d => uptoBulk d + 1
  | .map entries => uptoBulkEntries entries + 1
  | .held _ => 1
def uptoBulkAll {H : Type} : List (DataW H) → Nat
  | [] => 0
  | d :: r => uptoBulk d + uptoBulkAll r
def uptoBulkEntries {H : Type} : List (Lit × DataW H) → Nat
  | [] => 0
  | x :: r => uptoBulkEntry x + uptoBulkEntries r
def uptoBulkEntry {H : Type} : Lit × DataW H → Nat
  | (.string bytes, d) => bytes.length + uptoBulk d + 1
  | (_, d) => uptoBulk d + 1
 end
def uptoSmall : (H : Type) → List (DataW H) → Bool := fun _ ds => decide (uptoBulkAll ds ≤ 1048576)
def OpenSpec.upto (s : _root_.Go.ChangeSpec) : _root_.Go.OpenSpec := { _root_.Go.OpenSpec.ofChange s with cond := some uptoSmall }

/-- 'taffraillaw.FolioTells', WHERE WHAT IT READS IS OF BULK AT MOST 1048576: true; the input reads as it did. -/
def folioTellsUptoRow : OpenClaim := { program := "ytehebngkjfjkbaa", sum := "c80289f302c00e1bc7b501eb0fef867fc125722d841074cf99b942dd761b53b5", func := "taffrail/taffraillaw.FolioTells", spec := "folioTells", unfollowed := true, recurses := true, apart := false, narrowed := true }
def FolioTellsUptoSaid : Prop := folioTellsUptoRow.holds Try.pinned (OpenSpec.upto folioTellsSpec)

/-- 'taffraillaw.FolioCancel', WHERE WHAT IT READS IS OF BULK AT MOST 1048576: true; the input reads as it did. -/
def folioCancelUptoRow : OpenClaim := { program := "ytehebngkjfjkbaa", sum := "c80289f302c00e1bc7b501eb0fef867fc125722d841074cf99b942dd761b53b5", func := "taffrail/taffraillaw.FolioCancel", spec := "folioCancel", unfollowed := true, recurses := true, apart := false, narrowed := true }
def FolioCancelUptoSaid : Prop := folioCancelUptoRow.holds Try.pinned (OpenSpec.upto folioCancelSpec)

/-- 'taffraillaw.FolioPaid', WHERE WHAT IT READS IS OF BULK AT MOST 1048576: true; the input reads as it did. -/
def folioPaidUptoRow : OpenClaim := { program := "ytehebngkjfjkbaa", sum := "c80289f302c00e1bc7b501eb0fef867fc125722d841074cf99b942dd761b53b5", func := "taffrail/taffraillaw.FolioPaid", spec := "folioPaid", unfollowed := true, recurses := true, apart := false, narrowed := true }
def FolioPaidUptoSaid : Prop := folioPaidUptoRow.holds Try.pinned (OpenSpec.upto folioPaidSpec)

/-- 'taffraillaw.CountTells', WHERE WHAT IT READS IS OF BULK AT MOST 1048576: true; the input reads as it did. -/
def countTellsUptoRow : OpenClaim := { program := "ytehebngkjfjkbaa", sum := "c80289f302c00e1bc7b501eb0fef867fc125722d841074cf99b942dd761b53b5", func := "taffrail/taffraillaw.CountTells", spec := "countTells", unfollowed := true, recurses := true, apart := false, narrowed := true }
def CountTellsUptoSaid : Prop := countTellsUptoRow.holds Try.pinned (OpenSpec.upto countTellsSpec)

/-- 'taffraillaw.CountBack', WHERE WHAT IT READS IS OF BULK AT MOST 1048576: true; the input reads as it did. -/
def countBackUptoRow : OpenClaim := { program := "ytehebngkjfjkbaa", sum := "c80289f302c00e1bc7b501eb0fef867fc125722d841074cf99b942dd761b53b5", func := "taffrail/taffraillaw.CountBack", spec := "countBack", unfollowed := true, recurses := true, apart := false, narrowed := true }
def CountBackUptoSaid : Prop := countBackUptoRow.holds Try.pinned (OpenSpec.upto countBackSpec)

/-- 'taffraillaw.CodeTells', WHERE WHAT IT READS IS OF BULK AT MOST 1048576: true; the input reads as it did. -/
def codeTellsUptoRow : OpenClaim := { program := "ytehebngkjfjkbaa", sum := "c80289f302c00e1bc7b501eb0fef867fc125722d841074cf99b942dd761b53b5", func := "taffrail/taffraillaw.CodeTells", spec := "codeTells", unfollowed := true, recurses := true, apart := false, narrowed := true }
def CodeTellsUptoSaid : Prop := codeTellsUptoRow.holds Try.pinned (OpenSpec.upto codeTellsSpec)

/-- 'taffraillaw.CodeBack', WHERE WHAT IT READS IS OF BULK AT MOST 1048576: true; the input reads as it did. -/
def codeBackUptoRow : OpenClaim := { program := "ytehebngkjfjkbaa", sum := "c80289f302c00e1bc7b501eb0fef867fc125722d841074cf99b942dd761b53b5", func := "taffrail/taffraillaw.CodeBack", spec := "codeBack", unfollowed := true, recurses := true, apart := false, narrowed := true }
def CodeBackUptoSaid : Prop := codeBackUptoRow.holds Try.pinned (OpenSpec.upto codeBackSpec)

/-- 'taffraillaw.FareTells', WHERE WHAT IT READS IS OF BULK AT MOST 1048576: true; the input reads as it did. -/
def fareTellsUptoRow : OpenClaim := { program := "ytehebngkjfjkbaa", sum := "c80289f302c00e1bc7b501eb0fef867fc125722d841074cf99b942dd761b53b5", func := "taffrail/taffraillaw.FareTells", spec := "fareTells", unfollowed := true, recurses := true, apart := false, narrowed := true }
def FareTellsUptoSaid : Prop := fareTellsUptoRow.holds Try.pinned (OpenSpec.upto fareTellsSpec)

/-- 'taffraillaw.FarePenalty', WHERE WHAT IT READS IS OF BULK AT MOST 1048576: true; the input reads as it did. -/
def farePenaltyUptoRow : OpenClaim := { program := "ytehebngkjfjkbaa", sum := "c80289f302c00e1bc7b501eb0fef867fc125722d841074cf99b942dd761b53b5", func := "taffrail/taffraillaw.FarePenalty", spec := "farePenalty", unfollowed := true, recurses := true, apart := false, narrowed := true }
def FarePenaltyUptoSaid : Prop := farePenaltyUptoRow.holds Try.pinned (OpenSpec.upto farePenaltySpec)

/-- 'taffraillaw.FareParts', WHERE WHAT IT READS IS OF BULK AT MOST 1048576: true; the input reads as it did. -/
def farePartsUptoRow : OpenClaim := { program := "ytehebngkjfjkbaa", sum := "c80289f302c00e1bc7b501eb0fef867fc125722d841074cf99b942dd761b53b5", func := "taffrail/taffraillaw.FareParts", spec := "fareParts", unfollowed := true, recurses := true, apart := false, narrowed := true }
def FarePartsUptoSaid : Prop := farePartsUptoRow.holds Try.pinned (OpenSpec.upto farePartsSpec)

end Rows
end Go.Proofs.Ytehebngkjfjkbaa
