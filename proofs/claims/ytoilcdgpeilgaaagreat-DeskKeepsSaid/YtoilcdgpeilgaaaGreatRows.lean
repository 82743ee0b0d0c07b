/-
  No cell of these rows narrows 'for every input' (looked for: loops, veiled, ifaces, maps, wideKeys, modest, calm, conditions, laid).
  DERIVED. THE GIVEN ROWS OF THIS SEAT. 16 by the template 'for every input the law returns true; each argument reads behind the call as it read before'; 0 by the template 'total and deterministic' (their statements: YtoilcdgpeilgaaaGreatTotals.lean).
  GIVEN WITH THE SEED: the statements are not yours to turn. If you find one false, say at which input.
  Laid BY PROGRAM, IN A SANDBOX (cutbox-rows.mjs): the forced cells as the released guide's own fill.sh prints them over the translation 1dd3f465aa52c7a4… (all of the seat's roots in one cut). By AI agents, Wed Nov 11 2026. No macro, syntax, notation, axiom, sorry.
-/
import Derived.Test.YtoilcdgpeilgaaaGreatChecked
import GoSem.Claim
import GoSem.ClaimJoined
import GoSem.ClaimMapViews
import Derived.JoinedTies
import Derived.KernelRfl
namespace Go.Proofs.YtoilcdgpeilgaaaGreat
/- THE CELL 'sum', in the pinned program and in every row, IS THE sha256 OF THE DUMP (.gsa) THAT YtoilcdgpeilgaaaGreatProg.lean LOADS. Nothing in Lean hashes anything: it is a label: what it is worth is what the hold of that sum in a sandbox is worth. -/
noncomputable def Tryz.pinned : Pinned := { name := "ytoilcdgpeilgaaagreat", sum := "1dd3f465aa52c7a4a7f9b411afc73a295bedd33409bc3a59befa80e1a7377dcf", checked := Tryz.checked }
namespace Rows
def none {H : Type} : Left H := { results := [], args := [] }

/-- 'taffraillaw.SellOthers': WHATEVER THE INPUT: true; the input reads as it did. -/
def sellOthersSpec : ChangeSpec := { name := "sellOthers", fn := fun _ => fun
  | [d1, d2] => { results := [.lit (.bool true)], args := [d1, d2] }
  | _ => none }
def sellOthersRow : OpenClaim := { program := "ytoilcdgpeilgaaagreat", sum := "1dd3f465aa52c7a4a7f9b411afc73a295bedd33409bc3a59befa80e1a7377dcf", func := "taffrail/taffraillaw.SellOthers", spec := "sellOthers", inPlace := ["slices.overlaps[taffrail/api.Booking]"], unfollowed := true, recurses := true, apart := false }
def SellOthersSaid : Prop := sellOthersRow.holds Tryz.pinned (OpenSpec.ofChange sellOthersSpec)

/-- ITS FALSE NEIGHBOUR: 'it returns false'. Refute it at one input. -/
def sellOthersWrong : ChangeSpec := { name := "sellOthers", fn := fun _ => fun
  | [d1, d2] => { results := [.lit (.bool false)], args := [d1, d2] }
  | _ => none }
def SellOthersWrongFalsely : Prop := sellOthersRow.holds Tryz.pinned (OpenSpec.ofChange sellOthersWrong)

/-- 'taffraillaw.SellOffers': WHATEVER THE INPUT: true; the input reads as it did. -/
def sellOffersSpec : ChangeSpec := { name := "sellOffers", fn := fun _ => fun
  | [d1, d2] => { results := [.lit (.bool true)], args := [d1, d2] }
  | _ => none }
def sellOffersRow : OpenClaim := { program := "ytoilcdgpeilgaaagreat", sum := "1dd3f465aa52c7a4a7f9b411afc73a295bedd33409bc3a59befa80e1a7377dcf", func := "taffrail/taffraillaw.SellOffers", spec := "sellOffers", inPlace := ["slices.overlaps[taffrail/api.Booking]"], unfollowed := true, recurses := true, apart := false }
def SellOffersSaid : Prop := sellOffersRow.holds Tryz.pinned (OpenSpec.ofChange sellOffersSpec)

/-- ITS FALSE NEIGHBOUR: 'it returns false'. Refute it at one input. -/
def sellOffersWrong : ChangeSpec := { name := "sellOffers", fn := fun _ => fun
  | [d1, d2] => { results := [.lit (.bool false)], args := [d1, d2] }
  | _ => none }
def SellOffersWrongFalsely : Prop := sellOffersRow.holds Tryz.pinned (OpenSpec.ofChange sellOffersWrong)

/-- 'taffraillaw.ChangeTells': WHATEVER THE INPUT: true; the input reads as it did. -/
def changeTellsSpec : ChangeSpec := { name := "changeTells", fn := fun _ => fun
  | [d1, d2, d3, d4] => { results := [.lit (.bool true)], args := [d1, d2, d3, d4] }
  | _ => none }
def changeTellsRow : OpenClaim := { program := "ytoilcdgpeilgaaagreat", sum := "1dd3f465aa52c7a4a7f9b411afc73a295bedd33409bc3a59befa80e1a7377dcf", func := "taffrail/taffraillaw.ChangeTells", spec := "changeTells", unfollowed := true, recurses := true, apart := false }
def ChangeTellsSaid : Prop := changeTellsRow.holds Tryz.pinned (OpenSpec.ofChange changeTellsSpec)

/-- ITS FALSE NEIGHBOUR: 'it returns false'. Refute it at one input. -/
def changeTellsWrong : ChangeSpec := { name := "changeTells", fn := fun _ => fun
  | [d1, d2, d3, d4] => { results := [.lit (.bool false)], args := [d1, d2, d3, d4] }
  | _ => none }
def ChangeTellsWrongFalsely : Prop := changeTellsRow.holds Tryz.pinned (OpenSpec.ofChange changeTellsWrong)

/-- 'taffraillaw.ChangePaid': WHATEVER THE INPUT: true; the input reads as it did. -/
def changePaidSpec : ChangeSpec := { name := "changePaid", fn := fun _ => fun
  | [d1, d2, d3] => { results := [.lit (.bool true)], args := [d1, d2, d3] }
  | _ => none }
def changePaidRow : OpenClaim := { program := "ytoilcdgpeilgaaagreat", sum := "1dd3f465aa52c7a4a7f9b411afc73a295bedd33409bc3a59befa80e1a7377dcf", func := "taffrail/taffraillaw.ChangePaid", spec := "changePaid", unfollowed := true, recurses := true, apart := false }
def ChangePaidSaid : Prop := changePaidRow.holds Tryz.pinned (OpenSpec.ofChange changePaidSpec)

/-- ITS FALSE NEIGHBOUR: 'it returns false'. Refute it at one input. -/
def changePaidWrong : ChangeSpec := { name := "changePaid", fn := fun _ => fun
  | [d1, d2, d3] => { results := [.lit (.bool false)], args := [d1, d2, d3] }
  | _ => none }
def ChangePaidWrongFalsely : Prop := changePaidRow.holds Tryz.pinned (OpenSpec.ofChange changePaidWrong)

/-- 'taffraillaw.ChangeOthers': WHATEVER THE INPUT: true; the input reads as it did. -/
def changeOthersSpec : ChangeSpec := { name := "changeOthers", fn := fun _ => fun
  | [d1, d2, d3, d4] => { results := [.lit (.bool true)], args := [d1, d2, d3, d4] }
  | _ => none }
def changeOthersRow : OpenClaim := { program := "ytoilcdgpeilgaaagreat", sum := "1dd3f465aa52c7a4a7f9b411afc73a295bedd33409bc3a59befa80e1a7377dcf", func := "taffrail/taffraillaw.ChangeOthers", spec := "changeOthers", inPlace := ["slices.overlaps[taffrail/api.Booking]"], unfollowed := true, recurses := true, apart := false }
def ChangeOthersSaid : Prop := changeOthersRow.holds Tryz.pinned (OpenSpec.ofChange changeOthersSpec)

/-- ITS FALSE NEIGHBOUR: 'it returns false'. Refute it at one input. -/
def changeOthersWrong : ChangeSpec := { name := "changeOthers", fn := fun _ => fun
  | [d1, d2, d3, d4] => { results := [.lit (.bool false)], args := [d1, d2, d3, d4] }
  | _ => none }
def ChangeOthersWrongFalsely : Prop := changeOthersRow.holds Tryz.pinned (OpenSpec.ofChange changeOthersWrong)

/-- 'taffraillaw.VoyageTells': WHATEVER THE INPUT: true; the input reads as it did. -/
def voyageTellsSpec : ChangeSpec := { name := "voyageTells", fn := fun _ => fun
  | [d1, d2] => { results := [.lit (.bool true)], args := [d1, d2] }
  | _ => none }
def voyageTellsRow : OpenClaim := { program := "ytoilcdgpeilgaaagreat", sum := "1dd3f465aa52c7a4a7f9b411afc73a295bedd33409bc3a59befa80e1a7377dcf", func := "taffrail/taffraillaw.VoyageTells", spec := "voyageTells", unfollowed := true, recurses := true, apart := false }
def VoyageTellsSaid : Prop := voyageTellsRow.holds Tryz.pinned (OpenSpec.ofChange voyageTellsSpec)

/-- ITS FALSE NEIGHBOUR: 'it returns false'. Refute it at one input. -/
def voyageTellsWrong : ChangeSpec := { name := "voyageTells", fn := fun _ => fun
  | [d1, d2] => { results := [.lit (.bool false)], args := [d1, d2] }
  | _ => none }
def VoyageTellsWrongFalsely : Prop := voyageTellsRow.holds Tryz.pinned (OpenSpec.ofChange voyageTellsWrong)

/-- 'taffraillaw.VoyageOptions': WHATEVER THE INPUT: true; the input reads as it did. -/
def voyageOptionsSpec : ChangeSpec := { name := "voyageOptions", fn := fun _ => fun
  | [d1, d2, d3] => { results := [.lit (.bool true)], args := [d1, d2, d3] }
  | _ => none }
def voyageOptionsRow : OpenClaim := { program := "ytoilcdgpeilgaaagreat", sum := "1dd3f465aa52c7a4a7f9b411afc73a295bedd33409bc3a59befa80e1a7377dcf", func := "taffrail/taffraillaw.VoyageOptions", spec := "voyageOptions", inPlace := ["slices.overlaps[taffrail/api.Booking]"], unfollowed := true, recurses := true, apart := false }
def VoyageOptionsSaid : Prop := voyageOptionsRow.holds Tryz.pinned (OpenSpec.ofChange voyageOptionsSpec)

/-- ITS FALSE NEIGHBOUR: 'it returns false'. Refute it at one input. -/
def voyageOptionsWrong : ChangeSpec := { name := "voyageOptions", fn := fun _ => fun
  | [d1, d2, d3] => { results := [.lit (.bool false)], args := [d1, d2, d3] }
  | _ => none }
def VoyageOptionsWrongFalsely : Prop := voyageOptionsRow.holds Tryz.pinned (OpenSpec.ofChange voyageOptionsWrong)

/-- 'taffraillaw.VoyageClose': WHATEVER THE INPUT: true; the input reads as it did. -/
def voyageCloseSpec : ChangeSpec := { name := "voyageClose", fn := fun _ => fun
  | [d] => { results := [.lit (.bool true)], args := [d] }
  | _ => none }
def voyageCloseRow : OpenClaim := { program := "ytoilcdgpeilgaaagreat", sum := "1dd3f465aa52c7a4a7f9b411afc73a295bedd33409bc3a59befa80e1a7377dcf", func := "taffrail/taffraillaw.VoyageClose", spec := "voyageClose", inPlace := ["slices.overlaps[taffrail/api.Booking]"], unfollowed := true, recurses := true, apart := false }
def VoyageCloseSaid : Prop := voyageCloseRow.holds Tryz.pinned (OpenSpec.ofChange voyageCloseSpec)

/-- ITS FALSE NEIGHBOUR: 'it returns false'. Refute it at one input. -/
def voyageCloseWrong : ChangeSpec := { name := "voyageClose", fn := fun _ => fun
  | [d] => { results := [.lit (.bool false)], args := [d] }
  | _ => none }
def VoyageCloseWrongFalsely : Prop := voyageCloseRow.holds Tryz.pinned (OpenSpec.ofChange voyageCloseWrong)

/-- 'taffraillaw.DeskCrash': WHATEVER THE INPUT: true; the input reads as it did. -/
def deskCrashSpec : ChangeSpec := { name := "deskCrash", fn := fun _ => fun
  | [d1, d2, d3] => { results := [.lit (.bool true)], args := [d1, d2, d3] }
  | _ => none }
def deskCrashRow : OpenClaim := { program := "ytoilcdgpeilgaaagreat", sum := "1dd3f465aa52c7a4a7f9b411afc73a295bedd33409bc3a59befa80e1a7377dcf", func := "taffrail/taffraillaw.DeskCrash", spec := "deskCrash", inPlace := ["slices.overlaps[taffrail/api.Booking]"], unfollowed := true, recurses := true, apart := false }
def DeskCrashSaid : Prop := deskCrashRow.holds Tryz.pinned (OpenSpec.ofChange deskCrashSpec)

/-- ITS FALSE NEIGHBOUR: 'it returns false'. Refute it at one input. -/
def deskCrashWrong : ChangeSpec := { name := "deskCrash", fn := fun _ => fun
  | [d1, d2, d3] => { results := [.lit (.bool false)], args := [d1, d2, d3] }
  | _ => none }
def DeskCrashWrongFalsely : Prop := deskCrashRow.holds Tryz.pinned (OpenSpec.ofChange deskCrashWrong)

/-- 'taffraillaw.DeskRight': WHATEVER THE INPUT: true; the input reads as it did. -/
def deskRightSpec : ChangeSpec := { name := "deskRight", fn := fun _ => fun
  | [d1, d2] => { results := [.lit (.bool true)], args := [d1, d2] }
  | _ => none }
def deskRightRow : OpenClaim := { program := "ytoilcdgpeilgaaagreat", sum := "1dd3f465aa52c7a4a7f9b411afc73a295bedd33409bc3a59befa80e1a7377dcf", func := "taffrail/taffraillaw.DeskRight", spec := "deskRight", inPlace := ["slices.overlaps[taffrail/api.Booking]"], unfollowed := true, recurses := true, apart := false }
def DeskRightSaid : Prop := deskRightRow.holds Tryz.pinned (OpenSpec.ofChange deskRightSpec)

/-- ITS FALSE NEIGHBOUR: 'it returns false'. Refute it at one input. -/
def deskRightWrong : ChangeSpec := { name := "deskRight", fn := fun _ => fun
  | [d1, d2] => { results := [.lit (.bool false)], args := [d1, d2] }
  | _ => none }
def DeskRightWrongFalsely : Prop := deskRightRow.holds Tryz.pinned (OpenSpec.ofChange deskRightWrong)

/-- 'taffraillaw.RestSailings': WHATEVER THE INPUT: true; the input reads as it did. -/
def restSailingsSpec : ChangeSpec := { name := "restSailings", fn := fun _ => fun
  | [d1, d2, d3, d4] => { results := [.lit (.bool true)], args := [d1, d2, d3, d4] }
  | _ => none }
def restSailingsRow : OpenClaim := { program := "ytoilcdgpeilgaaagreat", sum := "1dd3f465aa52c7a4a7f9b411afc73a295bedd33409bc3a59befa80e1a7377dcf", func := "taffrail/taffraillaw.RestSailings", spec := "restSailings", inPlace := ["slices.overlaps[taffrail/api.Booking]"], unfollowed := true, recurses := true, apart := false }
def RestSailingsSaid : Prop := restSailingsRow.holds Tryz.pinned (OpenSpec.ofChange restSailingsSpec)

/-- ITS FALSE NEIGHBOUR: 'it returns false'. Refute it at one input. -/
def restSailingsWrong : ChangeSpec := { name := "restSailings", fn := fun _ => fun
  | [d1, d2, d3, d4] => { results := [.lit (.bool false)], args := [d1, d2, d3, d4] }
  | _ => none }
def RestSailingsWrongFalsely : Prop := restSailingsRow.holds Tryz.pinned (OpenSpec.ofChange restSailingsWrong)

/-- 'taffraillaw.DeskDoes': WHATEVER THE INPUT: true; the input reads as it did. -/
def deskDoesSpec : ChangeSpec := { name := "deskDoes", fn := fun _ => fun
  | [d1, d2] => { results := [.lit (.bool true)], args := [d1, d2] }
  | _ => none }
def deskDoesRow : OpenClaim := { program := "ytoilcdgpeilgaaagreat", sum := "1dd3f465aa52c7a4a7f9b411afc73a295bedd33409bc3a59befa80e1a7377dcf", func := "taffrail/taffraillaw.DeskDoes", spec := "deskDoes", inPlace := ["slices.overlaps[taffrail/api.Booking]"], unfollowed := true, recurses := true, apart := false }
def DeskDoesSaid : Prop := deskDoesRow.holds Tryz.pinned (OpenSpec.ofChange deskDoesSpec)

/-- ITS FALSE NEIGHBOUR: 'it returns false'. Refute it at one input. -/
def deskDoesWrong : ChangeSpec := { name := "deskDoes", fn := fun _ => fun
  | [d1, d2] => { results := [.lit (.bool false)], args := [d1, d2] }
  | _ => none }
def DeskDoesWrongFalsely : Prop := deskDoesRow.holds Tryz.pinned (OpenSpec.ofChange deskDoesWrong)

/-- 'taffraillaw.DeskSteps': WHATEVER THE INPUT: true; the input reads as it did. -/
def deskStepsSpec : ChangeSpec := { name := "deskSteps", fn := fun _ => fun
  | [d1, d2, d3] => { results := [.lit (.bool true)], args := [d1, d2, d3] }
  | _ => none }
def deskStepsRow : OpenClaim := { program := "ytoilcdgpeilgaaagreat", sum := "1dd3f465aa52c7a4a7f9b411afc73a295bedd33409bc3a59befa80e1a7377dcf", func := "taffrail/taffraillaw.DeskSteps", spec := "deskSteps", inPlace := ["slices.overlaps[taffrail/api.Booking]"], unfollowed := true, recurses := true, apart := false }
def DeskStepsSaid : Prop := deskStepsRow.holds Tryz.pinned (OpenSpec.ofChange deskStepsSpec)

/-- ITS FALSE NEIGHBOUR: 'it returns false'. Refute it at one input. -/
def deskStepsWrong : ChangeSpec := { name := "deskSteps", fn := fun _ => fun
  | [d1, d2, d3] => { results := [.lit (.bool false)], args := [d1, d2, d3] }
  | _ => none }
def DeskStepsWrongFalsely : Prop := deskStepsRow.holds Tryz.pinned (OpenSpec.ofChange deskStepsWrong)

/-- 'taffraillaw.DeskKeeps': WHATEVER THE INPUT: true; the input reads as it did. -/
def deskKeepsSpec : ChangeSpec := { name := "deskKeeps", fn := fun _ => fun
  | [d1, d2, d3] => { results := [.lit (.bool true)], args := [d1, d2, d3] }
  | _ => none }
def deskKeepsRow : OpenClaim := { program := "ytoilcdgpeilgaaagreat", sum := "1dd3f465aa52c7a4a7f9b411afc73a295bedd33409bc3a59befa80e1a7377dcf", func := "taffrail/taffraillaw.DeskKeeps", spec := "deskKeeps", inPlace := ["slices.overlaps[taffrail/api.Booking]"], unfollowed := true, recurses := true, apart := false }
def DeskKeepsSaid : Prop := deskKeepsRow.holds Tryz.pinned (OpenSpec.ofChange deskKeepsSpec)

/-- ITS FALSE NEIGHBOUR: 'it returns false'. Refute it at one input. -/
def deskKeepsWrong : ChangeSpec := { name := "deskKeeps", fn := fun _ => fun
  | [d1, d2, d3] => { results := [.lit (.bool false)], args := [d1, d2, d3] }
  | _ => none }
def DeskKeepsWrongFalsely : Prop := deskKeepsRow.holds Tryz.pinned (OpenSpec.ofChange deskKeepsWrong)

/-- 'taffraillaw.DeskAgain': WHATEVER THE INPUT: true; the input reads as it did. -/
def deskAgainSpec : ChangeSpec := { name := "deskAgain", fn := fun _ => fun
  | [d1, d2] => { results := [.lit (.bool true)], args := [d1, d2] }
  | _ => none }
def deskAgainRow : OpenClaim := { program := "ytoilcdgpeilgaaagreat", sum := "1dd3f465aa52c7a4a7f9b411afc73a295bedd33409bc3a59befa80e1a7377dcf", func := "taffrail/taffraillaw.DeskAgain", spec := "deskAgain", inPlace := ["slices.overlaps[taffrail/api.Booking]"], unfollowed := true, recurses := true, apart := false }
def DeskAgainSaid : Prop := deskAgainRow.holds Tryz.pinned (OpenSpec.ofChange deskAgainSpec)

/-- ITS FALSE NEIGHBOUR: 'it returns false'. Refute it at one input. -/
def deskAgainWrong : ChangeSpec := { name := "deskAgain", fn := fun _ => fun
  | [d1, d2] => { results := [.lit (.bool false)], args := [d1, d2] }
  | _ => none }
def DeskAgainWrongFalsely : Prop := deskAgainRow.holds Tryz.pinned (OpenSpec.ofChange deskAgainWrong)

/-- 'taffraillaw.RestLogs': WHATEVER THE INPUT: true; the input reads as it did. -/
def restLogsSpec : ChangeSpec := { name := "restLogs", fn := fun _ => fun
  | [d1, d2, d3, d4] => { results := [.lit (.bool true)], args := [d1, d2, d3, d4] }
  | _ => none }
def restLogsRow : OpenClaim := { program := "ytoilcdgpeilgaaagreat", sum := "1dd3f465aa52c7a4a7f9b411afc73a295bedd33409bc3a59befa80e1a7377dcf", func := "taffrail/taffraillaw.RestLogs", spec := "restLogs", inPlace := ["slices.overlaps[taffrail/api.Booking]"], unfollowed := true, recurses := true, apart := false }
def RestLogsSaid : Prop := restLogsRow.holds Tryz.pinned (OpenSpec.ofChange restLogsSpec)

/-- ITS FALSE NEIGHBOUR: 'it returns false'. Refute it at one input. -/
def restLogsWrong : ChangeSpec := { name := "restLogs", fn := fun _ => fun
  | [d1, d2, d3, d4] => { results := [.lit (.bool false)], args := [d1, d2, d3, d4] }
  | _ => none }
def RestLogsWrongFalsely : Prop := restLogsRow.holds Tryz.pinned (OpenSpec.ofChange restLogsWrong)

/- THE SECOND FORM. 'bulk': how many values and letters a reading holds, each counted each time it is reached (what is shared counts as often as it is met; a slice's spare places count too). A statement '..UptoSaid' is the law's where the arguments, and the package variables that the reading takes, are together of bulk at most 1048576: NARROWER than '..Said'. Prove '..Said' where nothing that the law and all that it calls make is longer than what came in: it says more and counts as full. Else prove '..UptoSaid'. A law counts once. -/
mutual
def uptoBulk {H : Type} : DataW H → Nat
  | .lit (.string bytes) => bytes.length + 1
  | .lit _ => 1
  | .nil => 1
  | .ptr d => uptoBulk d + 1
  | .slice elems spare => uptoBulkAll elems + uptoBulkAll spare + 1
  | .agg parts => uptoBulkAll parts + 1
  | .iface _ d => uptoBulk d + 1
  | .map entries => uptoBulkEntries entries + 1
  | .held _ => 1
def uptoBulkAll {H : Type} : List (DataW H) → Nat
  | [] => 0
  | d :: r => uptoBulk d + uptoBulkAll r
def uptoBulkEntries {H : Type} : List (Lit × DataW H) → Nat
  | [] => 0
  | x :: r => uptoBulkEntry x + uptoBulkEntries r
def uptoBulkEntry {H : Type} : Lit × DataW H → Nat
  | (.string bytes, d) => bytes.length + uptoBulk d + 1
  | (_, d) => uptoBulk d + 1
 end
def uptoSmall : (H : Type) → List (DataW H) → Bool := fun _ ds => decide (uptoBulkAll ds ≤ 1048576)
def OpenSpec.upto (s : _root_.Go.ChangeSpec) : _root_.Go.OpenSpec := { _root_.Go.OpenSpec.ofChange s with cond := some uptoSmall }

/-- 'taffraillaw.SellOthers', WHERE WHAT IT READS IS OF BULK AT MOST 1048576: true; the input reads as it did. -/
def sellOthersUptoRow : OpenClaim := { program := "ytoilcdgpeilgaaagreat", sum := "1dd3f465aa52c7a4a7f9b411afc73a295bedd33409bc3a59befa80e1a7377dcf", func := "taffrail/taffraillaw.SellOthers", spec := "sellOthers", inPlace := ["slices.overlaps[taffrail/api.Booking]"], unfollowed := true, recurses := true, apart := false, narrowed := true }
def SellOthersUptoSaid : Prop := sellOthersUptoRow.holds Tryz.pinned (OpenSpec.upto sellOthersSpec)

/-- 'taffraillaw.SellOffers', WHERE WHAT IT READS IS OF BULK AT MOST 1048576: true; the input reads as it did. -/
def sellOffersUptoRow : OpenClaim := { program := "ytoilcdgpeilgaaagreat", sum := "1dd3f465aa52c7a4a7f9b411afc73a295bedd33409bc3a59befa80e1a7377dcf", func := "taffrail/taffraillaw.SellOffers", spec := "sellOffers", inPlace := ["slices.overlaps[taffrail/api.Booking]"], unfollowed := true, recurses := true, apart := false, narrowed := true }
def SellOffersUptoSaid : Prop := sellOffersUptoRow.holds Tryz.pinned (OpenSpec.upto sellOffersSpec)

/-- 'taffraillaw.ChangeTells', WHERE WHAT IT READS IS OF BULK AT MOST 1048576: true; the input reads as it did. -/
def changeTellsUptoRow : OpenClaim := { program := "ytoilcdgpeilgaaagreat", sum := "1dd3f465aa52c7a4a7f9b411afc73a295bedd33409bc3a59befa80e1a7377dcf", func := "taffrail/taffraillaw.ChangeTells", spec := "changeTells", unfollowed := true, recurses := true, apart := false, narrowed := true }
def ChangeTellsUptoSaid : Prop := changeTellsUptoRow.holds Tryz.pinned (OpenSpec.upto changeTellsSpec)

/-- 'taffraillaw.ChangePaid', WHERE WHAT IT READS IS OF BULK AT MOST 1048576: true; the input reads as it did. -/
def changePaidUptoRow : OpenClaim := { program := "ytoilcdgpeilgaaagreat", sum := "1dd3f465aa52c7a4a7f9b411afc73a295bedd33409bc3a59befa80e1a7377dcf", func := "taffrail/taffraillaw.ChangePaid", spec := "changePaid", unfollowed := true, recurses := true, apart := false, narrowed := true }
def ChangePaidUptoSaid : Prop := changePaidUptoRow.holds Tryz.pinned (OpenSpec.upto changePaidSpec)

/-- 'taffraillaw.ChangeOthers', WHERE WHAT IT READS IS OF BULK AT MOST 1048576: true; the input reads as it did. -/
def changeOthersUptoRow : OpenClaim := { program := "ytoilcdgpeilgaaagreat", sum := "1dd3f465aa52c7a4a7f9b411afc73a295bedd33409bc3a59befa80e1a7377dcf", func := "taffrail/taffraillaw.ChangeOthers", spec := "changeOthers", inPlace := ["slices.overlaps[taffrail/api.Booking]"], unfollowed := true, recurses := true, apart := false, narrowed := true }
def ChangeOthersUptoSaid : Prop := changeOthersUptoRow.holds Tryz.pinned (OpenSpec.upto changeOthersSpec)

/-- 'taffraillaw.VoyageTells', WHERE WHAT IT READS IS OF BULK AT MOST 1048576: true; the input reads as it did. -/
def voyageTellsUptoRow : OpenClaim := { program := "ytoilcdgpeilgaaagreat", sum := "1dd3f465aa52c7a4a7f9b411afc73a295bedd33409bc3a59befa80e1a7377dcf", func := "taffrail/taffraillaw.VoyageTells", spec := "voyageTells", unfollowed := true, recurses := true, apart := false, narrowed := true }
def VoyageTellsUptoSaid : Prop := voyageTellsUptoRow.holds Tryz.pinned (OpenSpec.upto voyageTellsSpec)

/-- 'taffraillaw.VoyageOptions', WHERE WHAT IT READS IS OF BULK AT MOST 1048576: true; the input reads as it did. -/
def voyageOptionsUptoRow : OpenClaim := { program := "ytoilcdgpeilgaaagreat", sum := "1dd3f465aa52c7a4a7f9b411afc73a295bedd33409bc3a59befa80e1a7377dcf", func := "taffrail/taffraillaw.VoyageOptions", spec := "voyageOptions", inPlace := ["slices.overlaps[taffrail/api.Booking]"], unfollowed := true, recurses := true, apart := false, narrowed := true }
def VoyageOptionsUptoSaid : Prop := voyageOptionsUptoRow.holds Tryz.pinned (OpenSpec.upto voyageOptionsSpec)

/-- 'taffraillaw.VoyageClose', WHERE WHAT IT READS IS OF BULK AT MOST 1048576: true; the input reads as it did. -/
def voyageCloseUptoRow : OpenClaim := { program := "ytoilcdgpeilgaaagreat", sum := "1dd3f465aa52c7a4a7f9b411afc73a295bedd33409bc3a59befa80e1a7377dcf", func := "taffrail/taffraillaw.VoyageClose", spec := "voyageClose", inPlace := ["slices.overlaps[taffrail/api.Booking]"], unfollowed := true, recurses := true, apart := false, narrowed := true }
def VoyageCloseUptoSaid : Prop := voyageCloseUptoRow.holds Tryz.pinned (OpenSpec.upto voyageCloseSpec)

/-- 'taffraillaw.DeskCrash', WHERE WHAT IT READS IS OF BULK AT MOST 1048576: true; the input reads as it did. -/
def deskCrashUptoRow : OpenClaim := { program := "ytoilcdgpeilgaaagreat", sum := "1dd3f465aa52c7a4a7f9b411afc73a295bedd33409bc3a59befa80e1a7377dcf", func := "taffrail/taffraillaw.DeskCrash", spec := "deskCrash", inPlace := ["slices.overlaps[taffrail/api.Booking]"], unfollowed := true, recurses := true, apart := false, narrowed := true }
def DeskCrashUptoSaid : Prop := deskCrashUptoRow.holds Tryz.pinned (OpenSpec.upto deskCrashSpec)

/-- 'taffraillaw.DeskRight', WHERE WHAT IT READS IS OF BULK AT MOST 1048576: true; the input reads as it did. -/
def deskRightUptoRow : OpenClaim := { program := "ytoilcdgpeilgaaagreat", sum := "1dd3f465aa52c7a4a7f9b411afc73a295bedd33409bc3a59befa80e1a7377dcf", func := "taffrail/taffraillaw.DeskRight", spec := "deskRight", inPlace := ["slices.overlaps[taffrail/api.Booking]"], unfollowed := true, recurses := true, apart := false, narrowed := true }
def DeskRightUptoSaid : Prop := deskRightUptoRow.holds Tryz.pinned (OpenSpec.upto deskRightSpec)

/-- 'taffraillaw.RestSailings', WHERE WHAT IT READS IS OF BULK AT MOST 1048576: true; the input reads as it did. -/
def restSailingsUptoRow : OpenClaim := { program := "ytoilcdgpeilgaaagreat", sum := "1dd3f465aa52c7a4a7f9b411afc73a295bedd33409bc3a59befa80e1a7377dcf", func := "taffrail/taffraillaw.RestSailings", spec := "restSailings", inPlace := ["slices.overlaps[taffrail/api.Booking]"], unfollowed := true, recurses := true, apart := false, narrowed := true }
def RestSailingsUptoSaid : Prop := restSailingsUptoRow.holds Tryz.pinned (OpenSpec.upto restSailingsSpec)

/-- 'taffraillaw.DeskDoes', WHERE WHAT IT READS IS OF BULK AT MOST 1048576: true; the input reads as it did. -/
def deskDoesUptoRow : OpenClaim := { program := "ytoilcdgpeilgaaagreat", sum := "1dd3f465aa52c7a4a7f9b411afc73a295bedd33409bc3a59befa80e1a7377dcf", func := "taffrail/taffraillaw.DeskDoes", spec := "deskDoes", inPlace := ["slices.overlaps[taffrail/api.Booking]"], unfollowed := true, recurses := true, apart := false, narrowed := true }
def DeskDoesUptoSaid : Prop := deskDoesUptoRow.holds Tryz.pinned (OpenSpec.upto deskDoesSpec)

/-- 'taffraillaw.DeskSteps', WHERE WHAT IT READS IS OF BULK AT MOST 1048576: true; the input reads as it did. -/
def deskStepsUptoRow : OpenClaim := { program := "ytoilcdgpeilgaaagreat", sum := "1dd3f465aa52c7a4a7f9b411afc73a295bedd33409bc3a59befa80e1a7377dcf", func := "taffrail/taffraillaw.DeskSteps", spec := "deskSteps", inPlace := ["slices.overlaps[taffrail/api.Booking]"], unfollowed := true, recurses := true, apart := false, narrowed := true }
def DeskStepsUptoSaid : Prop := deskStepsUptoRow.holds Tryz.pinned (OpenSpec.upto deskStepsSpec)

/-- 'taffraillaw.DeskKeeps', WHERE WHAT IT READS IS OF BULK AT MOST 1048576: true; the input reads as it did. -/
def deskKeepsUptoRow : OpenClaim := { program := "ytoilcdgpeilgaaagreat", sum := "1dd3f465aa52c7a4a7f9b411afc73a295bedd33409bc3a59befa80e1a7377dcf", func := "taffrail/taffraillaw.DeskKeeps", spec := "deskKeeps", inPlace := ["slices.overlaps[taffrail/api.Booking]"], unfollowed := true, recurses := true, apart := false, narrowed := true }
def DeskKeepsUptoSaid : Prop := deskKeepsUptoRow.holds Tryz.pinned (OpenSpec.upto deskKeepsSpec)

/-- 'taffraillaw.DeskAgain', WHERE WHAT IT READS IS OF BULK AT MOST 1048576: true; the input reads as it did. -/
def deskAgainUptoRow : OpenClaim := { program := "ytoilcdgpeilgaaagreat", sum := "1dd3f465aa52c7a4a7f9b411afc73a295bedd33409bc3a59befa80e1a7377dcf", func := "taffrail/taffraillaw.DeskAgain", spec := "deskAgain", inPlace := ["slices.overlaps[taffrail/api.Booking]"], unfollowed := true, recurses := true, apart := false, narrowed := true }
def DeskAgainUptoSaid : Prop := deskAgainUptoRow.holds Tryz.pinned (OpenSpec.upto deskAgainSpec)

/-- 'taffraillaw.RestLogs', WHERE WHAT IT READS IS OF BULK AT MOST 1048576: true; the input reads as it did. -/
def restLogsUptoRow : OpenClaim := { program := "ytoilcdgpeilgaaagreat", sum := "1dd3f465aa52c7a4a7f9b411afc73a295bedd33409bc3a59befa80e1a7377dcf", func := "taffrail/taffraillaw.RestLogs", spec := "restLogs", inPlace := ["slices.overlaps[taffrail/api.Booking]"], unfollowed := true, recurses := true, apart := false, narrowed := true }
def RestLogsUptoSaid : Prop := restLogsUptoRow.holds Tryz.pinned (OpenSpec.upto restLogsSpec)

end Rows
end Go.Proofs.YtoilcdgpeilgaaaGreat
