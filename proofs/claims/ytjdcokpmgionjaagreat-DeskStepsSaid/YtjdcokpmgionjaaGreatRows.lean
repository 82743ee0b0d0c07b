/-
  No cell of these rows narrows 'for every input' (looked for: loops, veiled, ifaces, maps, wideKeys, modest, calm, conditions, laid).
  DERIVED. THE GIVEN ROWS OF THIS SEAT. 7 by the template 'for every input the law returns true; each argument reads behind the call as it read before'; 0 by the template 'total and deterministic' (their statements: YtjdcokpmgionjaaGreatTotals.lean).
  GIVEN WITH THE SEED: the statements are not yours to turn. If you find one false, say at which input.
  Laid BY PROGRAM, IN A SANDBOX (cutbox-rows.mjs): the forced cells as the released guide's own fill.sh prints them over the translation 152bce47752e12c5… (all of the seat's roots in one cut). By AI agents, Wed Nov 11 2026. No macro, syntax, notation, axiom, sorry.
-/
import Derived.Test.YtjdcokpmgionjaaGreatChecked
import GoSem.Claim
import GoSem.ClaimJoined
import GoSem.ClaimMapViews
import Derived.JoinedTies
import Derived.KernelRfl
namespace Go.Proofs.YtjdcokpmgionjaaGreat
/- THE CELL 'sum', in the pinned program and in every row, IS THE sha256 OF THE DUMP (.gsa) THAT YtjdcokpmgionjaaGreatProg.lean LOADS. Nothing in Lean hashes anything: it is a label: what it is worth is what the hold of that sum in a sandbox is worth. -/
noncomputable def Tryz.pinned : Pinned := { name := "ytjdcokpmgionjaagreat", sum := "152bce47752e12c5b80eae89d7bca9441089c12ad9f809f3a19d511d2f298147", checked := Tryz.checked }
namespace Rows
def none {H : Type} : Left H := { results := [], args := [] }

/-- 'taffraillaw.DeskCrash': WHATEVER THE INPUT: true; the input reads as it did. -/
def deskCrashSpec : ChangeSpec := { name := "deskCrash", fn := fun _ => fun
  | [d1, d2, d3] => { results := [.lit (.bool true)], args := [d1, d2, d3] }
  | _ => none }
def deskCrashRow : OpenClaim := { program := "ytjdcokpmgionjaagreat", sum := "152bce47752e12c5b80eae89d7bca9441089c12ad9f809f3a19d511d2f298147", func := "taffrail/taffraillaw.DeskCrash", spec := "deskCrash", inPlace := ["slices.overlaps[taffrail/api.Booking]"], unfollowed := true, recurses := true, apart := false }
def DeskCrashSaid : Prop := deskCrashRow.holds Tryz.pinned (OpenSpec.ofChange deskCrashSpec)

/-- ITS FALSE NEIGHBOUR: 'it returns false'. Refute it at one input. -/
def deskCrashWrong : ChangeSpec := { name := "deskCrash", fn := fun _ => fun
  | [d1, d2, d3] => { results := [.lit (.bool false)], args := [d1, d2, d3] }
  | _ => none }
def DeskCrashWrongFalsely : Prop := deskCrashRow.holds Tryz.pinned (OpenSpec.ofChange deskCrashWrong)

/-- 'taffraillaw.DeskRight': WHATEVER THE INPUT: true; the input reads as it did. -/
def deskRightSpec : ChangeSpec := { name := "deskRight", fn := fun _ => fun
  | [d1, d2] => { results := [.lit (.bool true)], args := [d1, d2] }
  | _ => none }
def deskRightRow : OpenClaim := { program := "ytjdcokpmgionjaagreat", sum := "152bce47752e12c5b80eae89d7bca9441089c12ad9f809f3a19d511d2f298147", func := "taffrail/taffraillaw.DeskRight", spec := "deskRight", inPlace := ["slices.overlaps[taffrail/api.Booking]"], unfollowed := true, recurses := true, apart := false }
def DeskRightSaid : Prop := deskRightRow.holds Tryz.pinned (OpenSpec.ofChange deskRightSpec)

/-- ITS FALSE NEIGHBOUR: 'it returns false'. Refute it at one input. -/
def deskRightWrong : ChangeSpec := { name := "deskRight", fn := fun _ => fun
  | [d1, d2] => { results := [.lit (.bool false)], args := [d1, d2] }
  | _ => none }
def DeskRightWrongFalsely : Prop := deskRightRow.holds Tryz.pinned (OpenSpec.ofChange deskRightWrong)

/-- 'taffraillaw.RestSailings': WHATEVER THE INPUT: true; the input reads as it did. -/
def restSailingsSpec : ChangeSpec := { name := "restSailings", fn := fun _ => fun
  | [d1, d2, d3, d4] => { results := [.lit (.bool true)], args := [d1, d2, d3, d4] }
  | _ => none }
def restSailingsRow : OpenClaim := { program := "ytjdcokpmgionjaagreat", sum := "152bce47752e12c5b80eae89d7bca9441089c12ad9f809f3a19d511d2f298147", func := "taffrail/taffraillaw.RestSailings", spec := "restSailings", inPlace := ["slices.overlaps[taffrail/api.Booking]"], unfollowed := true, recurses := true, apart := false }
def RestSailingsSaid : Prop := restSailingsRow.holds Tryz.pinned (OpenSpec.ofChange restSailingsSpec)

/-- ITS FALSE NEIGHBOUR: 'it returns false'. Refute it at one input. -/
def restSailingsWrong : ChangeSpec := { name := "restSailings", fn := fun _ => fun
  | [d1, d2, d3, d4] => { results := [.lit (.bool false)], args := [d1, d2, d3, d4] }
  | _ => none }
def RestSailingsWrongFalsely : Prop := restSailingsRow.holds Tryz.pinned (OpenSpec.ofChange restSailingsWrong)

/-- 'taffraillaw.DeskDoes': WHATEVER THE INPUT: true; the input reads as it did. -/
def deskDoesSpec : ChangeSpec := { name := "deskDoes", fn := fun _ => fun
  | [d1, d2] => { results := [.lit (.bool true)], args := [d1, d2] }
  | _ => none }
def deskDoesRow : OpenClaim := { program := "ytjdcokpmgionjaagreat", sum := "152bce47752e12c5b80eae89d7bca9441089c12ad9f809f3a19d511d2f298147", func := "taffrail/taffraillaw.DeskDoes", spec := "deskDoes", inPlace := ["slices.overlaps[taffrail/api.Booking]"], unfollowed := true, recurses := true, apart := false }
def DeskDoesSaid : Prop := deskDoesRow.holds Tryz.pinned (OpenSpec.ofChange deskDoesSpec)

/-- ITS FALSE NEIGHBOUR: 'it returns false'. Refute it at one input. -/
def deskDoesWrong : ChangeSpec := { name := "deskDoes", fn := fun _ => fun
  | [d1, d2] => { results := [.lit (.bool false)], args := [d1, d2] }
  | _ => none }
def DeskDoesWrongFalsely : Prop := deskDoesRow.holds Tryz.pinned (OpenSpec.ofChange deskDoesWrong)

/-- 'taffraillaw.DeskSteps': WHATEVER THE INPUT: true; the input reads as it did. -/
def deskStepsSpec : ChangeSpec := { name := "deskSteps", fn := fun _ => fun
  | [d1, d2, d3] => { results := [.lit (.bool true)], args := [d1, d2, d3] }
  | _ => none }
def deskStepsRow : OpenClaim := { program := "ytjdcokpmgionjaagreat", sum := "152bce47752e12c5b80eae89d7bca9441089c12ad9f809f3a19d511d2f298147", func := "taffrail/taffraillaw.DeskSteps", spec := "deskSteps", inPlace := ["slices.overlaps[taffrail/api.Booking]"], unfollowed := true, recurses := true, apart := false }
def DeskStepsSaid : Prop := deskStepsRow.holds Tryz.pinned (OpenSpec.ofChange deskStepsSpec)

/-- ITS FALSE NEIGHBOUR: 'it returns false'. Refute it at one input. -/
def deskStepsWrong : ChangeSpec := { name := "deskSteps", fn := fun _ => fun
  | [d1, d2, d3] => { results := [.lit (.bool false)], args := [d1, d2, d3] }
  | _ => none }
def DeskStepsWrongFalsely : Prop := deskStepsRow.holds Tryz.pinned (OpenSpec.ofChange deskStepsWrong)

/-- 'taffraillaw.DeskAgain': WHATEVER THE INPUT: true; the input reads as it did. -/
def deskAgainSpec : ChangeSpec := { name := "deskAgain", fn := fun _ => fun
  | [d1, d2] => { results := [.lit (.bool true)], args := [d1, d2] }
  | _ => none }
def deskAgainRow : OpenClaim := { program := "ytjdcokpmgionjaagreat", sum := "152bce47752e12c5b80eae89d7bca9441089c12ad9f809f3a19d511d2f298147", func := "taffrail/taffraillaw.DeskAgain", spec := "deskAgain", inPlace := ["slices.overlaps[taffrail/api.Booking]"], unfollowed := true, recurses := true, apart := false }
def DeskAgainSaid : Prop := deskAgainRow.holds Tryz.pinned (OpenSpec.ofChange deskAgainSpec)

/-- ITS FALSE NEIGHBOUR: 'it returns false'. Refute it at one input. -/
def deskAgainWrong : ChangeSpec := { name := "deskAgain", fn := fun _ => fun
  | [d1, d2] => { results := [.lit (.bool false)], args := [d1, d2] }
  | _ => none }
def DeskAgainWrongFalsely : Prop := deskAgainRow.holds Tryz.pinned (OpenSpec.ofChange deskAgainWrong)

/-- 'taffraillaw.RestLogs': WHATEVER THE INPUT: true; the input reads as it did. -/
def restLogsSpec : ChangeSpec := { name := "restLogs", fn := fun _ => fun
  | [d1, d2, d3, d4] => { results := [.lit (.bool true)], args := [d1, d2, d3, d4] }
  | _ => none }
def restLogsRow : OpenClaim := { program := "ytjdcokpmgionjaagreat", sum := "152bce47752e12c5b80eae89d7bca9441089c12ad9f809f3a19d511d2f298147", func := "taffrail/taffraillaw.RestLogs", spec := "restLogs", inPlace := ["slices.overlaps[taffrail/api.Booking]"], unfollowed := true, recurses := true, apart := false }
def RestLogsSaid : Prop := restLogsRow.holds Tryz.pinned (OpenSpec.ofChange restLogsSpec)

/-- ITS FALSE NEIGHBOUR: 'it returns false'. Refute it at one input. -/
def restLogsWrong : ChangeSpec := { name := "restLogs", fn := fun _ => fun
  | [d1, d2, d3, d4] => { results := [.lit (.bool false)], args := [d1, d2, d3, d4] }
  | _ => none }
def RestLogsWrongFalsely : Prop := restLogsRow.holds Tryz.pinned (OpenSpec.ofChange restLogsWrong)

/- THE SECOND FORM. 'bulk': how many values and letters a reading holds, each counted each time it is reached (what is shared counts as often as it is met; a slice's spare places count too). A statement '..UptoSaid' is the law's where the arguments, and the package variables that the reading takes, are together of bulk at most 1048576: NARROWER than '..Said'. Prove '..Said' where nothing that the law and all that it calls make is longer than what came in: it says more and counts as full. Else prove '..UptoSaid'. A law counts once. -/
mutual
def uptoBulk {H : Type} : DataW H → Nat
  | .lit (.string bytes) => bytes.length + 1
  | .lit _ => 1
  | .nil => 1
  | .ptr d => uptoBulk d + 1
  | .slice elems spare => uptoBulkAll elems + uptoBulkAll spare + 1
  | .agg parts => uptoBulkAll parts + 1
  | .iface _ d => uptoBulk d + 1
  | .map entries => uptoBulkEntries entries + 1
  | .held _ => 1
def uptoBulkAll {H : Type} : List (DataW H) → Nat
  | [] => 0
  | d :: r => uptoBulk d + uptoBulkAll r
def uptoBulkEntries {H : Type} : List (Lit × DataW H) → Nat
  | [] => 0
  | x :: r => uptoBulkEntry x + uptoBulkEntries r
def uptoBulkEntry {H : Type} : Lit × DataW H → Nat
  | (.string bytes, d) => bytes.length + uptoBulk d + 1
  | (_, d) => uptoBulk d + 1
 end
def uptoSmall : (H : Type) → List (DataW H) → Bool := fun _ ds => decide (uptoBulkAll ds ≤ 1048576)
def OpenSpec.upto (s : _root_.Go.ChangeSpec) : _root_.Go.OpenSpec := { _root_.Go.OpenSpec.ofChange s with cond := some uptoSmall }

/-- 'taffraillaw.DeskCrash', WHERE WHAT IT READS IS OF BULK AT MOST 1048576: true; the input reads as it did. -/
def deskCrashUptoRow : OpenClaim := { program := "ytjdcokpmgionjaagreat", sum := "152bce47752e12c5b80eae89d7bca9441089c12ad9f809f3a19d511d2f298147", func := "taffrail/taffraillaw.DeskCrash", spec := "deskCrash", inPlace := ["slices.overlaps[taffrail/api.Booking]"], unfollowed := true, recurses := true, apart := false, narrowed := true }
def DeskCrashUptoSaid : Prop := deskCrashUptoRow.holds Tryz.pinned (OpenSpec.upto deskCrashSpec)

/-- 'taffraillaw.DeskRight', WHERE WHAT IT READS IS OF BULK AT MOST 1048576: true; the input reads as it did. -/
def deskRightUptoRow : OpenClaim := { program := "ytjdcokpmgionjaagreat", sum := "152bce47752e12c5b80eae89d7bca9441089c12ad9f809f3a19d511d2f298147", func := "taffrail/taffraillaw.DeskRight", spec := "deskRight", inPlace := ["slices.overlaps[taffrail/api.Booking]"], unfollowed := true, recurses := true, apart := false, narrowed := true }
def DeskRightUptoSaid : Prop := deskRightUptoRow.holds Tryz.pinned (OpenSpec.upto deskRightSpec)

/-- 'taffraillaw.RestSailings', WHERE WHAT IT READS IS OF BULK AT MOST 1048576: true; the input reads as it did. -/
def restSailingsUptoRow : OpenClaim := { program := "ytjdcokpmgionjaagreat", sum := "152bce47752e12c5b80eae89d7bca9441089c12ad9f809f3a19d511d2f298147", func := "taffrail/taffraillaw.RestSailings", spec := "restSailings", inPlace := ["slices.overlaps[taffrail/api.Booking]"], unfollowed := true, recurses := true, apart := false, narrowed := true }
def RestSailingsUptoSaid : Prop := restSailingsUptoRow.holds Tryz.pinned (OpenSpec.upto restSailingsSpec)

/-- 'taffraillaw.DeskDoes', WHERE WHAT IT READS IS OF BULK AT MOST 1048576: true; the input reads as it did. -/
def deskDoesUptoRow : OpenClaim := { program := "ytjdcokpmgionjaagreat", sum := "152bce47752e12c5b80eae89d7bca9441089c12ad9f809f3a19d511d2f298147", func := "taffrail/taffraillaw.DeskDoes", spec := "deskDoes", inPlace := ["slices.overlaps[taffrail/api.Booking]"], unfollowed := true, recurses := true, apart := false, narrowed := true }
def DeskDoesUptoSaid : Prop := deskDoesUptoRow.holds Tryz.pinned (OpenSpec.upto deskDoesSpec)

/-- 'taffraillaw.DeskSteps', WHERE WHAT IT READS IS OF BULK AT MOST 1048576: true; the input reads as it did. -/
def deskStepsUptoRow : OpenClaim := { program := "ytjdcokpmgionjaagreat", sum := "152bce47752e12c5b80eae89d7bca9441089c12ad9f809f3a19d511d2f298147", func := "taffrail/taffraillaw.DeskSteps", spec := "deskSteps", inPlace := ["slices.overlaps[taffrail/api.Booking]"], unfollowed := true, recurses := true, apart := false, narrowed := true }
def DeskStepsUptoSaid : Prop := deskStepsUptoRow.holds Tryz.pinned (OpenSpec.upto deskStepsSpec)

/-- 'taffraillaw.DeskAgain', WHERE WHAT IT READS IS OF BULK AT MOST 1048576: true; the input reads as it did. -/
def deskAgainUptoRow : OpenClaim := { program := "ytjdcokpmgionjaagreat", sum := "152bce47752e12c5b80eae89d7bca9441089c12ad9f809f3a19d511d2f298147", func := "taffrail/taffraillaw.DeskAgain", spec := "deskAgain", inPlace := ["slices.overlaps[taffrail/api.Booking]"], unfollowed := true, recurses := true, apart := false, narrowed := true }
def DeskAgainUptoSaid : Prop := deskAgainUptoRow.holds Tryz.pinned (OpenSpec.upto deskAgainSpec)

/-- 'taffraillaw.RestLogs', WHERE WHAT IT READS IS OF BULK AT MOST 1048576: true; the input reads as it did. -/
def restLogsUptoRow : OpenClaim := { program := "ytjdcokpmgionjaagreat", sum := "152bce47752e12c5b80eae89d7bca9441089c12ad9f809f3a19d511d2f298147", func := "taffrail/taffraillaw.RestLogs", spec := "restLogs", inPlace := ["slices.overlaps[taffrail/api.Booking]"], unfollowed := true, recurses := true, apart := false, narrowed := true }
def RestLogsUptoSaid : Prop := restLogsUptoRow.holds Tryz.pinned (OpenSpec.upto restLogsSpec)

end Rows
end Go.Proofs.YtjdcokpmgionjaaGreat
