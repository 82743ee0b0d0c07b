/-
  No cell of these rows narrows 'for every input' (looked for: loops, veiled, ifaces, maps, wideKeys, modest, calm, conditions, laid).
  DERIVED. THE GIVEN ROWS OF THIS SEAT. 10 by the template 'for every input the law returns true; each argument reads behind the call as it read before'; 0 by the template 'total and deterministic' (their statements: YtpodgidamoiakaaTotals.lean).
  GIVEN WITH THE SEED: the statements are not yours to turn. If you find one false, say at which input.
  Laid BY PROGRAM, IN A SANDBOX (cutbox-rows.mjs): the forced cells as the released guide's own fill.sh prints them over the translation 5ecdd3aba9697b1d… (all of the seat's roots in one cut). By AI agents, Wed Nov 11 2026. No macro, syntax, notation, axiom, sorry.
-/
import Derived.Test.YtpodgidamoiakaaChecked
import GoSem.Claim
import GoSem.ClaimJoined
import GoSem.ClaimMapViews
import Derived.JoinedTies
import Derived.KernelRfl
namespace Go.Proofs.Ytpodgidamoiakaa
/- THE CELL 'sum', in the pinned program and in every row, IS THE sha256 OF THE DUMP (.gsa) THAT YtpodgidamoiakaaProg.lean LOADS. Nothing in Lean hashes anything: it is a label: what it is worth is what the hold of that sum in a sandbox is worth. -/
noncomputable def Try.pinned : Pinned := { name := "ytpodgidamoiakaa", sum := "5ecdd3aba9697b1d921efc63b6955aa869f706707fc097bdffb78c667d20744c", checked := Try.checked }
namespace Rows
def none {H : Type} : Left H := { results := [], args := [] }

/-- 'taffraillaw.ShipMore': WHATEVER THE INPUT: true; the input reads as it did. -/
def shipMoreSpec : ChangeSpec := { name := "shipMore", fn := fun _ => fun
  | [d1, d2, d3, d4, d5] => { results := [.lit (.bool true)], args := [d1, d2, d3, d4, d5] }
  | _ => none }
def shipMoreRow : OpenClaim := { program := "ytpodgidamoiakaa", sum := "5ecdd3aba9697b1d921efc63b6955aa869f706707fc097bdffb78c667d20744c", func := "taffrail/taffraillaw.ShipMore", spec := "shipMore", unfollowed := true, recurses := true, plainKeys := false, apart := false }
def ShipMoreSaid : Prop := shipMoreRow.holds Try.pinned (OpenSpec.ofChange shipMoreSpec)

/-- ITS FALSE NEIGHBOUR: 'it returns false'. Refute it at one input. -/
def shipMoreWrong : ChangeSpec := { name := "shipMore", fn := fun _ => fun
  | [d1, d2, d3, d4, d5] => { results := [.lit (.bool false)], args := [d1, d2, d3, d4, d5] }
  | _ => none }
def ShipMoreWrongFalsely : Prop := shipMoreRow.holds Try.pinned (OpenSpec.ofChange shipMoreWrong)

/-- 'taffraillaw.ShipTells': WHATEVER THE INPUT: true; the input reads as it did. -/
def shipTellsSpec : ChangeSpec := { name := "shipTells", fn := fun _ => fun
  | [d1, d2, d3] => { results := [.lit (.bool true)], args := [d1, d2, d3] }
  | _ => none }
def shipTellsRow : OpenClaim := { program := "ytpodgidamoiakaa", sum := "5ecdd3aba9697b1d921efc63b6955aa869f706707fc097bdffb78c667d20744c", func := "taffrail/taffraillaw.ShipTells", spec := "shipTells", unfollowed := true, recurses := true, plainKeys := false, apart := false }
def ShipTellsSaid : Prop := shipTellsRow.holds Try.pinned (OpenSpec.ofChange shipTellsSpec)

/-- ITS FALSE NEIGHBOUR: 'it returns false'. Refute it at one input. -/
def shipTellsWrong : ChangeSpec := { name := "shipTells", fn := fun _ => fun
  | [d1, d2, d3] => { results := [.lit (.bool false)], args := [d1, d2, d3] }
  | _ => none }
def ShipTellsWrongFalsely : Prop := shipTellsRow.holds Try.pinned (OpenSpec.ofChange shipTellsWrong)

/-- 'taffraillaw.ShipServes': WHATEVER THE INPUT: true; the input reads as it did. -/
def shipServesSpec : ChangeSpec := { name := "shipServes", fn := fun _ => fun
  | [d] => { results := [.lit (.bool true)], args := [d] }
  | _ => none }
def shipServesRow : OpenClaim := { program := "ytpodgidamoiakaa", sum := "5ecdd3aba9697b1d921efc63b6955aa869f706707fc097bdffb78c667d20744c", func := "taffrail/taffraillaw.ShipServes", spec := "shipServes", unfollowed := true, recurses := true, plainKeys := false, apart := false }
def ShipServesSaid : Prop := shipServesRow.holds Try.pinned (OpenSpec.ofChange shipServesSpec)

/-- ITS FALSE NEIGHBOUR: 'it returns false'. Refute it at one input. -/
def shipServesWrong : ChangeSpec := { name := "shipServes", fn := fun _ => fun
  | [d] => { results := [.lit (.bool false)], args := [d] }
  | _ => none }
def ShipServesWrongFalsely : Prop := shipServesRow.holds Try.pinned (OpenSpec.ofChange shipServesWrong)

/-- 'taffraillaw.SpanTells': WHATEVER THE INPUT: true; the input reads as it did. -/
def spanTellsSpec : ChangeSpec := { name := "spanTells", fn := fun _ => fun
  | [d1, d2, d3, d4] => { results := [.lit (.bool true)], args := [d1, d2, d3, d4] }
  | _ => none }
def spanTellsRow : OpenClaim := { program := "ytpodgidamoiakaa", sum := "5ecdd3aba9697b1d921efc63b6955aa869f706707fc097bdffb78c667d20744c", func := "taffrail/taffraillaw.SpanTells", spec := "spanTells", unfollowed := true, recurses := true, plainKeys := false, apart := false }
def SpanTellsSaid : Prop := spanTellsRow.holds Try.pinned (OpenSpec.ofChange spanTellsSpec)

/-- ITS FALSE NEIGHBOUR: 'it returns false'. Refute it at one input. -/
def spanTellsWrong : ChangeSpec := { name := "spanTells", fn := fun _ => fun
  | [d1, d2, d3, d4] => { results := [.lit (.bool false)], args := [d1, d2, d3, d4] }
  | _ => none }
def SpanTellsWrongFalsely : Prop := spanTellsRow.holds Try.pinned (OpenSpec.ofChange spanTellsWrong)

/-- 'taffraillaw.SpanBack': WHATEVER THE INPUT: true; the input reads as it did. -/
def spanBackSpec : ChangeSpec := { name := "spanBack", fn := fun _ => fun
  | [d1, d2, d3] => { results := [.lit (.bool true)], args := [d1, d2, d3] }
  | _ => none }
def spanBackRow : OpenClaim := { program := "ytpodgidamoiakaa", sum := "5ecdd3aba9697b1d921efc63b6955aa869f706707fc097bdffb78c667d20744c", func := "taffrail/taffraillaw.SpanBack", spec := "spanBack", unfollowed := true, recurses := true, plainKeys := false, apart := false }
def SpanBackSaid : Prop := spanBackRow.holds Try.pinned (OpenSpec.ofChange spanBackSpec)

/-- ITS FALSE NEIGHBOUR: 'it returns false'. Refute it at one input. -/
def spanBackWrong : ChangeSpec := { name := "spanBack", fn := fun _ => fun
  | [d1, d2, d3] => { results := [.lit (.bool false)], args := [d1, d2, d3] }
  | _ => none }
def SpanBackWrongFalsely : Prop := spanBackRow.holds Try.pinned (OpenSpec.ofChange spanBackWrong)

/-- 'taffraillaw.SpanFree': WHATEVER THE INPUT: true; the input reads as it did. -/
def spanFreeSpec : ChangeSpec := { name := "spanFree", fn := fun _ => fun
  | [d1, d2] => { results := [.lit (.bool true)], args := [d1, d2] }
  | _ => none }
def spanFreeRow : OpenClaim := { program := "ytpodgidamoiakaa", sum := "5ecdd3aba9697b1d921efc63b6955aa869f706707fc097bdffb78c667d20744c", func := "taffrail/taffraillaw.SpanFree", spec := "spanFree", unfollowed := true, recurses := true, plainKeys := false, apart := false }
def SpanFreeSaid : Prop := spanFreeRow.holds Try.pinned (OpenSpec.ofChange spanFreeSpec)

/-- ITS FALSE NEIGHBOUR: 'it returns false'. Refute it at one input. -/
def spanFreeWrong : ChangeSpec := { name := "spanFree", fn := fun _ => fun
  | [d1, d2] => { results := [.lit (.bool false)], args := [d1, d2] }
  | _ => none }
def SpanFreeWrongFalsely : Prop := spanFreeRow.holds Try.pinned (OpenSpec.ofChange spanFreeWrong)

/-- 'taffraillaw.MatchAlone': WHATEVER THE INPUT: true; the input reads as it did. -/
def matchAloneSpec : ChangeSpec := { name := "matchAlone", fn := fun _ => fun
  | [d1, d2, d3] => { results := [.lit (.bool true)], args := [d1, d2, d3] }
  | _ => none }
def matchAloneRow : OpenClaim := { program := "ytpodgidamoiakaa", sum := "5ecdd3aba9697b1d921efc63b6955aa869f706707fc097bdffb78c667d20744c", func := "taffrail/taffraillaw.MatchAlone", spec := "matchAlone", unfollowed := true, recurses := true, plainKeys := false, apart := false }
def MatchAloneSaid : Prop := matchAloneRow.holds Try.pinned (OpenSpec.ofChange matchAloneSpec)

/-- ITS FALSE NEIGHBOUR: 'it returns false'. Refute it at one input. -/
def matchAloneWrong : ChangeSpec := { name := "matchAlone", fn := fun _ => fun
  | [d1, d2, d3] => { results := [.lit (.bool false)], args := [d1, d2, d3] }
  | _ => none }
def MatchAloneWrongFalsely : Prop := matchAloneRow.holds Try.pinned (OpenSpec.ofChange matchAloneWrong)

/-- 'taffraillaw.MatchTells': WHATEVER THE INPUT: true; the input reads as it did. -/
def matchTellsSpec : ChangeSpec := { name := "matchTells", fn := fun _ => fun
  | [d1, d2, d3] => { results := [.lit (.bool true)], args := [d1, d2, d3] }
  | _ => none }
def matchTellsRow : OpenClaim := { program := "ytpodgidamoiakaa", sum := "5ecdd3aba9697b1d921efc63b6955aa869f706707fc097bdffb78c667d20744c", func := "taffrail/taffraillaw.MatchTells", spec := "matchTells", unfollowed := true, recurses := true, plainKeys := false, apart := false }
def MatchTellsSaid : Prop := matchTellsRow.holds Try.pinned (OpenSpec.ofChange matchTellsSpec)

/-- ITS FALSE NEIGHBOUR: 'it returns false'. Refute it at one input. -/
def matchTellsWrong : ChangeSpec := { name := "matchTells", fn := fun _ => fun
  | [d1, d2, d3] => { results := [.lit (.bool false)], args := [d1, d2, d3] }
  | _ => none }
def MatchTellsWrongFalsely : Prop := matchTellsRow.holds Try.pinned (OpenSpec.ofChange matchTellsWrong)

/-- 'taffraillaw.MatchEither': WHATEVER THE INPUT: true; the input reads as it did. -/
def matchEitherSpec : ChangeSpec := { name := "matchEither", fn := fun _ => fun
  | [d1, d2, d3] => { results := [.lit (.bool true)], args := [d1, d2, d3] }
  | _ => none }
def matchEitherRow : OpenClaim := { program := "ytpodgidamoiakaa", sum := "5ecdd3aba9697b1d921efc63b6955aa869f706707fc097bdffb78c667d20744c", func := "taffrail/taffraillaw.MatchEither", spec := "matchEither", unfollowed := true, recurses := true, plainKeys := false, apart := false }
def MatchEitherSaid : Prop := matchEitherRow.holds Try.pinned (OpenSpec.ofChange matchEitherSpec)

/-- ITS FALSE NEIGHBOUR: 'it returns false'. Refute it at one input. -/
def matchEitherWrong : ChangeSpec := { name := "matchEither", fn := fun _ => fun
  | [d1, d2, d3] => { results := [.lit (.bool false)], args := [d1, d2, d3] }
  | _ => none }
def MatchEitherWrongFalsely : Prop := matchEitherRow.holds Try.pinned (OpenSpec.ofChange matchEitherWrong)

/-- 'taffraillaw.MatchMore': WHATEVER THE INPUT: true; the input reads as it did. -/
def matchMoreSpec : ChangeSpec := { name := "matchMore", fn := fun _ => fun
  | [d1, d2, d3, d4] => { results := [.lit (.bool true)], args := [d1, d2, d3, d4] }
  | _ => none }
def matchMoreRow : OpenClaim := { program := "ytpodgidamoiakaa", sum := "5ecdd3aba9697b1d921efc63b6955aa869f706707fc097bdffb78c667d20744c", func := "taffrail/taffraillaw.MatchMore", spec := "matchMore", unfollowed := true, recurses := true, plainKeys := false, apart := false }
def MatchMoreSaid : Prop := matchMoreRow.holds Try.pinned (OpenSpec.ofChange matchMoreSpec)

/-- ITS FALSE NEIGHBOUR: 'it returns false'. Refute it at one input. -/
def matchMoreWrong : ChangeSpec := { name := "matchMore", fn := fun _ => fun
  | [d1, d2, d3, d4] => { results := [.lit (.bool false)], args := [d1, d2, d3, d4] }
  | _ => none }
def MatchMoreWrongFalsely : Prop := matchMoreRow.holds Try.pinned (OpenSpec.ofChange matchMoreWrong)

/- THE SECOND FORM. 'bulk': how many values and letters a reading holds, each counted each time it is reached (what is shared counts as often as it is met; a slice's spare places count too). A statement '..UptoSaid' is the law's where the arguments, and the package variables that the reading takes, are together of bulk at most 1048576: NARROWER than '..Said'. Prove '..Said' where nothing that the law and all that it calls make is longer than what came in: it says more and counts as full. Else prove '..UptoSaid'. A law counts once. -/
mutual
def uptoBulk {H : Type} : DataW H → Nat
  | .lit (.string bytes) => bytes.length + 1
  | .lit _ => 1
  | .nil => 1
  | .ptr d => uptoBulk d + 1
  | .slice elems spare => uptoBulkAll elems + uptoBulkAll spare + 1
  | .agg parts => uptoBulkAll parts + 1
  | .iface _ d => uptoBulk d + 1
  | .map entries => uptoBulkEntries entries + 1
  | .held _ => 1
def uptoBulkAll {H : Type} : List (DataW H) → Nat
  | [] => 0
  | d :: r => uptoBulk d + uptoBulkAll r
def uptoBulkEntries {H : Type} : List (Lit × DataW H) → Nat
  | [] => 0
  | x :: r => uptoBulkEntry x + uptoBulkEntries r
def uptoBulkEntry {H : Type} : Lit × DataW H → Nat
  | (.string bytes, d) => bytes.length + uptoBulk d + 1
  | (_, d) => uptoBulk d + 1
 end
def uptoSmall : (H : Type) → List (DataW H) → Bool := fun _ ds => decide (uptoBulkAll ds ≤ 1048576)
def OpenSpec.upto (s : _root_.Go.ChangeSpec) : _root_.Go.OpenSpec := { _root_.Go.OpenSpec.ofChange s with cond := some uptoSmall }

/-- 'taffraillaw.ShipMore', WHERE WHAT IT READS IS OF BULK AT MOST 1048576: true; the input reads as it did. -/
def shipMoreUptoRow : OpenClaim := { program := "ytpodgidamoiakaa", sum := "5ecdd3aba9697b1d921efc63b6955aa869f706707fc097bdffb78c667d20744c", func := "taffrail/taffraillaw.ShipMore", spec := "shipMore", unfollowed := true, recurses := true, plainKeys := false, apart := false, narrowed := true }
def ShipMoreUptoSaid : Prop := shipMoreUptoRow.holds Try.pinned (OpenSpec.upto shipMoreSpec)

/-- 'taffraillaw.ShipTells', WHERE WHAT IT READS IS OF BULK AT MOST 1048576: true; the input reads as it did. -/
def shipTellsUptoRow : OpenClaim := { program := "ytpodgidamoiakaa", sum := "5ecdd3aba9697b1d921efc63b6955aa869f706707fc097bdffb78c667d20744c", func := "taffrail/taffraillaw.ShipTells", spec := "shipTells", unfollowed := true, recurses := true, plainKeys := false, apart := false, narrowed := true }
def ShipTellsUptoSaid : Prop := shipTellsUptoRow.holds Try.pinned (OpenSpec.upto shipTellsSpec)

/-- 'taffraillaw.ShipServes', WHERE WHAT IT READS IS OF BULK AT MOST 1048576: true; the input reads as it did. -/
def shipServesUptoRow : OpenClaim := { program := "ytpodgidamoiakaa", sum := "5ecdd3aba9697b1d921efc63b6955aa869f706707fc097bdffb78c667d20744c", func := "taffrail/taffraillaw.ShipServes", spec := "shipServes", unfollowed := true, recurses := true, plainKeys := false, apart := false, narrowed := true }
def ShipServesUptoSaid : Prop := shipServesUptoRow.holds Try.pinned (OpenSpec.upto shipServesSpec)

/-- 'taffraillaw.SpanTells', WHERE WHAT IT READS IS OF BULK AT MOST 1048576: true; the input reads as it did. -/
def spanTellsUptoRow : OpenClaim := { program := "ytpodgidamoiakaa", sum := "5ecdd3aba9697b1d921efc63b6955aa869f706707fc097bdffb78c667d20744c", func := "taffrail/taffraillaw.SpanTells", spec := "spanTells", unfollowed := true, recurses := true, plainKeys := false, apart := false, narrowed := true }
def SpanTellsUptoSaid : Prop := spanTellsUptoRow.holds Try.pinned (OpenSpec.upto spanTellsSpec)

/-- 'taffraillaw.SpanBack', WHERE WHAT IT READS IS OF BULK AT MOST 1048576: true; the input reads as it did. -/
def spanBackUptoRow : OpenClaim := { program := "ytpodgidamoiakaa", sum := "5ecdd3aba9697b1d921efc63b6955aa869f706707fc097bdffb78c667d20744c", func := "taffrail/taffraillaw.SpanBack", spec := "spanBack", unfollowed := true, recurses := true, plainKeys := false, apart := false, narrowed := true }
def SpanBackUptoSaid : Prop := spanBackUptoRow.holds Try.pinned (OpenSpec.upto spanBackSpec)

/-- 'taffraillaw.SpanFree', WHERE WHAT IT READS IS OF BULK AT MOST 1048576: true; the input reads as it did. -/
def spanFreeUptoRow : OpenClaim := { program := "ytpodgidamoiakaa", sum := "5ecdd3aba9697b1d921efc63b6955aa869f706707fc097bdffb78c667d20744c", func := "taffrail/taffraillaw.SpanFree", spec := "spanFree", unfollowed := true, recurses := true, plainKeys := false, apart := false, narrowed := true }
def SpanFreeUptoSaid : Prop := spanFreeUptoRow.holds Try.pinned (OpenSpec.upto spanFreeSpec)

/-- 'taffraillaw.MatchAlone', WHERE WHAT IT READS IS OF BULK AT MOST 1048576: true; the input reads as it did. -/
def matchAloneUptoRow : OpenClaim := { program := "ytpodgidamoiakaa", sum := "5ecdd3aba9697b1d921efc63b6955aa869f706707fc097bdffb78c667d20744c", func := "taffrail/taffraillaw.MatchAlone", spec := "matchAlone", unfollowed := true, recurses := true, plainKeys := false, apart := false, narrowed := true }
def MatchAloneUptoSaid : Prop := matchAloneUptoRow.holds Try.pinned (OpenSpec.upto matchAloneSpec)

/-- 'taffraillaw.MatchTells', WHERE WHAT IT READS IS OF BULK AT MOST 1048576: true; the input reads as it did. -/
def matchTellsUptoRow : OpenClaim := { program := "ytpodgidamoiakaa", sum := "5ecdd3aba9697b1d921efc63b6955aa869f706707fc097bdffb78c667d20744c", func := "taffrail/taffraillaw.MatchTells", spec := "matchTells", unfollowed := true, recurses := true, plainKeys := false, apart := false, narrowed := true }
def MatchTellsUptoSaid : Prop := matchTellsUptoRow.holds Try.pinned (OpenSpec.upto matchTellsSpec)

/-- 'taffraillaw.MatchEither', WHERE WHAT IT READS IS OF BULK AT MOST 1048576: true; the input reads as it did. -/
def matchEitherUptoRow : OpenClaim := { program := "ytpodgidamoiakaa", sum := "5ecdd3aba9697b1d921efc63b6955aa869f706707fc097bdffb78c667d20744c", func := "taffrail/taffraillaw.MatchEither", spec := "matchEither", unfollowed := true, recurses := true, plainKeys := false, apart := false, narrowed := true }
def MatchEitherUptoSaid : Prop := matchEitherUptoRow.holds Try.pinned (OpenSpec.upto matchEitherSpec)

/-- 'taffraillaw.MatchMore', WHERE WHAT IT READS IS OF BULK AT MOST 1048576: true; the input reads as it did. -/
def matchMoreUptoRow : OpenClaim := { program := "ytpodgidamoiakaa", sum := "5ecdd3aba9697b1d921efc63b6955aa869f706707fc097bdffb78c667d20744c", func := "taffrail/taffraillaw.MatchMore", spec := "matchMore", unfollowed := true, recurses := true, plainKeys := false, apart := false, narrowed := true }
def MatchMoreUptoSaid : Prop := matchMoreUptoRow.holds Try.pinned (OpenSpec.upto matchMoreSpec)

end Rows
end Go.Proofs.Ytpodgidamoiakaa
