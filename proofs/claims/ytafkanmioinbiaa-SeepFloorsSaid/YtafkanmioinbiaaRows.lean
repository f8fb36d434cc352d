/-
  No cell of these rows narrows 'for every input' (looked for: loops, veiled, ifaces, maps, wideKeys, modest, calm, conditions, laid).
  DERIVED. THE GIVEN ROWS OF THIS SEAT. 13 by the template 'for every input the law returns true; each argument reads behind the call as it read before'; 0 by the template 'total and deterministic' (their statements: YtafkanmioinbiaaTotals.lean).
  GIVEN WITH THE SEED: the statements are not yours to turn. If you find one false, say at which input.
  Laid BY PROGRAM, IN A SANDBOX (cutbox-rows.mjs): the forced cells as the released guide's own fill.sh prints them over the translation 8a2f57f75f41e2e1… (all of the seat's roots in one cut). By AI agents, Wed Nov 11 2026. No macro, syntax, notation, axiom, sorry.
-/
import Derived.Test.YtafkanmioinbiaaChecked
import GoSem.Claim
import GoSem.ClaimJoined
import GoSem.ClaimMapViews
import Derived.JoinedTies
import Derived.KernelRfl
namespace Go.Proofs.Ytafkanmioinbiaa
/- THE CELL 'sum', in the pinned program and in every row, IS THE sha256 OF THE DUMP (.gsa) THAT YtafkanmioinbiaaProg.lean LOADS. Nothing in Lean hashes anything: it is a label: what it is worth is what the hold of that sum in a sandbox is worth. -/
noncomputable def Try.pinned : Pinned := { name := "ytafkanmioinbiaa", sum := "8a2f57f75f41e2e159a306ad55752a239786c3dde653a31d66b9f0f3ea15180d", checked := Try.checked }
namespace Rows
def none {H : Type} : Left H := { results := [], args := [] }

/-- 'taliklaw07.SeepPlays': WHATEVER THE INPUT: true; the input reads as it did. -/
def seepPlaysSpec : ChangeSpec := { name := "seepPlays", fn := fun _ => fun
  | [d1, d2, d3] => { results := [.lit (.bool true)], args := [d1, d2, d3] }
  | _ => none }
def seepPlaysRow : OpenClaim := { program := "ytafkanmioinbiaa", sum := "8a2f57f75f41e2e159a306ad55752a239786c3dde653a31d66b9f0f3ea15180d", func := "talik/taliklaw07.SeepPlays", spec := "seepPlays", unfollowed := true, recurses := true, plainKeys := false, apart := false }
def SeepPlaysSaid : Prop := seepPlaysRow.holds Try.pinned (OpenSpec.ofChange seepPlaysSpec)

/-- ITS FALSE NEIGHBOUR: 'it returns false'. Refute it at one input. -/
def seepPlaysWrong : ChangeSpec := { name := "seepPlays", fn := fun _ => fun
  | [d1, d2, d3] => { results := [.lit (.bool false)], args := [d1, d2, d3] }
  | _ => none }
def SeepPlaysWrongFalsely : Prop := seepPlaysRow.holds Try.pinned (OpenSpec.ofChange seepPlaysWrong)

/-- 'taliklaw07.SeepTrue': WHATEVER THE INPUT: true; the input reads as it did. -/
def seepTrueSpec : ChangeSpec := { name := "seepTrue", fn := fun _ => fun
  | [d1, d2, d3] => { results := [.lit (.bool true)], args := [d1, d2, d3] }
  | _ => none }
def seepTrueRow : OpenClaim := { program := "ytafkanmioinbiaa", sum := "8a2f57f75f41e2e159a306ad55752a239786c3dde653a31d66b9f0f3ea15180d", func := "talik/taliklaw07.SeepTrue", spec := "seepTrue", unfollowed := true, recurses := true, plainKeys := false, apart := false }
def SeepTrueSaid : Prop := seepTrueRow.holds Try.pinned (OpenSpec.ofChange seepTrueSpec)

/-- ITS FALSE NEIGHBOUR: 'it returns false'. Refute it at one input. -/
def seepTrueWrong : ChangeSpec := { name := "seepTrue", fn := fun _ => fun
  | [d1, d2, d3] => { results := [.lit (.bool false)], args := [d1, d2, d3] }
  | _ => none }
def SeepTrueWrongFalsely : Prop := seepTrueRow.holds Try.pinned (OpenSpec.ofChange seepTrueWrong)

/-- 'taliklaw07.SeepFlows': WHATEVER THE INPUT: true; the input reads as it did. -/
def seepFlowsSpec : ChangeSpec := { name := "seepFlows", fn := fun _ => fun
  | [d1, d2, d3] => { results := [.lit (.bool true)], args := [d1, d2, d3] }
  | _ => none }
def seepFlowsRow : OpenClaim := { program := "ytafkanmioinbiaa", sum := "8a2f57f75f41e2e159a306ad55752a239786c3dde653a31d66b9f0f3ea15180d", func := "talik/taliklaw07.SeepFlows", spec := "seepFlows", unfollowed := true, recurses := true, plainKeys := false, apart := false }
def SeepFlowsSaid : Prop := seepFlowsRow.holds Try.pinned (OpenSpec.ofChange seepFlowsSpec)

/-- ITS FALSE NEIGHBOUR: 'it returns false'. Refute it at one input. -/
def seepFlowsWrong : ChangeSpec := { name := "seepFlows", fn := fun _ => fun
  | [d1, d2, d3] => { results := [.lit (.bool false)], args := [d1, d2, d3] }
  | _ => none }
def SeepFlowsWrongFalsely : Prop := seepFlowsRow.holds Try.pinned (OpenSpec.ofChange seepFlowsWrong)

/-- 'taliklaw07.SeepRoutes': WHATEVER THE INPUT: true; the input reads as it did. -/
def seepRoutesSpec : ChangeSpec := { name := "seepRoutes", fn := fun _ => fun
  | [d1, d2, d3] => { results := [.lit (.bool true)], args := [d1, d2, d3] }
  | _ => none }
def seepRoutesRow : OpenClaim := { program := "ytafkanmioinbiaa", sum := "8a2f57f75f41e2e159a306ad55752a239786c3dde653a31d66b9f0f3ea15180d", func := "talik/taliklaw07.SeepRoutes", spec := "seepRoutes", unfollowed := true, recurses := true, plainKeys := false, apart := false }
def SeepRoutesSaid : Prop := seepRoutesRow.holds Try.pinned (OpenSpec.ofChange seepRoutesSpec)

/-- ITS FALSE NEIGHBOUR: 'it returns false'. Refute it at one input. -/
def seepRoutesWrong : ChangeSpec := { name := "seepRoutes", fn := fun _ => fun
  | [d1, d2, d3] => { results := [.lit (.bool false)], args := [d1, d2, d3] }
  | _ => none }
def SeepRoutesWrongFalsely : Prop := seepRoutesRow.holds Try.pinned (OpenSpec.ofChange seepRoutesWrong)

/-- 'taliklaw07.SeepLed': WHATEVER THE INPUT: true; the input reads as it did. -/
def seepLedSpec : ChangeSpec := { name := "seepLed", fn := fun _ => fun
  | [d1, d2, d3, d4] => { results := [.lit (.bool true)], args := [d1, d2, d3, d4] }
  | _ => none }
def seepLedRow : OpenClaim := { program := "ytafkanmioinbiaa", sum := "8a2f57f75f41e2e159a306ad55752a239786c3dde653a31d66b9f0f3ea15180d", func := "talik/taliklaw07.SeepLed", spec := "seepLed", unfollowed := true, recurses := true, plainKeys := false, apart := false }
def SeepLedSaid : Prop := seepLedRow.holds Try.pinned (OpenSpec.ofChange seepLedSpec)

/-- ITS FALSE NEIGHBOUR: 'it returns false'. Refute it at one input. -/
def seepLedWrong : ChangeSpec := { name := "seepLed", fn := fun _ => fun
  | [d1, d2, d3, d4] => { results := [.lit (.bool false)], args := [d1, d2, d3, d4] }
  | _ => none }
def SeepLedWrongFalsely : Prop := seepLedRow.holds Try.pinned (OpenSpec.ofChange seepLedWrong)

/-- 'taliklaw07.SeepDykes': WHATEVER THE INPUT: true; the input reads as it did. -/
def seepDykesSpec : ChangeSpec := { name := "seepDykes", fn := fun _ => fun
  | [d] => { results := [.lit (.bool true)], args := [d] }
  | _ => none }
def seepDykesRow : OpenClaim := { program := "ytafkanmioinbiaa", sum := "8a2f57f75f41e2e159a306ad55752a239786c3dde653a31d66b9f0f3ea15180d", func := "talik/taliklaw07.SeepDykes", spec := "seepDykes", unfollowed := true, recurses := true, plainKeys := false, apart := false }
def SeepDykesSaid : Prop := seepDykesRow.holds Try.pinned (OpenSpec.ofChange seepDykesSpec)

/-- ITS FALSE NEIGHBOUR: 'it returns false'. Refute it at one input. -/
def seepDykesWrong : ChangeSpec := { name := "seepDykes", fn := fun _ => fun
  | [d] => { results := [.lit (.bool false)], args := [d] }
  | _ => none }
def SeepDykesWrongFalsely : Prop := seepDykesRow.holds Try.pinned (OpenSpec.ofChange seepDykesWrong)

/-- 'taliklaw07.SeepRivals': WHATEVER THE INPUT: true; the input reads as it did. -/
def seepRivalsSpec : ChangeSpec := { name := "seepRivals", fn := fun _ => fun
  | [d1, d2] => { results := [.lit (.bool true)], args := [d1, d2] }
  | _ => none }
def seepRivalsRow : OpenClaim := { program := "ytafkanmioinbiaa", sum := "8a2f57f75f41e2e159a306ad55752a239786c3dde653a31d66b9f0f3ea15180d", func := "talik/taliklaw07.SeepRivals", spec := "seepRivals", unfollowed := true, recurses := true, plainKeys := false, apart := false }
def SeepRivalsSaid : Prop := seepRivalsRow.holds Try.pinned (OpenSpec.ofChange seepRivalsSpec)

/-- ITS FALSE NEIGHBOUR: 'it returns false'. Refute it at one input. -/
def seepRivalsWrong : ChangeSpec := { name := "seepRivals", fn := fun _ => fun
  | [d1, d2] => { results := [.lit (.bool false)], args := [d1, d2] }
  | _ => none }
def SeepRivalsWrongFalsely : Prop := seepRivalsRow.holds Try.pinned (OpenSpec.ofChange seepRivalsWrong)

/-- 'taliklaw07.SeepFloors': WHATEVER THE INPUT: true; the input reads as it did. -/
def seepFloorsSpec : ChangeSpec := { name := "seepFloors", fn := fun _ => fun
  | [d1, d2, d3] => { results := [.lit (.bool true)], args := [d1, d2, d3] }
  | _ => none }
def seepFloorsRow : OpenClaim := { program := "ytafkanmioinbiaa", sum := "8a2f57f75f41e2e159a306ad55752a239786c3dde653a31d66b9f0f3ea15180d", func := "talik/taliklaw07.SeepFloors", spec := "seepFloors", unfollowed := true, recurses := true, plainKeys := false, apart := false }
def SeepFloorsSaid : Prop := seepFloorsRow.holds Try.pinned (OpenSpec.ofChange seepFloorsSpec)

/-- ITS FALSE NEIGHBOUR: 'it returns false'. Refute it at one input. -/
def seepFloorsWrong : ChangeSpec := { name := "seepFloors", fn := fun _ => fun
  | [d1, d2, d3] => { results := [.lit (.bool false)], args := [d1, d2, d3] }
  | _ => none }
def SeepFloorsWrongFalsely : Prop := seepFloorsRow.holds Try.pinned (OpenSpec.ofChange seepFloorsWrong)

/-- 'taliklaw07.SeepProved': WHATEVER THE INPUT: true; the input reads as it did. -/
def seepProvedSpec : ChangeSpec := { name := "seepProved", fn := fun _ => fun
  | [d1, d2, d3, d4] => { results := [.lit (.bool true)], args := [d1, d2, d3, d4] }
  | _ => none }
def seepProvedRow : OpenClaim := { program := "ytafkanmioinbiaa", sum := "8a2f57f75f41e2e159a306ad55752a239786c3dde653a31d66b9f0f3ea15180d", func := "talik/taliklaw07.SeepProved", spec := "seepProved", unfollowed := true, recurses := true, plainKeys := false, apart := false }
def SeepProvedSaid : Prop := seepProvedRow.holds Try.pinned (OpenSpec.ofChange seepProvedSpec)

/-- ITS FALSE NEIGHBOUR: 'it returns false'. Refute it at one input. -/
def seepProvedWrong : ChangeSpec := { name := "seepProved", fn := fun _ => fun
  | [d1, d2, d3, d4] => { results := [.lit (.bool false)], args := [d1, d2, d3, d4] }
  | _ => none }
def SeepProvedWrongFalsely : Prop := seepProvedRow.holds Try.pinned (OpenSpec.ofChange seepProvedWrong)

/-- 'taliklaw07.SeepPours': WHATEVER THE INPUT: true; the input reads as it did. -/
def seepPoursSpec : ChangeSpec := { name := "seepPours", fn := fun _ => fun
  | [d1, d2] => { results := [.lit (.bool true)], args := [d1, d2] }
  | _ => none }
def seepPoursRow : OpenClaim := { program := "ytafkanmioinbiaa", sum := "8a2f57f75f41e2e159a306ad55752a239786c3dde653a31d66b9f0f3ea15180d", func := "talik/taliklaw07.SeepPours", spec := "seepPours", unfollowed := true, recurses := true, plainKeys := false, apart := false }
def SeepPoursSaid : Prop := seepPoursRow.holds Try.pinned (OpenSpec.ofChange seepPoursSpec)

/-- ITS FALSE NEIGHBOUR: 'it returns false'. Refute it at one input. -/
def seepPoursWrong : ChangeSpec := { name := "seepPours", fn := fun _ => fun
  | [d1, d2] => { results := [.lit (.bool false)], args := [d1, d2] }
  | _ => none }
def SeepPoursWrongFalsely : Prop := seepPoursRow.holds Try.pinned (OpenSpec.ofChange seepPoursWrong)

/-- 'taliklaw07.SeepLakes': WHATEVER THE INPUT: true; the input reads as it did. -/
def seepLakesSpec : ChangeSpec := { name := "seepLakes", fn := fun _ => fun
  | [d1, d2] => { results := [.lit (.bool true)], args := [d1, d2] }
  | _ => none }
def seepLakesRow : OpenClaim := { program := "ytafkanmioinbiaa", sum := "8a2f57f75f41e2e159a306ad55752a239786c3dde653a31d66b9f0f3ea15180d", func := "talik/taliklaw07.SeepLakes", spec := "seepLakes", unfollowed := true, recurses := true, plainKeys := false, apart := false }
def SeepLakesSaid : Prop := seepLakesRow.holds Try.pinned (OpenSpec.ofChange seepLakesSpec)

/-- ITS FALSE NEIGHBOUR: 'it returns false'. Refute it at one input. -/
def seepLakesWrong : ChangeSpec := { name := "seepLakes", fn := fun _ => fun
  | [d1, d2] => { results := [.lit (.bool false)], args := [d1, d2] }
  | _ => none }
def SeepLakesWrongFalsely : Prop := seepLakesRow.holds Try.pinned (OpenSpec.ofChange seepLakesWrong)

/-- 'taliklaw07.SeepMore': WHATEVER THE INPUT: true; the input reads as it did. -/
def seepMoreSpec : ChangeSpec := { name := "seepMore", fn := fun _ => fun
  | [d1, d2, d3, d4, d5] => { results := [.lit (.bool true)], args := [d1, d2, d3, d4, d5] }
  | _ => none }
def seepMoreRow : OpenClaim := { program := "ytafkanmioinbiaa", sum := "8a2f57f75f41e2e159a306ad55752a239786c3dde653a31d66b9f0f3ea15180d", func := "talik/taliklaw07.SeepMore", spec := "seepMore", unfollowed := true, recurses := true, plainKeys := false, apart := false }
def SeepMoreSaid : Prop := seepMoreRow.holds Try.pinned (OpenSpec.ofChange seepMoreSpec)

/-- ITS FALSE NEIGHBOUR: 'it returns false'. Refute it at one input. -/
def seepMoreWrong : ChangeSpec := { name := "seepMore", fn := fun _ => fun
  | [d1, d2, d3, d4, d5] => { results := [.lit (.bool false)], args := [d1, d2, d3, d4, d5] }
  | _ => none }
def SeepMoreWrongFalsely : Prop := seepMoreRow.holds Try.pinned (OpenSpec.ofChange seepMoreWrong)

/-- 'taliklaw07.SeepYears': WHATEVER THE INPUT: true; the input reads as it did. -/
def seepYearsSpec : ChangeSpec := { name := "seepYears", fn := fun _ => fun
  | [d1, d2] => { results := [.lit (.bool true)], args := [d1, d2] }
  | _ => none }
def seepYearsRow : OpenClaim := { program := "ytafkanmioinbiaa", sum := "8a2f57f75f41e2e159a306ad55752a239786c3dde653a31d66b9f0f3ea15180d", func := "talik/taliklaw07.SeepYears", spec := "seepYears", unfollowed := true, recurses := true, plainKeys := false, apart := false }
def SeepYearsSaid : Prop := seepYearsRow.holds Try.pinned (OpenSpec.ofChange seepYearsSpec)

/-- ITS FALSE NEIGHBOUR: 'it returns false'. Refute it at one input. -/
def seepYearsWrong : ChangeSpec := { name := "seepYears", fn := fun _ => fun
  | [d1, d2] => { results := [.lit (.bool false)], args := [d1, d2] }
  | _ => none }
def SeepYearsWrongFalsely : Prop := seepYearsRow.holds Try.pinned (OpenSpec.ofChange seepYearsWrong)

/- THE SECOND FORM. 'bulk': how many values and letters a reading holds, each counted each time it is reached (what is shared counts as often as it is met; a slice's spare places count too). A statement '..UptoSaid' is the law's where the arguments, and the package variables that the reading takes, are together of bulk at most 1048576: NARROWER than '..Said'. Prove '..Said' where nothing that the law and all that it calls make is longer than what came in: it says more and counts as full. Else prove '..UptoSaid'. A law counts once. -/
mutual
def uptoBulk {H : Type} : DataW H → Nat
  | .lit (.string bytes) => bytes.length + 1
  | .lit _ => 1
  | .nil => 1
  | .ptr d => uptoBulk d + 1
  | .slice elems spare => uptoBulkAll elems + uptoBulkAll spare + 1
  | .agg parts => uptoBulkAll parts + 1
  | .iface _ d => uptoBulk d + 1
  | .map entries => uptoBulkEntries entries + 1
  | .held _ => 1
def uptoBulkAll {H : Type} : List (DataW H) → Nat
  | [] => 0
  | d :: r => uptoBulk d + uptoBulkAll r
def uptoBulkEntries {H : Type} : List (Lit × DataW H) → Nat
  | [] => 0
  | x :: r => uptoBulkEntry x + uptoBulkEntries r
def uptoBulkEntry {H : Type} : Lit × DataW H → Nat
  | (.string bytes, d) => bytes.length + uptoBulk d + 1
  | (_, d) => uptoBulk d + 1
 end
def uptoSmall : (H : Type) → List (DataW H) → Bool := fun _ ds => decide (uptoBulkAll ds ≤ 1048576)
def OpenSpec.upto (s : _root_.Go.ChangeSpec) : _root_.Go.OpenSpec := { _root_.Go.OpenSpec.ofChange s with cond := some uptoSmall }

/-- 'taliklaw07.SeepPlays', WHERE WHAT IT READS IS OF BULK AT MOST 1048576: true; the input reads as it did. -/
def seepPlaysUptoRow : OpenClaim := { program := "ytafkanmioinbiaa", sum := "8a2f57f75f41e2e159a306ad55752a239786c3dde653a31d66b9f0f3ea15180d", func := "talik/taliklaw07.SeepPlays", spec := "seepPlays", unfollowed := true, recurses := true, plainKeys := false, apart := false, narrowed := true }
def SeepPlaysUptoSaid : Prop := seepPlaysUptoRow.holds Try.pinned (OpenSpec.upto seepPlaysSpec)

/-- 'taliklaw07.SeepTrue', WHERE WHAT IT READS IS OF BULK AT MOST 1048576: true; the input reads as it did. -/
def seepTrueUptoRow : OpenClaim := { program := "ytafkanmioinbiaa", sum := "8a2f57f75f41e2e159a306ad55752a239786c3dde653a31d66b9f0f3ea15180d", func := "talik/taliklaw07.SeepTrue", spec := "seepTrue", unfollowed := true, recurses := true, plainKeys := false, apart := false, narrowed := true }
def SeepTrueUptoSaid : Prop := seepTrueUptoRow.holds Try.pinned (OpenSpec.upto seepTrueSpec)

/-- 'taliklaw07.SeepFlows', WHERE WHAT IT READS IS OF BULK AT MOST 1048576: true; the input reads as it did. -/
def seepFlowsUptoRow : OpenClaim := { program := "ytafkanmioinbiaa", sum := "8a2f57f75f41e2e159a306ad55752a239786c3dde653a31d66b9f0f3ea15180d", func := "talik/taliklaw07.SeepFlows", spec := "seepFlows", unfollowed := true, recurses := true, plainKeys := false, apart := false, narrowed := true }
def SeepFlowsUptoSaid : Prop := seepFlowsUptoRow.holds Try.pinned (OpenSpec.upto seepFlowsSpec)

/-- 'taliklaw07.SeepRoutes', WHERE WHAT IT READS IS OF BULK AT MOST 1048576: true; the input reads as it did. -/
def seepRoutesUptoRow : OpenClaim := { program := "ytafkanmioinbiaa", sum := "8a2f57f75f41e2e159a306ad55752a239786c3dde653a31d66b9f0f3ea15180d", func := "talik/taliklaw07.SeepRoutes", spec := "seepRoutes", unfollowed := true, recurses := true, plainKeys := false, apart := false, narrowed := true }
def SeepRoutesUptoSaid : Prop := seepRoutesUptoRow.holds Try.pinned (OpenSpec.upto seepRoutesSpec)

/-- 'taliklaw07.SeepLed', WHERE WHAT IT READS IS OF BULK AT MOST 1048576: true; the input reads as it did. -/
def seepLedUptoRow : OpenClaim := { program := "ytafkanmioinbiaa", sum := "8a2f57f75f41e2e159a306ad55752a239786c3dde653a31d66b9f0f3ea15180d", func := "talik/taliklaw07.SeepLed", spec := "seepLed", unfollowed := true, recurses := true, plainKeys := false, apart := false, narrowed := true }
def SeepLedUptoSaid : Prop := seepLedUptoRow.holds Try.pinned (OpenSpec.upto seepLedSpec)

/-- 'taliklaw07.SeepDykes', WHERE WHAT IT READS IS OF BULK AT MOST 1048576: true; the input reads as it did. -/
def seepDykesUptoRow : OpenClaim := { program := "ytafkanmioinbiaa", sum := "8a2f57f75f41e2e159a306ad55752a239786c3dde653a31d66b9f0f3ea15180d", func := "talik/taliklaw07.SeepDykes", spec := "seepDykes", unfollowed := true, recurses := true, plainKeys := false, apart := false, narrowed := true }
def SeepDykesUptoSaid : Prop := seepDykesUptoRow.holds Try.pinned (OpenSpec.upto seepDykesSpec)

/-- 'taliklaw07.SeepRivals', WHERE WHAT IT READS IS OF BULK AT MOST 1048576: true; the input reads as it did. -/
def seepRivalsUptoRow : OpenClaim := { program := "ytafkanmioinbiaa", sum := "8a2f57f75f41e2e159a306ad55752a239786c3dde653a31d66b9f0f3ea15180d", func := "talik/taliklaw07.SeepRivals", spec := "seepRivals", unfollowed := true, recurses := true, plainKeys := false, apart := false, narrowed := true }
def SeepRivalsUptoSaid : Prop := seepRivalsUptoRow.holds Try.pinned (OpenSpec.upto seepRivalsSpec)

/-- 'taliklaw07.SeepFloors', WHERE WHAT IT READS IS OF BULK AT MOST 1048576: true; the input reads as it did. -/
def seepFloorsUptoRow : OpenClaim := { program := "ytafkanmioinbiaa", sum := "8a2f57f75f41e2e159a306ad55752a239786c3dde653a31d66b9f0f3ea15180d", func := "talik/taliklaw07.SeepFloors", spec := "seepFloors", unfollowed := true, recurses := true, plainKeys := false, apart := false, narrowed := true }
def SeepFloorsUptoSaid : Prop := seepFloorsUptoRow.holds Try.pinned (OpenSpec.upto seepFloorsSpec)

/-- 'taliklaw07.SeepProved', WHERE WHAT IT READS IS OF BULK AT MOST 1048576: true; the input reads as it did. -/
def seepProvedUptoRow : OpenClaim := { program := "ytafkanmioinbiaa", sum := "8a2f57f75f41e2e159a306ad55752a239786c3dde653a31d66b9f0f3ea15180d", func := "talik/taliklaw07.SeepProved", spec := "seepProved", unfollowed := true, recurses := true, plainKeys := false, apart := false, narrowed := true }
def SeepProvedUptoSaid : Prop := seepProvedUptoRow.holds Try.pinned (OpenSpec.upto seepProvedSpec)

/-- 'taliklaw07.SeepPours', WHERE WHAT IT READS IS OF BULK AT MOST 1048576: true; the input reads as it did. -/
def seepPoursUptoRow : OpenClaim := { program := "ytafkanmioinbiaa", sum := "8a2f57f75f41e2e159a306ad55752a239786c3dde653a31d66b9f0f3ea15180d", func := "talik/taliklaw07.SeepPours", spec := "seepPours", unfollowed := true, recurses := true, plainKeys := false, apart := false, narrowed := true }
def SeepPoursUptoSaid : Prop := seepPoursUptoRow.holds Try.pinned (OpenSpec.upto seepPoursSpec)

/-- 'taliklaw07.SeepLakes', WHERE WHAT IT READS IS OF BULK AT MOST 1048576: true; the input reads as it did. -/
def seepLakesUptoRow : OpenClaim := { program := "ytafkanmioinbiaa", sum := "8a2f57f75f41e2e159a306ad55752a239786c3dde653a31d66b9f0f3ea15180d", func := "talik/taliklaw07.SeepLakes", spec := "seepLakes", unfollowed := true, recurses := true, plainKeys := false, apart := false, narrowed := true }
def SeepLakesUptoSaid : Prop := seepLakesUptoRow.holds Try.pinned (OpenSpec.upto seepLakesSpec)

/-- 'taliklaw07.SeepMore', WHERE WHAT IT READS IS OF BULK AT MOST 1048576: true; the input reads as it did. -/
def seepMoreUptoRow : OpenClaim := { program := "ytafkanmioinbiaa", sum := "8a2f57f75f41e2e159a306ad55752a239786c3dde653a31d66b9f0f3ea15180d", func := "talik/taliklaw07.SeepMore", spec := "seepMore", unfollowed := true, recurses := true, plainKeys := false, apart := false, narrowed := true }
def SeepMoreUptoSaid : Prop := seepMoreUptoRow.holds Try.pinned (OpenSpec.upto seepMoreSpec)

/-- 'taliklaw07.SeepYears', WHERE WHAT IT READS IS OF BULK AT MOST 1048576: true; the input reads as it did. -/
def seepYearsUptoRow : OpenClaim := { program := "ytafkanmioinbiaa", sum := "8a2f57f75f41e2e159a306ad55752a239786c3dde653a31d66b9f0f3ea15180d", func := "talik/taliklaw07.SeepYears", spec := "seepYears", unfollowed := true, recurses := true, plainKeys := false, apart := false, narrowed := true }
def SeepYearsUptoSaid : Prop := seepYearsUptoRow.holds Try.pinned (OpenSpec.upto seepYearsSpec)

end Rows
end Go.Proofs.Ytafkanmioinbiaa
