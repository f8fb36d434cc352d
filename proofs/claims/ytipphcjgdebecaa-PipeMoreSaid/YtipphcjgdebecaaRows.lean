/-
  No cell of these rows narrows 'for every input' (looked for: loops, veiled, ifaces, maps, wideKeys, modest, calm, conditions, laid).
  DERIVED. THE GIVEN ROWS OF THIS SEAT. 13 by the template 'for every input the law returns true; each argument reads behind the call as it read before'; 0 by the template 'total and deterministic' (their statements: YtipphcjgdebecaaTotals.lean).
  GIVEN WITH THE SEED: the statements are not yours to turn. If you find one false, say at which input.
  Laid BY PROGRAM, IN A SANDBOX (cutbox-rows.mjs): the forced cells as the released guide's own fill.sh prints them over the translation 3fd5eb4a9c66055a… (all of the seat's roots in one cut). By AI agents, Wed Nov 11 2026. No macro, syntax, notation, axiom, sorry.
-/
import Derived.Test.YtipphcjgdebecaaChecked
import GoSem.Claim
import GoSem.ClaimJoined
import GoSem.ClaimMapViews
import Derived.JoinedTies
import Derived.KernelRfl
namespace Go.Proofs.Ytipphcjgdebecaa
/- THE CELL 'sum', in the pinned program and in every row, IS THE sha256 OF THE DUMP (.gsa) THAT YtipphcjgdebecaaProg.lean LOADS. Nothing in Lean hashes anything: it is a label: what it is worth is what the hold of that sum in a sandbox is worth. -/
noncomputable def Try.pinned : Pinned := { name := "ytipphcjgdebecaa", sum := "3fd5eb4a9c66055a338a19801a6cecc221c1834f0a0c04c782083dab14e298bf", checked := Try.checked }
namespace Rows
def none {H : Type} : Left H := { results := [], args := [] }

/-- 'taliklaw04.PipePlays': WHATEVER THE INPUT: true; the input reads as it did. -/
def pipePlaysSpec : ChangeSpec := { name := "pipePlays", fn := fun _ => fun
  | [d1, d2, d3, d4] => { results := [.lit (.bool true)], args := [d1, d2, d3, d4] }
  | _ => none }
def pipePlaysRow : OpenClaim := { program := "ytipphcjgdebecaa", sum := "3fd5eb4a9c66055a338a19801a6cecc221c1834f0a0c04c782083dab14e298bf", func := "talik/taliklaw04.PipePlays", spec := "pipePlays", unfollowed := true, recurses := true, plainKeys := false, apart := false }
def PipePlaysSaid : Prop := pipePlaysRow.holds Try.pinned (OpenSpec.ofChange pipePlaysSpec)

/-- ITS FALSE NEIGHBOUR: 'it returns false'. Refute it at one input. -/
def pipePlaysWrong : ChangeSpec := { name := "pipePlays", fn := fun _ => fun
  | [d1, d2, d3, d4] => { results := [.lit (.bool false)], args := [d1, d2, d3, d4] }
  | _ => none }
def PipePlaysWrongFalsely : Prop := pipePlaysRow.holds Try.pinned (OpenSpec.ofChange pipePlaysWrong)

/-- 'taliklaw04.PipeBalance': WHATEVER THE INPUT: true; the input reads as it did. -/
def pipeBalanceSpec : ChangeSpec := { name := "pipeBalance", fn := fun _ => fun
  | [d1, d2, d3, d4, d5] => { results := [.lit (.bool true)], args := [d1, d2, d3, d4, d5] }
  | _ => none }
def pipeBalanceRow : OpenClaim := { program := "ytipphcjgdebecaa", sum := "3fd5eb4a9c66055a338a19801a6cecc221c1834f0a0c04c782083dab14e298bf", func := "talik/taliklaw04.PipeBalance", spec := "pipeBalance", unfollowed := true, recurses := true, plainKeys := false, apart := false }
def PipeBalanceSaid : Prop := pipeBalanceRow.holds Try.pinned (OpenSpec.ofChange pipeBalanceSpec)

/-- ITS FALSE NEIGHBOUR: 'it returns false'. Refute it at one input. -/
def pipeBalanceWrong : ChangeSpec := { name := "pipeBalance", fn := fun _ => fun
  | [d1, d2, d3, d4, d5] => { results := [.lit (.bool false)], args := [d1, d2, d3, d4, d5] }
  | _ => none }
def PipeBalanceWrongFalsely : Prop := pipeBalanceRow.holds Try.pinned (OpenSpec.ofChange pipeBalanceWrong)

/-- 'taliklaw04.PipeOrders': WHATEVER THE INPUT: true; the input reads as it did. -/
def pipeOrdersSpec : ChangeSpec := { name := "pipeOrders", fn := fun _ => fun
  | [d1, d2, d3] => { results := [.lit (.bool true)], args := [d1, d2, d3] }
  | _ => none }
def pipeOrdersRow : OpenClaim := { program := "ytipphcjgdebecaa", sum := "3fd5eb4a9c66055a338a19801a6cecc221c1834f0a0c04c782083dab14e298bf", func := "talik/taliklaw04.PipeOrders", spec := "pipeOrders", unfollowed := true, recurses := true, plainKeys := false, apart := false }
def PipeOrdersSaid : Prop := pipeOrdersRow.holds Try.pinned (OpenSpec.ofChange pipeOrdersSpec)

/-- ITS FALSE NEIGHBOUR: 'it returns false'. Refute it at one input. -/
def pipeOrdersWrong : ChangeSpec := { name := "pipeOrders", fn := fun _ => fun
  | [d1, d2, d3] => { results := [.lit (.bool false)], args := [d1, d2, d3] }
  | _ => none }
def PipeOrdersWrongFalsely : Prop := pipeOrdersRow.holds Try.pinned (OpenSpec.ofChange pipeOrdersWrong)

/-- 'taliklaw04.PipeRivals': WHATEVER THE INPUT: true; the input reads as it did. -/
def pipeRivalsSpec : ChangeSpec := { name := "pipeRivals", fn := fun _ => fun
  | [d1, d2, d3, d4] => { results := [.lit (.bool true)], args := [d1, d2, d3, d4] }
  | _ => none }
def pipeRivalsRow : OpenClaim := { program := "ytipphcjgdebecaa", sum := "3fd5eb4a9c66055a338a19801a6cecc221c1834f0a0c04c782083dab14e298bf", func := "talik/taliklaw04.PipeRivals", spec := "pipeRivals", unfollowed := true, recurses := true, plainKeys := false, apart := false }
def PipeRivalsSaid : Prop := pipeRivalsRow.holds Try.pinned (OpenSpec.ofChange pipeRivalsSpec)

/-- ITS FALSE NEIGHBOUR: 'it returns false'. Refute it at one input. -/
def pipeRivalsWrong : ChangeSpec := { name := "pipeRivals", fn := fun _ => fun
  | [d1, d2, d3, d4] => { results := [.lit (.bool false)], args := [d1, d2, d3, d4] }
  | _ => none }
def PipeRivalsWrongFalsely : Prop := pipeRivalsRow.holds Try.pinned (OpenSpec.ofChange pipeRivalsWrong)

/-- 'taliklaw04.PipeInTime': WHATEVER THE INPUT: true; the input reads as it did. -/
def pipeInTimeSpec : ChangeSpec := { name := "pipeInTime", fn := fun _ => fun
  | [d1, d2, d3, d4, d5] => { results := [.lit (.bool true)], args := [d1, d2, d3, d4, d5] }
  | _ => none }
def pipeInTimeRow : OpenClaim := { program := "ytipphcjgdebecaa", sum := "3fd5eb4a9c66055a338a19801a6cecc221c1834f0a0c04c782083dab14e298bf", func := "talik/taliklaw04.PipeInTime", spec := "pipeInTime", unfollowed := true, recurses := true, plainKeys := false, apart := false }
def PipeInTimeSaid : Prop := pipeInTimeRow.holds Try.pinned (OpenSpec.ofChange pipeInTimeSpec)

/-- ITS FALSE NEIGHBOUR: 'it returns false'. Refute it at one input. -/
def pipeInTimeWrong : ChangeSpec := { name := "pipeInTime", fn := fun _ => fun
  | [d1, d2, d3, d4, d5] => { results := [.lit (.bool false)], args := [d1, d2, d3, d4, d5] }
  | _ => none }
def PipeInTimeWrongFalsely : Prop := pipeInTimeRow.holds Try.pinned (OpenSpec.ofChange pipeInTimeWrong)

/-- 'taliklaw04.PipePosted': WHATEVER THE INPUT: true; the input reads as it did. -/
def pipePostedSpec : ChangeSpec := { name := "pipePosted", fn := fun _ => fun
  | [d1, d2, d3] => { results := [.lit (.bool true)], args := [d1, d2, d3] }
  | _ => none }
def pipePostedRow : OpenClaim := { program := "ytipphcjgdebecaa", sum := "3fd5eb4a9c66055a338a19801a6cecc221c1834f0a0c04c782083dab14e298bf", func := "talik/taliklaw04.PipePosted", spec := "pipePosted", unfollowed := true, recurses := true, plainKeys := false, apart := false }
def PipePostedSaid : Prop := pipePostedRow.holds Try.pinned (OpenSpec.ofChange pipePostedSpec)

/-- ITS FALSE NEIGHBOUR: 'it returns false'. Refute it at one input. -/
def pipePostedWrong : ChangeSpec := { name := "pipePosted", fn := fun _ => fun
  | [d1, d2, d3] => { results := [.lit (.bool false)], args := [d1, d2, d3] }
  | _ => none }
def PipePostedWrongFalsely : Prop := pipePostedRow.holds Try.pinned (OpenSpec.ofChange pipePostedWrong)

/-- 'taliklaw04.PipeWraps': WHATEVER THE INPUT: true; the input reads as it did. -/
def pipeWrapsSpec : ChangeSpec := { name := "pipeWraps", fn := fun _ => fun
  | [d1, d2, d3] => { results := [.lit (.bool true)], args := [d1, d2, d3] }
  | _ => none }
def pipeWrapsRow : OpenClaim := { program := "ytipphcjgdebecaa", sum := "3fd5eb4a9c66055a338a19801a6cecc221c1834f0a0c04c782083dab14e298bf", func := "talik/taliklaw04.PipeWraps", spec := "pipeWraps", unfollowed := true, recurses := true, plainKeys := false, apart := false }
def PipeWrapsSaid : Prop := pipeWrapsRow.holds Try.pinned (OpenSpec.ofChange pipeWrapsSpec)

/-- ITS FALSE NEIGHBOUR: 'it returns false'. Refute it at one input. -/
def pipeWrapsWrong : ChangeSpec := { name := "pipeWraps", fn := fun _ => fun
  | [d1, d2, d3] => { results := [.lit (.bool false)], args := [d1, d2, d3] }
  | _ => none }
def PipeWrapsWrongFalsely : Prop := pipeWrapsRow.holds Try.pinned (OpenSpec.ofChange pipeWrapsWrong)

/-- 'taliklaw04.PipeMore': WHATEVER THE INPUT: true; the input reads as it did. -/
def pipeMoreSpec : ChangeSpec := { name := "pipeMore", fn := fun _ => fun
  | [d1, d2, d3, d4, d5, d6] => { results := [.lit (.bool true)], args := [d1, d2, d3, d4, d5, d6] }
  | _ => none }
def pipeMoreRow : OpenClaim := { program := "ytipphcjgdebecaa", sum := "3fd5eb4a9c66055a338a19801a6cecc221c1834f0a0c04c782083dab14e298bf", func := "talik/taliklaw04.PipeMore", spec := "pipeMore", unfollowed := true, recurses := true, plainKeys := false, apart := false }
def PipeMoreSaid : Prop := pipeMoreRow.holds Try.pinned (OpenSpec.ofChange pipeMoreSpec)

/-- ITS FALSE NEIGHBOUR: 'it returns false'. Refute it at one input. -/
def pipeMoreWrong : ChangeSpec := { name := "pipeMore", fn := fun _ => fun
  | [d1, d2, d3, d4, d5, d6] => { results := [.lit (.bool false)], args := [d1, d2, d3, d4, d5, d6] }
  | _ => none }
def PipeMoreWrongFalsely : Prop := pipeMoreRow.holds Try.pinned (OpenSpec.ofChange pipeMoreWrong)

/-- 'taliklaw04.PipeWeaks': WHATEVER THE INPUT: true; the input reads as it did. -/
def pipeWeaksSpec : ChangeSpec := { name := "pipeWeaks", fn := fun _ => fun
  | [d1, d2, d3] => { results := [.lit (.bool true)], args := [d1, d2, d3] }
  | _ => none }
def pipeWeaksRow : OpenClaim := { program := "ytipphcjgdebecaa", sum := "3fd5eb4a9c66055a338a19801a6cecc221c1834f0a0c04c782083dab14e298bf", func := "talik/taliklaw04.PipeWeaks", spec := "pipeWeaks", unfollowed := true, recurses := true, plainKeys := false, apart := false }
def PipeWeaksSaid : Prop := pipeWeaksRow.holds Try.pinned (OpenSpec.ofChange pipeWeaksSpec)

/-- ITS FALSE NEIGHBOUR: 'it returns false'. Refute it at one input. -/
def pipeWeaksWrong : ChangeSpec := { name := "pipeWeaks", fn := fun _ => fun
  | [d1, d2, d3] => { results := [.lit (.bool false)], args := [d1, d2, d3] }
  | _ => none }
def PipeWeaksWrongFalsely : Prop := pipeWeaksRow.holds Try.pinned (OpenSpec.ofChange pipeWeaksWrong)

/-- 'taliklaw04.PipeWrapped': WHATEVER THE INPUT: true; the input reads as it did. -/
def pipeWrappedSpec : ChangeSpec := { name := "pipeWrapped", fn := fun _ => fun
  | [d1, d2, d3, d4] => { results := [.lit (.bool true)], args := [d1, d2, d3, d4] }
  | _ => none }
def pipeWrappedRow : OpenClaim := { program := "ytipphcjgdebecaa", sum := "3fd5eb4a9c66055a338a19801a6cecc221c1834f0a0c04c782083dab14e298bf", func := "talik/taliklaw04.PipeWrapped", spec := "pipeWrapped", unfollowed := true, recurses := true, plainKeys := false, apart := false }
def PipeWrappedSaid : Prop := pipeWrappedRow.holds Try.pinned (OpenSpec.ofChange pipeWrappedSpec)

/-- ITS FALSE NEIGHBOUR: 'it returns false'. Refute it at one input. -/
def pipeWrappedWrong : ChangeSpec := { name := "pipeWrapped", fn := fun _ => fun
  | [d1, d2, d3, d4] => { results := [.lit (.bool false)], args := [d1, d2, d3, d4] }
  | _ => none }
def PipeWrappedWrongFalsely : Prop := pipeWrappedRow.holds Try.pinned (OpenSpec.ofChange pipeWrappedWrong)

/-- 'taliklaw04.PipeTrue': WHATEVER THE INPUT: true; the input reads as it did. -/
def pipeTrueSpec : ChangeSpec := { name := "pipeTrue", fn := fun _ => fun
  | [d1, d2, d3, d4] => { results := [.lit (.bool true)], args := [d1, d2, d3, d4] }
  | _ => none }
def pipeTrueRow : OpenClaim := { program := "ytipphcjgdebecaa", sum := "3fd5eb4a9c66055a338a19801a6cecc221c1834f0a0c04c782083dab14e298bf", func := "talik/taliklaw04.PipeTrue", spec := "pipeTrue", unfollowed := true, recurses := true, plainKeys := false, apart := false }
def PipeTrueSaid : Prop := pipeTrueRow.holds Try.pinned (OpenSpec.ofChange pipeTrueSpec)

/-- ITS FALSE NEIGHBOUR: 'it returns false'. Refute it at one input. -/
def pipeTrueWrong : ChangeSpec := { name := "pipeTrue", fn := fun _ => fun
  | [d1, d2, d3, d4] => { results := [.lit (.bool false)], args := [d1, d2, d3, d4] }
  | _ => none }
def PipeTrueWrongFalsely : Prop := pipeTrueRow.holds Try.pinned (OpenSpec.ofChange pipeTrueWrong)

/-- 'taliklaw04.PipeSharp': WHATEVER THE INPUT: true; the input reads as it did. -/
def pipeSharpSpec : ChangeSpec := { name := "pipeSharp", fn := fun _ => fun
  | [d1, d2, d3] => { results := [.lit (.bool true)], args := [d1, d2, d3] }
  | _ => none }
def pipeSharpRow : OpenClaim := { program := "ytipphcjgdebecaa", sum := "3fd5eb4a9c66055a338a19801a6cecc221c1834f0a0c04c782083dab14e298bf", func := "talik/taliklaw04.PipeSharp", spec := "pipeSharp", unfollowed := true, recurses := true, plainKeys := false, apart := false }
def PipeSharpSaid : Prop := pipeSharpRow.holds Try.pinned (OpenSpec.ofChange pipeSharpSpec)

/-- ITS FALSE NEIGHBOUR: 'it returns false'. Refute it at one input. -/
def pipeSharpWrong : ChangeSpec := { name := "pipeSharp", fn := fun _ => fun
  | [d1, d2, d3] => { results := [.lit (.bool false)], args := [d1, d2, d3] }
  | _ => none }
def PipeSharpWrongFalsely : Prop := pipeSharpRow.holds Try.pinned (OpenSpec.ofChange pipeSharpWrong)

/-- 'taliklaw04.PipeWarms': WHATEVER THE INPUT: true; the input reads as it did. -/
def pipeWarmsSpec : ChangeSpec := { name := "pipeWarms", fn := fun _ => fun
  | [d1, d2] => { results := [.lit (.bool true)], args := [d1, d2] }
  | _ => none }
def pipeWarmsRow : OpenClaim := { program := "ytipphcjgdebecaa", sum := "3fd5eb4a9c66055a338a19801a6cecc221c1834f0a0c04c782083dab14e298bf", func := "talik/taliklaw04.PipeWarms", spec := "pipeWarms", unfollowed := true, recurses := true, plainKeys := false, apart := false }
def PipeWarmsSaid : Prop := pipeWarmsRow.holds Try.pinned (OpenSpec.ofChange pipeWarmsSpec)

/-- ITS FALSE NEIGHBOUR: 'it returns false'. Refute it at one input. -/
def pipeWarmsWrong : ChangeSpec := { name := "pipeWarms", fn := fun _ => fun
  | [d1, d2] => { results := [.lit (.bool false)], args := [d1, d2] }
  | _ => none }
def PipeWarmsWrongFalsely : Prop := pipeWarmsRow.holds Try.pinned (OpenSpec.ofChange pipeWarmsWrong)

/- THE SECOND FORM. 'bulk': how many values and letters a reading holds, each counted each time it is reached (what is shared counts as often as it is met; a slice's spare places count too). A statement '..UptoSaid' is the law's where the arguments, and the package variables that the reading takes, are together of bulk at most 1048576: NARROWER than '..Said'. Prove '..Said' where nothing that the law and all that it calls make is longer than what came in: it says more and counts as full. Else prove '..UptoSaid'. A law counts once. -/
mutual
def uptoBulk {H : Type} : DataW H → Nat
  | .lit (.string bytes) => bytes.length + 1
  | .lit _ => 1
  | .nil => 1
  | .ptr d => uptoBulk d + 1
  | .slice elems spare => uptoBulkAll elems + uptoBulkAll spare + 1
  | .agg parts => uptoBulkAll parts + 1
  | .iface _ d => uptoBulk d + 1
  | .map entries => uptoBulkEntries entries + 1
  | .held _ => 1
def uptoBulkAll {H : Type} : List (DataW H) → Nat
  | [] => 0
  | d :: r => uptoBulk d + uptoBulkAll r
def uptoBulkEntries {H : Type} : List (Lit × DataW H) → Nat
  | [] => 0
  | x :: r => uptoBulkEntry x + uptoBulkEntries r
def uptoBulkEntry {H : Type} : Lit × DataW H → Nat
  | (.string bytes, d) => bytes.length + uptoBulk d + 1
  | (_, d) => uptoBulk d + 1
 end
def uptoSmall : (H : Type) → List (DataW H) → Bool := fun _ ds => decide (uptoBulkAll ds ≤ 1048576)
def OpenSpec.upto (s : _root_.Go.ChangeSpec) : _root_.Go.OpenSpec := { _root_.Go.OpenSpec.ofChange s with cond := some uptoSmall }

/-- 'taliklaw04.PipePlays', WHERE WHAT IT READS IS OF BULK AT MOST 1048576: true; the input reads as it did. -/
def pipePlaysUptoRow : OpenClaim := { program := "ytipphcjgdebecaa", sum := "3fd5eb4a9c66055a338a19801a6cecc221c1834f0a0c04c782083dab14e298bf", func := "talik/taliklaw04.PipePlays", spec := "pipePlays", unfollowed := true, recurses := true, plainKeys := false, apart := false, narrowed := true }
def PipePlaysUptoSaid : Prop := pipePlaysUptoRow.holds Try.pinned (OpenSpec.upto pipePlaysSpec)

/-- 'taliklaw04.PipeBalance', WHERE WHAT IT READS IS OF BULK AT MOST 1048576: true; the input reads as it did. -/
def pipeBalanceUptoRow : OpenClaim := { program := "ytipphcjgdebecaa", sum := "3fd5eb4a9c66055a338a19801a6cecc221c1834f0a0c04c782083dab14e298bf", func := "talik/taliklaw04.PipeBalance", spec := "pipeBalance", unfollowed := true, recurses := true, plainKeys := false, apart := false, narrowed := true }
def PipeBalanceUptoSaid : Prop := pipeBalanceUptoRow.holds Try.pinned (OpenSpec.upto pipeBalanceSpec)

/-- 'taliklaw04.PipeOrders', WHERE WHAT IT READS IS OF BULK AT MOST 1048576: true; the input reads as it did. -/
def pipeOrdersUptoRow : OpenClaim := { program := "ytipphcjgdebecaa", sum := "3fd5eb4a9c66055a338a19801a6cecc221c1834f0a0c04c782083dab14e298bf", func := "talik/taliklaw04.PipeOrders", spec := "pipeOrders", unfollowed := true, recurses := true, plainKeys := false, apart := false, narrowed := true }
def PipeOrdersUptoSaid : Prop := pipeOrdersUptoRow.holds Try.pinned (OpenSpec.upto pipeOrdersSpec)

/-- 'taliklaw04.PipeRivals', WHERE WHAT IT READS IS OF BULK AT MOST 1048576: true; the input reads as it did. -/
def pipeRivalsUptoRow : OpenClaim := { program := "ytipphcjgdebecaa", sum := "3fd5eb4a9c66055a338a19801a6cecc221c1834f0a0c04c782083dab14e298bf", func := "talik/taliklaw04.PipeRivals", spec := "pipeRivals", unfollowed := true, recurses := true, plainKeys := false, apart := false, narrowed := true }
def PipeRivalsUptoSaid : Prop := pipeRivalsUptoRow.holds Try.pinned (OpenSpec.upto pipeRivalsSpec)

/-- 'taliklaw04.PipeInTime', WHERE WHAT IT READS IS OF BULK AT MOST 1048576: true; the input reads as it did. -/
def pipeInTimeUptoRow : OpenClaim := { program := "ytipphcjgdebecaa", sum := "3fd5eb4a9c66055a338a19801a6cecc221c1834f0a0c04c782083dab14e298bf", func := "talik/taliklaw04.PipeInTime", spec := "pipeInTime", unfollowed := true, recurses := true, plainKeys := false, apart := false, narrowed := true }
def PipeInTimeUptoSaid : Prop := pipeInTimeUptoRow.holds Try.pinned (OpenSpec.upto pipeInTimeSpec)

/-- 'taliklaw04.PipePosted', WHERE WHAT IT READS IS OF BULK AT MOST 1048576: true; the input reads as it did. -/
def pipePostedUptoRow : OpenClaim := { program := "ytipphcjgdebecaa", sum := "3fd5eb4a9c66055a338a19801a6cecc221c1834f0a0c04c782083dab14e298bf", func := "talik/taliklaw04.PipePosted", spec := "pipePosted", unfollowed := true, recurses := true, plainKeys := false, apart := false, narrowed := true }
def PipePostedUptoSaid : Prop := pipePostedUptoRow.holds Try.pinned (OpenSpec.upto pipePostedSpec)

/-- 'taliklaw04.PipeWraps', WHERE WHAT IT READS IS OF BULK AT MOST 1048576: true; the input reads as it did. -/
def pipeWrapsUptoRow : OpenClaim := { program := "ytipphcjgdebecaa", sum := "3fd5eb4a9c66055a338a19801a6cecc221c1834f0a0c04c782083dab14e298bf", func := "talik/taliklaw04.PipeWraps", spec := "pipeWraps", unfollowed := true, recurses := true, plainKeys := false, apart := false, narrowed := true }
def PipeWrapsUptoSaid : Prop := pipeWrapsUptoRow.holds Try.pinned (OpenSpec.upto pipeWrapsSpec)

/-- 'taliklaw04.PipeMore', WHERE WHAT IT READS IS OF BULK AT MOST 1048576: true; the input reads as it did. -/
def pipeMoreUptoRow : OpenClaim := { program := "ytipphcjgdebecaa", sum := "3fd5eb4a9c66055a338a19801a6cecc221c1834f0a0c04c782083dab14e298bf", func := "talik/taliklaw04.PipeMore", spec := "pipeMore", unfollowed := true, recurses := true, plainKeys := false, apart := false, narrowed := true }
def PipeMoreUptoSaid : Prop := pipeMoreUptoRow.holds Try.pinned (OpenSpec.upto pipeMoreSpec)

/-- 'taliklaw04.PipeWeaks', WHERE WHAT IT READS IS OF BULK AT MOST 1048576: true; the input reads as it did. -/
def pipeWeaksUptoRow : OpenClaim := { program := "ytipphcjgdebecaa", sum := "3fd5eb4a9c66055a338a19801a6cecc221c1834f0a0c04c782083dab14e298bf", func := "talik/taliklaw04.PipeWeaks", spec := "pipeWeaks", unfollowed := true, recurses := true, plainKeys := false, apart := false, narrowed := true }
def PipeWeaksUptoSaid : Prop := pipeWeaksUptoRow.holds Try.pinned (OpenSpec.upto pipeWeaksSpec)

/-- 'taliklaw04.PipeWrapped', WHERE WHAT IT READS IS OF BULK AT MOST 1048576: true; the input reads as it did. -/
def pipeWrappedUptoRow : OpenClaim := { program := "ytipphcjgdebecaa", sum := "3fd5eb4a9c66055a338a19801a6cecc221c1834f0a0c04c782083dab14e298bf", func := "talik/taliklaw04.PipeWrapped", spec := "pipeWrapped", unfollowed := true, recurses := true, plainKeys := false, apart := false, narrowed := true }
def PipeWrappedUptoSaid : Prop := pipeWrappedUptoRow.holds Try.pinned (OpenSpec.upto pipeWrappedSpec)

/-- 'taliklaw04.PipeTrue', WHERE WHAT IT READS IS OF BULK AT MOST 1048576: true; the input reads as it did. -/
def pipeTrueUptoRow : OpenClaim := { program := "ytipphcjgdebecaa", sum := "3fd5eb4a9c66055a338a19801a6cecc221c1834f0a0c04c782083dab14e298bf", func := "talik/taliklaw04.PipeTrue", spec := "pipeTrue", unfollowed := true, recurses := true, plainKeys := false, apart := false, narrowed := true }
def PipeTrueUptoSaid : Prop := pipeTrueUptoRow.holds Try.pinned (OpenSpec.upto pipeTrueSpec)

/-- 'taliklaw04.PipeSharp', WHERE WHAT IT READS IS OF BULK AT MOST 1048576: true; the input reads as it did. -/
def pipeSharpUptoRow : OpenClaim := { program := "ytipphcjgdebecaa", sum := "3fd5eb4a9c66055a338a19801a6cecc221c1834f0a0c04c782083dab14e298bf", func := "talik/taliklaw04.PipeSharp", spec := "pipeSharp", unfollowed := true, recurses := true, plainKeys := false, apart := false, narrowed := true }
def PipeSharpUptoSaid : Prop := pipeSharpUptoRow.holds Try.pinned (OpenSpec.upto pipeSharpSpec)

/-- 'taliklaw04.PipeWarms', WHERE WHAT IT READS IS OF BULK AT MOST 1048576: true; the input reads as it did. -/
def pipeWarmsUptoRow : OpenClaim := { program := "ytipphcjgdebecaa", sum := "3fd5eb4a9c66055a338a19801a6cecc221c1834f0a0c04c782083dab14e298bf", func := "talik/taliklaw04.PipeWarms", spec := "pipeWarms", unfollowed := true, recurses := true, plainKeys := false, apart := false, narrowed := true }
def PipeWarmsUptoSaid : Prop := pipeWarmsUptoRow.holds Try.pinned (OpenSpec.upto pipeWarmsSpec)

end Rows
end Go.Proofs.Ytipphcjgdebecaa
