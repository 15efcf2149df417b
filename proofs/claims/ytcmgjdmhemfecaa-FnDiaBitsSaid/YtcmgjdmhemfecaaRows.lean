/-
  No cell of these rows narrows 'for every input' (looked for: loops, veiled, ifaces, maps, wideKeys, modest, calm, conditions, laid).
  DERIVED. THE GIVEN ROWS OF THIS SEAT. 22 by the template 'for every input the law returns true; each argument reads behind the call as it read before'; 0 by the template 'total and deterministic' (their statements: YtcmgjdmhemfecaaTotals.lean).
  GIVEN WITH THE SEED: the statements are not yours to turn. If you find one false, say at which input.
  Laid BY PROGRAM, IN A SANDBOX (cutbox-rows.mjs): the forced cells as the released guide's own fill.sh prints them over the translation a8f65435d2a1b2d2… (all of the seat's roots in one cut). By AI agents, Wed Nov 11 2026. No macro, syntax, notation, axiom, sorry.
-/
import Derived.Test.YtcmgjdmhemfecaaChecked
import GoSem.Claim
import GoSem.ClaimJoined
import GoSem.ClaimMapViews
import Derived.JoinedTies
import Derived.KernelRfl
namespace Go.Proofs.Ytcmgjdmhemfecaa
/- THE CELL 'sum', in the pinned program and in every row, IS THE sha256 OF THE DUMP (.gsa) THAT YtcmgjdmhemfecaaProg.lean LOADS. Nothing in Lean hashes anything: it is a label: what it is worth is what the hold of that sum in a sandbox is worth. -/
noncomputable def Try.pinned : Pinned := { name := "ytcmgjdmhemfecaa", sum := "a8f65435d2a1b2d2799e408cfbfff00210821c9f9ab044bd8992fdd65153bf38", checked := Try.checked }
namespace Rows
def none {H : Type} : Left H := { results := [], args := [] }

/-- 'laws.FnExactVarDia': WHATEVER THE INPUT: true; the input reads as it did. -/
def fnExactVarDiaSpec : ChangeSpec := { name := "fnExactVarDia", fn := fun _ => fun
  | [d1, d2] => { results := [.lit (.bool true)], args := [d1, d2] }
  | _ => none }
def fnExactVarDiaRow : OpenClaim := { program := "ytcmgjdmhemfecaa", sum := "a8f65435d2a1b2d2799e408cfbfff00210821c9f9ab044bd8992fdd65153bf38", func := "loop.example/g00697/laws.FnExactVarDia", spec := "fnExactVarDia", plainKeys := false, apart := false }
def FnExactVarDiaSaid : Prop := fnExactVarDiaRow.holds Try.pinned (OpenSpec.ofChange fnExactVarDiaSpec)

/-- ITS FALSE NEIGHBOUR: 'it returns false'. Refute it at one input. -/
def fnExactVarDiaWrong : ChangeSpec := { name := "fnExactVarDia", fn := fun _ => fun
  | [d1, d2] => { results := [.lit (.bool false)], args := [d1, d2] }
  | _ => none }
def FnExactVarDiaWrongFalsely : Prop := fnExactVarDiaRow.holds Try.pinned (OpenSpec.ofChange fnExactVarDiaWrong)

/-- 'laws.FnExactConstDia': WHATEVER THE INPUT: true; the input reads as it did. -/
def fnExactConstDiaSpec : ChangeSpec := { name := "fnExactConstDia", fn := fun _ => fun
  | [d1, d2] => { results := [.lit (.bool true)], args := [d1, d2] }
  | _ => none }
def fnExactConstDiaRow : OpenClaim := { program := "ytcmgjdmhemfecaa", sum := "a8f65435d2a1b2d2799e408cfbfff00210821c9f9ab044bd8992fdd65153bf38", func := "loop.example/g00697/laws.FnExactConstDia", spec := "fnExactConstDia", plainKeys := false, apart := false }
def FnExactConstDiaSaid : Prop := fnExactConstDiaRow.holds Try.pinned (OpenSpec.ofChange fnExactConstDiaSpec)

/-- ITS FALSE NEIGHBOUR: 'it returns false'. Refute it at one input. -/
def fnExactConstDiaWrong : ChangeSpec := { name := "fnExactConstDia", fn := fun _ => fun
  | [d1, d2] => { results := [.lit (.bool false)], args := [d1, d2] }
  | _ => none }
def FnExactConstDiaWrongFalsely : Prop := fnExactConstDiaRow.holds Try.pinned (OpenSpec.ofChange fnExactConstDiaWrong)

/-- 'laws.FnExactCnfOk': WHATEVER THE INPUT: true; the input reads as it did. -/
def fnExactCnfOkSpec : ChangeSpec := { name := "fnExactCnfOk", fn := fun _ => fun
  | [d] => { results := [.lit (.bool true)], args := [d] }
  | _ => none }
def fnExactCnfOkRow : OpenClaim := { program := "ytcmgjdmhemfecaa", sum := "a8f65435d2a1b2d2799e408cfbfff00210821c9f9ab044bd8992fdd65153bf38", func := "loop.example/g00697/laws.FnExactCnfOk", spec := "fnExactCnfOk", plainKeys := false, apart := false }
def FnExactCnfOkSaid : Prop := fnExactCnfOkRow.holds Try.pinned (OpenSpec.ofChange fnExactCnfOkSpec)

/-- ITS FALSE NEIGHBOUR: 'it returns false'. Refute it at one input. -/
def fnExactCnfOkWrong : ChangeSpec := { name := "fnExactCnfOk", fn := fun _ => fun
  | [d] => { results := [.lit (.bool false)], args := [d] }
  | _ => none }
def FnExactCnfOkWrongFalsely : Prop := fnExactCnfOkRow.holds Try.pinned (OpenSpec.ofChange fnExactCnfOkWrong)

/-- 'laws.FnExactUsedIn': WHATEVER THE INPUT: true; the input reads as it did. -/
def fnExactUsedInSpec : ChangeSpec := { name := "fnExactUsedIn", fn := fun _ => fun
  | [d] => { results := [.lit (.bool true)], args := [d] }
  | _ => none }
def fnExactUsedInRow : OpenClaim := { program := "ytcmgjdmhemfecaa", sum := "a8f65435d2a1b2d2799e408cfbfff00210821c9f9ab044bd8992fdd65153bf38", func := "loop.example/g00697/laws.FnExactUsedIn", spec := "fnExactUsedIn", plainKeys := false, apart := false }
def FnExactUsedInSaid : Prop := fnExactUsedInRow.holds Try.pinned (OpenSpec.ofChange fnExactUsedInSpec)

/-- ITS FALSE NEIGHBOUR: 'it returns false'. Refute it at one input. -/
def fnExactUsedInWrong : ChangeSpec := { name := "fnExactUsedIn", fn := fun _ => fun
  | [d] => { results := [.lit (.bool false)], args := [d] }
  | _ => none }
def FnExactUsedInWrongFalsely : Prop := fnExactUsedInRow.holds Try.pinned (OpenSpec.ofChange fnExactUsedInWrong)

/-- 'laws.FnExactDiaOk': WHATEVER THE INPUT: true; the input reads as it did. -/
def fnExactDiaOkSpec : ChangeSpec := { name := "fnExactDiaOk", fn := fun _ => fun
  | [d] => { results := [.lit (.bool true)], args := [d] }
  | _ => none }
def fnExactDiaOkRow : OpenClaim := { program := "ytcmgjdmhemfecaa", sum := "a8f65435d2a1b2d2799e408cfbfff00210821c9f9ab044bd8992fdd65153bf38", func := "loop.example/g00697/laws.FnExactDiaOk", spec := "fnExactDiaOk", recurses := true, plainKeys := false, apart := false }
def FnExactDiaOkSaid : Prop := fnExactDiaOkRow.holds Try.pinned (OpenSpec.ofChange fnExactDiaOkSpec)

/-- ITS FALSE NEIGHBOUR: 'it returns false'. Refute it at one input. -/
def fnExactDiaOkWrong : ChangeSpec := { name := "fnExactDiaOk", fn := fun _ => fun
  | [d] => { results := [.lit (.bool false)], args := [d] }
  | _ => none }
def FnExactDiaOkWrongFalsely : Prop := fnExactDiaOkRow.holds Try.pinned (OpenSpec.ofChange fnExactDiaOkWrong)

/-- 'laws.FnExactIsModel': WHATEVER THE INPUT: true; the input reads as it did. -/
def fnExactIsModelSpec : ChangeSpec := { name := "fnExactIsModel", fn := fun _ => fun
  | [d1, d2] => { results := [.lit (.bool true)], args := [d1, d2] }
  | _ => none }
def fnExactIsModelRow : OpenClaim := { program := "ytcmgjdmhemfecaa", sum := "a8f65435d2a1b2d2799e408cfbfff00210821c9f9ab044bd8992fdd65153bf38", func := "loop.example/g00697/laws.FnExactIsModel", spec := "fnExactIsModel", unfollowed := true, recurses := true, plainKeys := false, apart := false }
def FnExactIsModelSaid : Prop := fnExactIsModelRow.holds Try.pinned (OpenSpec.ofChange fnExactIsModelSpec)

/-- ITS FALSE NEIGHBOUR: 'it returns false'. Refute it at one input. -/
def fnExactIsModelWrong : ChangeSpec := { name := "fnExactIsModel", fn := fun _ => fun
  | [d1, d2] => { results := [.lit (.bool false)], args := [d1, d2] }
  | _ => none }
def FnExactIsModelWrongFalsely : Prop := fnExactIsModelRow.holds Try.pinned (OpenSpec.ofChange fnExactIsModelWrong)

/-- 'laws.FnExactCountDia': WHATEVER THE INPUT: true; the input reads as it did. -/
def fnExactCountDiaSpec : ChangeSpec := { name := "fnExactCountDia", fn := fun _ => fun
  | [d] => { results := [.lit (.bool true)], args := [d] }
  | _ => none }
def fnExactCountDiaRow : OpenClaim := { program := "ytcmgjdmhemfecaa", sum := "a8f65435d2a1b2d2799e408cfbfff00210821c9f9ab044bd8992fdd65153bf38", func := "loop.example/g00697/laws.FnExactCountDia", spec := "fnExactCountDia", recurses := true, plainKeys := false, apart := false }
def FnExactCountDiaSaid : Prop := fnExactCountDiaRow.holds Try.pinned (OpenSpec.ofChange fnExactCountDiaSpec)

/-- ITS FALSE NEIGHBOUR: 'it returns false'. Refute it at one input. -/
def fnExactCountDiaWrong : ChangeSpec := { name := "fnExactCountDia", fn := fun _ => fun
  | [d] => { results := [.lit (.bool false)], args := [d] }
  | _ => none }
def FnExactCountDiaWrongFalsely : Prop := fnExactCountDiaRow.holds Try.pinned (OpenSpec.ofChange fnExactCountDiaWrong)

/-- 'laws.FnDiaForm': WHATEVER THE INPUT: true; the input reads as it did. -/
def fnDiaFormSpec : ChangeSpec := { name := "fnDiaForm", fn := fun _ => fun
  | [d] => { results := [.lit (.bool true)], args := [d] }
  | _ => none }
def fnDiaFormRow : OpenClaim := { program := "ytcmgjdmhemfecaa", sum := "a8f65435d2a1b2d2799e408cfbfff00210821c9f9ab044bd8992fdd65153bf38", func := "loop.example/g00697/laws.FnDiaForm", spec := "fnDiaForm", unfollowed := true, recurses := true, plainKeys := false, apart := false }
def FnDiaFormSaid : Prop := fnDiaFormRow.holds Try.pinned (OpenSpec.ofChange fnDiaFormSpec)

/-- ITS FALSE NEIGHBOUR: 'it returns false'. Refute it at one input. -/
def fnDiaFormWrong : ChangeSpec := { name := "fnDiaForm", fn := fun _ => fun
  | [d] => { results := [.lit (.bool false)], args := [d] }
  | _ => none }
def FnDiaFormWrongFalsely : Prop := fnDiaFormRow.holds Try.pinned (OpenSpec.ofChange fnDiaFormWrong)

/-- 'laws.FnExactYesIn': WHATEVER THE INPUT: true; the input reads as it did. -/
def fnExactYesInSpec : ChangeSpec := { name := "fnExactYesIn", fn := fun _ => fun
  | [d1, d2] => { results := [.lit (.bool true)], args := [d1, d2] }
  | _ => none }
def fnExactYesInRow : OpenClaim := { program := "ytcmgjdmhemfecaa", sum := "a8f65435d2a1b2d2799e408cfbfff00210821c9f9ab044bd8992fdd65153bf38", func := "loop.example/g00697/laws.FnExactYesIn", spec := "fnExactYesIn", recurses := true, plainKeys := false, apart := false }
def FnExactYesInSaid : Prop := fnExactYesInRow.holds Try.pinned (OpenSpec.ofChange fnExactYesInSpec)

/-- ITS FALSE NEIGHBOUR: 'it returns false'. Refute it at one input. -/
def fnExactYesInWrong : ChangeSpec := { name := "fnExactYesIn", fn := fun _ => fun
  | [d1, d2] => { results := [.lit (.bool false)], args := [d1, d2] }
  | _ => none }
def FnExactYesInWrongFalsely : Prop := fnExactYesInRow.holds Try.pinned (OpenSpec.ofChange fnExactYesInWrong)

/-- 'laws.FnDiaBits': WHATEVER THE INPUT: true; the input reads as it did. -/
def fnDiaBitsSpec : ChangeSpec := { name := "fnDiaBits", fn := fun _ => fun
  | [d] => { results := [.lit (.bool true)], args := [d] }
  | _ => none }
def fnDiaBitsRow : OpenClaim := { program := "ytcmgjdmhemfecaa", sum := "a8f65435d2a1b2d2799e408cfbfff00210821c9f9ab044bd8992fdd65153bf38", func := "loop.example/g00697/laws.FnDiaBits", spec := "fnDiaBits", unfollowed := true, recurses := true, plainKeys := false, apart := false }
def FnDiaBitsSaid : Prop := fnDiaBitsRow.holds Try.pinned (OpenSpec.ofChange fnDiaBitsSpec)

/-- ITS FALSE NEIGHBOUR: 'it returns false'. Refute it at one input. -/
def fnDiaBitsWrong : ChangeSpec := { name := "fnDiaBits", fn := fun _ => fun
  | [d] => { results := [.lit (.bool false)], args := [d] }
  | _ => none }
def FnDiaBitsWrongFalsely : Prop := fnDiaBitsRow.holds Try.pinned (OpenSpec.ofChange fnDiaBitsWrong)

/-- 'laws.FnExactNotDia': WHATEVER THE INPUT: true; the input reads as it did. -/
def fnExactNotDiaSpec : ChangeSpec := { name := "fnExactNotDia", fn := fun _ => fun
  | [d] => { results := [.lit (.bool true)], args := [d] }
  | _ => none }
def fnExactNotDiaRow : OpenClaim := { program := "ytcmgjdmhemfecaa", sum := "a8f65435d2a1b2d2799e408cfbfff00210821c9f9ab044bd8992fdd65153bf38", func := "loop.example/g00697/laws.FnExactNotDia", spec := "fnExactNotDia", recurses := true, plainKeys := false, apart := false }
def FnExactNotDiaSaid : Prop := fnExactNotDiaRow.holds Try.pinned (OpenSpec.ofChange fnExactNotDiaSpec)

/-- ITS FALSE NEIGHBOUR: 'it returns false'. Refute it at one input. -/
def fnExactNotDiaWrong : ChangeSpec := { name := "fnExactNotDia", fn := fun _ => fun
  | [d] => { results := [.lit (.bool false)], args := [d] }
  | _ => none }
def FnExactNotDiaWrongFalsely : Prop := fnExactNotDiaRow.holds Try.pinned (OpenSpec.ofChange fnExactNotDiaWrong)

/-- 'laws.FnExactAndDia': WHATEVER THE INPUT: true; the input reads as it did. -/
def fnExactAndDiaSpec : ChangeSpec := { name := "fnExactAndDia", fn := fun _ => fun
  | [d1, d2] => { results := [.lit (.bool true)], args := [d1, d2] }
  | _ => none }
def fnExactAndDiaRow : OpenClaim := { program := "ytcmgjdmhemfecaa", sum := "a8f65435d2a1b2d2799e408cfbfff00210821c9f9ab044bd8992fdd65153bf38", func := "loop.example/g00697/laws.FnExactAndDia", spec := "fnExactAndDia", unfollowed := true, recurses := true, plainKeys := false, apart := false }
def FnExactAndDiaSaid : Prop := fnExactAndDiaRow.holds Try.pinned (OpenSpec.ofChange fnExactAndDiaSpec)

/-- ITS FALSE NEIGHBOUR: 'it returns false'. Refute it at one input. -/
def fnExactAndDiaWrong : ChangeSpec := { name := "fnExactAndDia", fn := fun _ => fun
  | [d1, d2] => { results := [.lit (.bool false)], args := [d1, d2] }
  | _ => none }
def FnExactAndDiaWrongFalsely : Prop := fnExactAndDiaRow.holds Try.pinned (OpenSpec.ofChange fnExactAndDiaWrong)

/-- 'laws.FnExactOrDia': WHATEVER THE INPUT: true; the input reads as it did. -/
def fnExactOrDiaSpec : ChangeSpec := { name := "fnExactOrDia", fn := fun _ => fun
  | [d1, d2] => { results := [.lit (.bool true)], args := [d1, d2] }
  | _ => none }
def fnExactOrDiaRow : OpenClaim := { program := "ytcmgjdmhemfecaa", sum := "a8f65435d2a1b2d2799e408cfbfff00210821c9f9ab044bd8992fdd65153bf38", func := "loop.example/g00697/laws.FnExactOrDia", spec := "fnExactOrDia", unfollowed := true, recurses := true, plainKeys := false, apart := false }
def FnExactOrDiaSaid : Prop := fnExactOrDiaRow.holds Try.pinned (OpenSpec.ofChange fnExactOrDiaSpec)

/-- ITS FALSE NEIGHBOUR: 'it returns false'. Refute it at one input. -/
def fnExactOrDiaWrong : ChangeSpec := { name := "fnExactOrDia", fn := fun _ => fun
  | [d1, d2] => { results := [.lit (.bool false)], args := [d1, d2] }
  | _ => none }
def FnExactOrDiaWrongFalsely : Prop := fnExactOrDiaRow.holds Try.pinned (OpenSpec.ofChange fnExactOrDiaWrong)

/-- 'laws.FnExactFixDia': WHATEVER THE INPUT: true; the input reads as it did. -/
def fnExactFixDiaSpec : ChangeSpec := { name := "fnExactFixDia", fn := fun _ => fun
  | [d1, d2, d3] => { results := [.lit (.bool true)], args := [d1, d2, d3] }
  | _ => none }
def fnExactFixDiaRow : OpenClaim := { program := "ytcmgjdmhemfecaa", sum := "a8f65435d2a1b2d2799e408cfbfff00210821c9f9ab044bd8992fdd65153bf38", func := "loop.example/g00697/laws.FnExactFixDia", spec := "fnExactFixDia", unfollowed := true, recurses := true, plainKeys := false, apart := false }
def FnExactFixDiaSaid : Prop := fnExactFixDiaRow.holds Try.pinned (OpenSpec.ofChange fnExactFixDiaSpec)

/-- ITS FALSE NEIGHBOUR: 'it returns false'. Refute it at one input. -/
def fnExactFixDiaWrong : ChangeSpec := { name := "fnExactFixDia", fn := fun _ => fun
  | [d1, d2, d3] => { results := [.lit (.bool false)], args := [d1, d2, d3] }
  | _ => none }
def FnExactFixDiaWrongFalsely : Prop := fnExactFixDiaRow.holds Try.pinned (OpenSpec.ofChange fnExactFixDiaWrong)

/-- 'laws.FnExactFirstModel': WHATEVER THE INPUT: true; the input reads as it did. -/
def fnExactFirstModelSpec : ChangeSpec := { name := "fnExactFirstModel", fn := fun _ => fun
  | [d] => { results := [.lit (.bool true)], args := [d] }
  | _ => none }
def fnExactFirstModelRow : OpenClaim := { program := "ytcmgjdmhemfecaa", sum := "a8f65435d2a1b2d2799e408cfbfff00210821c9f9ab044bd8992fdd65153bf38", func := "loop.example/g00697/laws.FnExactFirstModel", spec := "fnExactFirstModel", unfollowed := true, recurses := true, plainKeys := false, apart := false }
def FnExactFirstModelSaid : Prop := fnExactFirstModelRow.holds Try.pinned (OpenSpec.ofChange fnExactFirstModelSpec)

/-- ITS FALSE NEIGHBOUR: 'it returns false'. Refute it at one input. -/
def fnExactFirstModelWrong : ChangeSpec := { name := "fnExactFirstModel", fn := fun _ => fun
  | [d] => { results := [.lit (.bool false)], args := [d] }
  | _ => none }
def FnExactFirstModelWrongFalsely : Prop := fnExactFirstModelRow.holds Try.pinned (OpenSpec.ofChange fnExactFirstModelWrong)

/-- 'laws.FnExactSomeDia': WHATEVER THE INPUT: true; the input reads as it did. -/
def fnExactSomeDiaSpec : ChangeSpec := { name := "fnExactSomeDia", fn := fun _ => fun
  | [d1, d2] => { results := [.lit (.bool true)], args := [d1, d2] }
  | _ => none }
def fnExactSomeDiaRow : OpenClaim := { program := "ytcmgjdmhemfecaa", sum := "a8f65435d2a1b2d2799e408cfbfff00210821c9f9ab044bd8992fdd65153bf38", func := "loop.example/g00697/laws.FnExactSomeDia", spec := "fnExactSomeDia", unfollowed := true, recurses := true, plainKeys := false, apart := false }
def FnExactSomeDiaSaid : Prop := fnExactSomeDiaRow.holds Try.pinned (OpenSpec.ofChange fnExactSomeDiaSpec)

/-- ITS FALSE NEIGHBOUR: 'it returns false'. Refute it at one input. -/
def fnExactSomeDiaWrong : ChangeSpec := { name := "fnExactSomeDia", fn := fun _ => fun
  | [d1, d2] => { results := [.lit (.bool false)], args := [d1, d2] }
  | _ => none }
def FnExactSomeDiaWrongFalsely : Prop := fnExactSomeDiaRow.holds Try.pinned (OpenSpec.ofChange fnExactSomeDiaWrong)

/-- 'laws.FnDiaCounts': WHATEVER THE INPUT: true; the input reads as it did. -/
def fnDiaCountsSpec : ChangeSpec := { name := "fnDiaCounts", fn := fun _ => fun
  | [d] => { results := [.lit (.bool true)], args := [d] }
  | _ => none }
def fnDiaCountsRow : OpenClaim := { program := "ytcmgjdmhemfecaa", sum := "a8f65435d2a1b2d2799e408cfbfff00210821c9f9ab044bd8992fdd65153bf38", func := "loop.example/g00697/laws.FnDiaCounts", spec := "fnDiaCounts", unfollowed := true, recurses := true, plainKeys := false, apart := false }
def FnDiaCountsSaid : Prop := fnDiaCountsRow.holds Try.pinned (OpenSpec.ofChange fnDiaCountsSpec)

/-- ITS FALSE NEIGHBOUR: 'it returns false'. Refute it at one input. -/
def fnDiaCountsWrong : ChangeSpec := { name := "fnDiaCounts", fn := fun _ => fun
  | [d] => { results := [.lit (.bool false)], args := [d] }
  | _ => none }
def FnDiaCountsWrongFalsely : Prop := fnDiaCountsRow.holds Try.pinned (OpenSpec.ofChange fnDiaCountsWrong)

/-- 'laws.FnExactForcedIn': WHATEVER THE INPUT: true; the input reads as it did. -/
def fnExactForcedInSpec : ChangeSpec := { name := "fnExactForcedIn", fn := fun _ => fun
  | [d] => { results := [.lit (.bool true)], args := [d] }
  | _ => none }
def fnExactForcedInRow : OpenClaim := { program := "ytcmgjdmhemfecaa", sum := "a8f65435d2a1b2d2799e408cfbfff00210821c9f9ab044bd8992fdd65153bf38", func := "loop.example/g00697/laws.FnExactForcedIn", spec := "fnExactForcedIn", unfollowed := true, recurses := true, plainKeys := false, apart := false }
def FnExactForcedInSaid : Prop := fnExactForcedInRow.holds Try.pinned (OpenSpec.ofChange fnExactForcedInSpec)

/-- ITS FALSE NEIGHBOUR: 'it returns false'. Refute it at one input. -/
def fnExactForcedInWrong : ChangeSpec := { name := "fnExactForcedIn", fn := fun _ => fun
  | [d] => { results := [.lit (.bool false)], args := [d] }
  | _ => none }
def FnExactForcedInWrongFalsely : Prop := fnExactForcedInRow.holds Try.pinned (OpenSpec.ofChange fnExactForcedInWrong)

/-- 'laws.FnExactCountCnf': WHATEVER THE INPUT: true; the input reads as it did. -/
def fnExactCountCnfSpec : ChangeSpec := { name := "fnExactCountCnf", fn := fun _ => fun
  | [d] => { results := [.lit (.bool true)], args := [d] }
  | _ => none }
def fnExactCountCnfRow : OpenClaim := { program := "ytcmgjdmhemfecaa", sum := "a8f65435d2a1b2d2799e408cfbfff00210821c9f9ab044bd8992fdd65153bf38", func := "loop.example/g00697/laws.FnExactCountCnf", spec := "fnExactCountCnf", unfollowed := true, recurses := true, plainKeys := false, apart := false }
def FnExactCountCnfSaid : Prop := fnExactCountCnfRow.holds Try.pinned (OpenSpec.ofChange fnExactCountCnfSpec)

/-- ITS FALSE NEIGHBOUR: 'it returns false'. Refute it at one input. -/
def fnExactCountCnfWrong : ChangeSpec := { name := "fnExactCountCnf", fn := fun _ => fun
  | [d] => { results := [.lit (.bool false)], args := [d] }
  | _ => none }
def FnExactCountCnfWrongFalsely : Prop := fnExactCountCnfRow.holds Try.pinned (OpenSpec.ofChange fnExactCountCnfWrong)

/-- 'laws.FnExactPatternsOf': WHATEVER THE INPUT: true; the input reads as it did. -/
def fnExactPatternsOfSpec : ChangeSpec := { name := "fnExactPatternsOf", fn := fun _ => fun
  | [d1, d2] => { results := [.lit (.bool true)], args := [d1, d2] }
  | _ => none }
def fnExactPatternsOfRow : OpenClaim := { program := "ytcmgjdmhemfecaa", sum := "a8f65435d2a1b2d2799e408cfbfff00210821c9f9ab044bd8992fdd65153bf38", func := "loop.example/g00697/laws.FnExactPatternsOf", spec := "fnExactPatternsOf", unfollowed := true, recurses := true, plainKeys := false, apart := false }
def FnExactPatternsOfSaid : Prop := fnExactPatternsOfRow.holds Try.pinned (OpenSpec.ofChange fnExactPatternsOfSpec)

/-- ITS FALSE NEIGHBOUR: 'it returns false'. Refute it at one input. -/
def fnExactPatternsOfWrong : ChangeSpec := { name := "fnExactPatternsOf", fn := fun _ => fun
  | [d1, d2] => { results := [.lit (.bool false)], args := [d1, d2] }
  | _ => none }
def FnExactPatternsOfWrongFalsely : Prop := fnExactPatternsOfRow.holds Try.pinned (OpenSpec.ofChange fnExactPatternsOfWrong)

/-- 'laws.FnSplit': WHATEVER THE INPUT: true; the input reads as it did. -/
def fnSplitSpec : ChangeSpec := { name := "fnSplit", fn := fun _ => fun
  | [d] => { results := [.lit (.bool true)], args := [d] }
  | _ => none }
def fnSplitRow : OpenClaim := { program := "ytcmgjdmhemfecaa", sum := "a8f65435d2a1b2d2799e408cfbfff00210821c9f9ab044bd8992fdd65153bf38", func := "loop.example/g00697/laws.FnSplit", spec := "fnSplit", unfollowed := true, recurses := true, plainKeys := false, apart := false }
def FnSplitSaid : Prop := fnSplitRow.holds Try.pinned (OpenSpec.ofChange fnSplitSpec)

/-- ITS FALSE NEIGHBOUR: 'it returns false'. Refute it at one input. -/
def fnSplitWrong : ChangeSpec := { name := "fnSplit", fn := fun _ => fun
  | [d] => { results := [.lit (.bool false)], args := [d] }
  | _ => none }
def FnSplitWrongFalsely : Prop := fnSplitRow.holds Try.pinned (OpenSpec.ofChange fnSplitWrong)

/-- 'laws.FnPatterns': WHATEVER THE INPUT: true; the input reads as it did. -/
def fnPatternsSpec : ChangeSpec := { name := "fnPatterns", fn := fun _ => fun
  | [d] => { results := [.lit (.bool true)], args := [d] }
  | _ => none }
def fnPatternsRow : OpenClaim := { program := "ytcmgjdmhemfecaa", sum := "a8f65435d2a1b2d2799e408cfbfff00210821c9f9ab044bd8992fdd65153bf38", func := "loop.example/g00697/laws.FnPatterns", spec := "fnPatterns", unfollowed := true, recurses := true, plainKeys := false, apart := false }
def FnPatternsSaid : Prop := fnPatternsRow.holds Try.pinned (OpenSpec.ofChange fnPatternsSpec)

/-- ITS FALSE NEIGHBOUR: 'it returns false'. Refute it at one input. -/
def fnPatternsWrong : ChangeSpec := { name := "fnPatterns", fn := fun _ => fun
  | [d] => { results := [.lit (.bool false)], args := [d] }
  | _ => none }
def FnPatternsWrongFalsely : Prop := fnPatternsRow.holds Try.pinned (OpenSpec.ofChange fnPatternsWrong)

/- THE SECOND FORM. 'bulk': how many values and letters a reading holds, each counted each time it is reached (what is shared counts as often as it is met; a slice's spare places count too). A statement '..UptoSaid' is the law's where the arguments, and the package variables that the reading takes, are together of bulk at most 1048576: NARROWER than '..Said'. Prove '..Said' where nothing that the law and all that it calls make is longer than what came in: it says more and counts as full. Else prove '..UptoSaid'. A law counts once. -/
mutual
def uptoBulk {H : Type} : DataW H → Nat
  | .lit (.string bytes) => bytes.length + 1
  | .lit _ => 1
  | .nil => 1
  | .ptr d => uptoBulk d + 1
  | .slice elems spare => uptoBulkAll elems + uptoBulkAll spare + 1
  | .agg parts => uptoBulkAll parts + 1
  | .iface _ d => uptoBulk d + 1
  | .map entries => uptoBulkEntries entries + 1
  | .held _ => 1
def uptoBulkAll {H : Type} : List (DataW H) → Nat
  | [] => 0
  | d :: r => uptoBulk d + uptoBulkAll r
def uptoBulkEntries {H : Type} : List (Lit × DataW H) → Nat
  | [] => 0
  | x :: r => uptoBulkEntry x + uptoBulkEntries r
def uptoBulkEntry {H : Type} : Lit × DataW H → Nat
  | (.string bytes, d) => bytes.length + uptoBulk d + 1
  | (_, d) => uptoBulk d + 1
 end
def uptoSmall : (H : Type) → List (DataW H) → Bool := fun _ ds => decide (uptoBulkAll ds ≤ 1048576)
def OpenSpec.upto (s : _root_.Go.ChangeSpec) : _root_.Go.OpenSpec := { _root_.Go.OpenSpec.ofChange s with cond := some uptoSmall }

/-- 'laws.FnExactVarDia', WHERE WHAT IT READS IS OF BULK AT MOST 1048576: true; the input reads as it did. -/
def fnExactVarDiaUptoRow : OpenClaim := { program := "ytcmgjdmhemfecaa", sum := "a8f65435d2a1b2d2799e408cfbfff00210821c9f9ab044bd8992fdd65153bf38", func := "loop.example/g00697/laws.FnExactVarDia", spec := "fnExactVarDia", plainKeys := false, apart := false, narrowed := true }
def FnExactVarDiaUptoSaid : Prop := fnExactVarDiaUptoRow.holds Try.pinned (OpenSpec.upto fnExactVarDiaSpec)

/-- 'laws.FnExactConstDia', WHERE WHAT IT READS IS OF BULK AT MOST 1048576: true; the input reads as it did. -/
def fnExactConstDiaUptoRow : OpenClaim := { program := "ytcmgjdmhemfecaa", sum := "a8f65435d2a1b2d2799e408cfbfff00210821c9f9ab044bd8992fdd65153bf38", func := "loop.example/g00697/laws.FnExactConstDia", spec := "fnExactConstDia", plainKeys := false, apart := false, narrowed := true }
def FnExactConstDiaUptoSaid : Prop := fnExactConstDiaUptoRow.holds Try.pinned (OpenSpec.upto fnExactConstDiaSpec)

/-- 'laws.FnExactCnfOk', WHERE WHAT IT READS IS OF BULK AT MOST 1048576: true; the input reads as it did. -/
def fnExactCnfOkUptoRow : OpenClaim := { program := "ytcmgjdmhemfecaa", sum := "a8f65435d2a1b2d2799e408cfbfff00210821c9f9ab044bd8992fdd65153bf38", func := "loop.example/g00697/laws.FnExactCnfOk", spec := "fnExactCnfOk", plainKeys := false, apart := false, narrowed := true }
def FnExactCnfOkUptoSaid : Prop := fnExactCnfOkUptoRow.holds Try.pinned (OpenSpec.upto fnExactCnfOkSpec)

/-- 'laws.FnExactUsedIn', WHERE WHAT IT READS IS OF BULK AT MOST 1048576: true; the input reads as it did. -/
def fnExactUsedInUptoRow : OpenClaim := { program := "ytcmgjdmhemfecaa", sum := "a8f65435d2a1b2d2799e408cfbfff00210821c9f9ab044bd8992fdd65153bf38", func := "loop.example/g00697/laws.FnExactUsedIn", spec := "fnExactUsedIn", plainKeys := false, apart := false, narrowed := true }
def FnExactUsedInUptoSaid : Prop := fnExactUsedInUptoRow.holds Try.pinned (OpenSpec.upto fnExactUsedInSpec)

/-- 'laws.FnExactDiaOk', WHERE WHAT IT READS IS OF BULK AT MOST 1048576: true; the input reads as it did. -/
def fnExactDiaOkUptoRow : OpenClaim := { program := "ytcmgjdmhemfecaa", sum := "a8f65435d2a1b2d2799e408cfbfff00210821c9f9ab044bd8992fdd65153bf38", func := "loop.example/g00697/laws.FnExactDiaOk", spec := "fnExactDiaOk", recurses := true, plainKeys := false, apart := false, narrowed := true }
def FnExactDiaOkUptoSaid : Prop := fnExactDiaOkUptoRow.holds Try.pinned (OpenSpec.upto fnExactDiaOkSpec)

/-- 'laws.FnExactIsModel', WHERE WHAT IT READS IS OF BULK AT MOST 1048576: true; the input reads as it did. -/
def fnExactIsModelUptoRow : OpenClaim := { program := "ytcmgjdmhemfecaa", sum := "a8f65435d2a1b2d2799e408cfbfff00210821c9f9ab044bd8992fdd65153bf38", func := "loop.example/g00697/laws.FnExactIsModel", spec := "fnExactIsModel", unfollowed := true, recurses := true, plainKeys := false, apart := false, narrowed := true }
def FnExactIsModelUptoSaid : Prop := fnExactIsModelUptoRow.holds Try.pinned (OpenSpec.upto fnExactIsModelSpec)

/-- 'laws.FnExactCountDia', WHERE WHAT IT READS IS OF BULK AT MOST 1048576: true; the input reads as it did. -/
def fnExactCountDiaUptoRow : OpenClaim := { program := "ytcmgjdmhemfecaa", sum := "a8f65435d2a1b2d2799e408cfbfff00210821c9f9ab044bd8992fdd65153bf38", func := "loop.example/g00697/laws.FnExactCountDia", spec := "fnExactCountDia", recurses := true, plainKeys := false, apart := false, narrowed := true }
def FnExactCountDiaUptoSaid : Prop := fnExactCountDiaUptoRow.holds Try.pinned (OpenSpec.upto fnExactCountDiaSpec)

/-- 'laws.FnDiaForm', WHERE WHAT IT READS IS OF BULK AT MOST 1048576: true; the input reads as it did. -/
def fnDiaFormUptoRow : OpenClaim := { program := "ytcmgjdmhemfecaa", sum := "a8f65435d2a1b2d2799e408cfbfff00210821c9f9ab044bd8992fdd65153bf38", func := "loop.example/g00697/laws.FnDiaForm", spec := "fnDiaForm", unfollowed := true, recurses := true, plainKeys := false, apart := false, narrowed := true }
def FnDiaFormUptoSaid : Prop := fnDiaFormUptoRow.holds Try.pinned (OpenSpec.upto fnDiaFormSpec)

/-- 'laws.FnExactYesIn', WHERE WHAT IT READS IS OF BULK AT MOST 1048576: true; the input reads as it did. -/
def fnExactYesInUptoRow : OpenClaim := { program := "ytcmgjdmhemfecaa", sum := "a8f65435d2a1b2d2799e408cfbfff00210821c9f9ab044bd8992fdd65153bf38", func := "loop.example/g00697/laws.FnExactYesIn", spec := "fnExactYesIn", recurses := true, plainKeys := false, apart := false, narrowed := true }
def FnExactYesInUptoSaid : Prop := fnExactYesInUptoRow.holds Try.pinned (OpenSpec.upto fnExactYesInSpec)

/-- 'laws.FnDiaBits', WHERE WHAT IT READS IS OF BULK AT MOST 1048576: true; the input reads as it did. -/
def fnDiaBitsUptoRow : OpenClaim := { program := "ytcmgjdmhemfecaa", sum := "a8f65435d2a1b2d2799e408cfbfff00210821c9f9ab044bd8992fdd65153bf38", func := "loop.example/g00697/laws.FnDiaBits", spec := "fnDiaBits", unfollowed := true, recurses := true, plainKeys := false, apart := false, narrowed := true }
def FnDiaBitsUptoSaid : Prop := fnDiaBitsUptoRow.holds Try.pinned (OpenSpec.upto fnDiaBitsSpec)

/-- 'laws.FnExactNotDia', WHERE WHAT IT READS IS OF BULK AT MOST 1048576: true; the input reads as it did. -/
def fnExactNotDiaUptoRow : OpenClaim := { program := "ytcmgjdmhemfecaa", sum := "a8f65435d2a1b2d2799e408cfbfff00210821c9f9ab044bd8992fdd65153bf38", func := "loop.example/g00697/laws.FnExactNotDia", spec := "fnExactNotDia", recurses := true, plainKeys := false, apart := false, narrowed := true }
def FnExactNotDiaUptoSaid : Prop := fnExactNotDiaUptoRow.holds Try.pinned (OpenSpec.upto fnExactNotDiaSpec)

/-- 'laws.FnExactAndDia', WHERE WHAT IT READS IS OF BULK AT MOST 1048576: true; the input reads as it did. -/
def fnExactAndDiaUptoRow : OpenClaim := { program := "ytcmgjdmhemfecaa", sum := "a8f65435d2a1b2d2799e408cfbfff00210821c9f9ab044bd8992fdd65153bf38", func := "loop.example/g00697/laws.FnExactAndDia", spec := "fnExactAndDia", unfollowed := true, recurses := true, plainKeys := false, apart := false, narrowed := true }
def FnExactAndDiaUptoSaid : Prop := fnExactAndDiaUptoRow.holds Try.pinned (OpenSpec.upto fnExactAndDiaSpec)

/-- 'laws.FnExactOrDia', WHERE WHAT IT READS IS OF BULK AT MOST 1048576: true; the input reads as it did. -/
def fnExactOrDiaUptoRow : OpenClaim := { program := "ytcmgjdmhemfecaa", sum := "a8f65435d2a1b2d2799e408cfbfff00210821c9f9ab044bd8992fdd65153bf38", func := "loop.example/g00697/laws.FnExactOrDia", spec := "fnExactOrDia", unfollowed := true, recurses := true, plainKeys := false, apart := false, narrowed := true }
def FnExactOrDiaUptoSaid : Prop := fnExactOrDiaUptoRow.holds Try.pinned (OpenSpec.upto fnExactOrDiaSpec)

/-- 'laws.FnExactFixDia', WHERE WHAT IT READS IS OF BULK AT MOST 1048576: true; the input reads as it did. -/
def fnExactFixDiaUptoRow : OpenClaim := { program := "ytcmgjdmhemfecaa", sum := "a8f65435d2a1b2d2799e408cfbfff00210821c9f9ab044bd8992fdd65153bf38", func := "loop.example/g00697/laws.FnExactFixDia", spec := "fnExactFixDia", unfollowed := true, recurses := true, plainKeys := false, apart := false, narrowed := true }
def FnExactFixDiaUptoSaid : Prop := fnExactFixDiaUptoRow.holds Try.pinned (OpenSpec.upto fnExactFixDiaSpec)

/-- 'laws.FnExactFirstModel', WHERE WHAT IT READS IS OF BULK AT MOST 1048576: true; the input reads as it did. -/
def fnExactFirstModelUptoRow : OpenClaim := { program := "ytcmgjdmhemfecaa", sum := "a8f65435d2a1b2d2799e408cfbfff00210821c9f9ab044bd8992fdd65153bf38", func := "loop.example/g00697/laws.FnExactFirstModel", spec := "fnExactFirstModel", unfollowed := true, recurses := true, plainKeys := false, apart := false, narrowed := true }
def FnExactFirstModelUptoSaid : Prop := fnExactFirstModelUptoRow.holds Try.pinned (OpenSpec.upto fnExactFirstModelSpec)

/-- 'laws.FnExactSomeDia', WHERE WHAT IT READS IS OF BULK AT MOST 1048576: true; the input reads as it did. -/
def fnExactSomeDiaUptoRow : OpenClaim := { program := "ytcmgjdmhemfecaa", sum := "a8f65435d2a1b2d2799e408cfbfff00210821c9f9ab044bd8992fdd65153bf38", func := "loop.example/g00697/laws.FnExactSomeDia", spec := "fnExactSomeDia", unfollowed := true, recurses := true, plainKeys := false, apart := false, narrowed := true }
def FnExactSomeDiaUptoSaid : Prop := fnExactSomeDiaUptoRow.holds Try.pinned (OpenSpec.upto fnExactSomeDiaSpec)

/-- 'laws.FnDiaCounts', WHERE WHAT IT READS IS OF BULK AT MOST 1048576: true; the input reads as it did. -/
def fnDiaCountsUptoRow : OpenClaim := { program := "ytcmgjdmhemfecaa", sum := "a8f65435d2a1b2d2799e408cfbfff00210821c9f9ab044bd8992fdd65153bf38", func := "loop.example/g00697/laws.FnDiaCounts", spec := "fnDiaCounts", unfollowed := true, recurses := true, plainKeys := false, apart := false, narrowed := true }
def FnDiaCountsUptoSaid : Prop := fnDiaCountsUptoRow.holds Try.pinned (OpenSpec.upto fnDiaCountsSpec)

/-- 'laws.FnExactForcedIn', WHERE WHAT IT READS IS OF BULK AT MOST 1048576: true; the input reads as it did. -/
def fnExactForcedInUptoRow : OpenClaim := { program := "ytcmgjdmhemfecaa", sum := "a8f65435d2a1b2d2799e408cfbfff00210821c9f9ab044bd8992fdd65153bf38", func := "loop.example/g00697/laws.FnExactForcedIn", spec := "fnExactForcedIn", unfollowed := true, recurses := true, plainKeys := false, apart := false, narrowed := true }
def FnExactForcedInUptoSaid : Prop := fnExactForcedInUptoRow.holds Try.pinned (OpenSpec.upto fnExactForcedInSpec)

/-- 'laws.FnExactCountCnf', WHERE WHAT IT READS IS OF BULK AT MOST 1048576: true; the input reads as it did. -/
def fnExactCountCnfUptoRow : OpenClaim := { program := "ytcmgjdmhemfecaa", sum := "a8f65435d2a1b2d2799e408cfbfff00210821c9f9ab044bd8992fdd65153bf38", func := "loop.example/g00697/laws.FnExactCountCnf", spec := "fnExactCountCnf", unfollowed := true, recurses := true, plainKeys := false, apart := false, narrowed := true }
def FnExactCountCnfUptoSaid : Prop := fnExactCountCnfUptoRow.holds Try.pinned (OpenSpec.upto fnExactCountCnfSpec)

/-- 'laws.FnExactPatternsOf', WHERE WHAT IT READS IS OF BULK AT MOST 1048576: true; the input reads as it did. -/
def fnExactPatternsOfUptoRow : OpenClaim := { program := "ytcmgjdmhemfecaa", sum := "a8f65435d2a1b2d2799e408cfbfff00210821c9f9ab044bd8992fdd65153bf38", func := "loop.example/g00697/laws.FnExactPatternsOf", spec := "fnExactPatternsOf", unfollowed := true, recurses := true, plainKeys := false, apart := false, narrowed := true }
def FnExactPatternsOfUptoSaid : Prop := fnExactPatternsOfUptoRow.holds Try.pinned (OpenSpec.upto fnExactPatternsOfSpec)

/-- 'laws.FnSplit', WHERE WHAT IT READS IS OF BULK AT MOST 1048576: true; the input reads as it did. -/
def fnSplitUptoRow : OpenClaim := { program := "ytcmgjdmhemfecaa", sum := "a8f65435d2a1b2d2799e408cfbfff00210821c9f9ab044bd8992fdd65153bf38", func := "loop.example/g00697/laws.FnSplit", spec := "fnSplit", unfollowed := true, recurses := true, plainKeys := false, apart := false, narrowed := true }
def FnSplitUptoSaid : Prop := fnSplitUptoRow.holds Try.pinned (OpenSpec.upto fnSplitSpec)

/-- 'laws.FnPatterns', WHERE WHAT IT READS IS OF BULK AT MOST 1048576: true; the input reads as it did. -/
def fnPatternsUptoRow : OpenClaim := { program := "ytcmgjdmhemfecaa", sum := "a8f65435d2a1b2d2799e408cfbfff00210821c9f9ab044bd8992fdd65153bf38", func := "loop.example/g00697/laws.FnPatterns", spec := "fnPatterns", unfollowed := true, recurses := true, plainKeys := false, apart := false, narrowed := true }
def FnPatternsUptoSaid : Prop := fnPatternsUptoRow.holds Try.pinned (OpenSpec.upto fnPatternsSpec)

end Rows
end Go.Proofs.Ytcmgjdmhemfecaa
