/-
  No cell of these rows narrows 'for every input' (looked for: loops, veiled, ifaces, maps, wideKeys, modest, calm, conditions, laid).
  DERIVED. THE GIVEN ROWS OF THIS SEAT. 17 by the template 'for every input the law returns true; each argument reads behind the call as it read before'; 0 by the template 'total and deterministic' (their statements: YtjgfofcgmcnblaaGreatTotals.lean).
  GIVEN WITH THE SEED: the statements are not yours to turn. If you find one false, say at which input.
  Laid BY PROGRAM, IN A SANDBOX (cutbox-rows.mjs): the forced cells as the released guide's own fill.sh prints them over the translation d3818cfd617a4737… (all of the seat's roots in one cut). By AI agents, Wed Nov 11 2026. No macro, syntax, notation, axiom, sorry.
-/
import Derived.Test.YtjgfofcgmcnblaaGreatChecked
import GoSem.Claim
import GoSem.ClaimJoined
import GoSem.ClaimMapViews
import Derived.JoinedTies
import Derived.KernelRfl
namespace Go.Proofs.YtjgfofcgmcnblaaGreat
/- THE CELL 'sum', in the pinned program and in every row, IS THE sha256 OF THE DUMP (.gsa) THAT YtjgfofcgmcnblaaGreatProg.lean LOADS. Nothing in Lean hashes anything: it is a label: what it is worth is what the hold of that sum in a sandbox is worth. -/
noncomputable def Tryz.pinned : Pinned := { name := "ytjgfofcgmcnblaagreat", sum := "d3818cfd617a4737862109f4dddb77394af572bbcc07b6b4538ace6b462258c6", checked := Tryz.checked }
namespace Rows
def none {H : Type} : Left H := { results := [], args := [] }

/-- 'laws.FnValueBits': WHATEVER THE INPUT: true; the input reads as it did. -/
def fnValueBitsSpec : ChangeSpec := { name := "fnValueBits", fn := fun _ => fun
  | [d] => { results := [.lit (.bool true)], args := [d] }
  | _ => none }
def fnValueBitsRow : OpenClaim := { program := "ytjgfofcgmcnblaagreat", sum := "d3818cfd617a4737862109f4dddb77394af572bbcc07b6b4538ace6b462258c6", func := "loop.example/g00697/laws.FnValueBits", spec := "fnValueBits", unfollowed := true, recurses := true, plainKeys := false, apart := false }
def FnValueBitsSaid : Prop := fnValueBitsRow.holds Tryz.pinned (OpenSpec.ofChange fnValueBitsSpec)

/-- ITS FALSE NEIGHBOUR: 'it returns false'. Refute it at one input. -/
def fnValueBitsWrong : ChangeSpec := { name := "fnValueBits", fn := fun _ => fun
  | [d] => { results := [.lit (.bool false)], args := [d] }
  | _ => none }
def FnValueBitsWrongFalsely : Prop := fnValueBitsRow.holds Tryz.pinned (OpenSpec.ofChange fnValueBitsWrong)

/-- 'laws.FnWeigh': WHATEVER THE INPUT: true; the input reads as it did. -/
def fnWeighSpec : ChangeSpec := { name := "fnWeigh", fn := fun _ => fun
  | [d] => { results := [.lit (.bool true)], args := [d] }
  | _ => none }
def fnWeighRow : OpenClaim := { program := "ytjgfofcgmcnblaagreat", sum := "d3818cfd617a4737862109f4dddb77394af572bbcc07b6b4538ace6b462258c6", func := "loop.example/g00697/laws.FnWeigh", spec := "fnWeigh", unfollowed := true, recurses := true, plainKeys := false, apart := false }
def FnWeighSaid : Prop := fnWeighRow.holds Tryz.pinned (OpenSpec.ofChange fnWeighSpec)

/-- ITS FALSE NEIGHBOUR: 'it returns false'. Refute it at one input. -/
def fnWeighWrong : ChangeSpec := { name := "fnWeigh", fn := fun _ => fun
  | [d] => { results := [.lit (.bool false)], args := [d] }
  | _ => none }
def FnWeighWrongFalsely : Prop := fnWeighRow.holds Tryz.pinned (OpenSpec.ofChange fnWeighWrong)

/-- 'laws.FnExactMostJoint': WHATEVER THE INPUT: true; the input reads as it did. -/
def fnExactMostJointSpec : ChangeSpec := { name := "fnExactMostJoint", fn := fun _ => fun
  | [d] => { results := [.lit (.bool true)], args := [d] }
  | _ => none }
def fnExactMostJointRow : OpenClaim := { program := "ytjgfofcgmcnblaagreat", sum := "d3818cfd617a4737862109f4dddb77394af572bbcc07b6b4538ace6b462258c6", func := "loop.example/g00697/laws.FnExactMostJoint", spec := "fnExactMostJoint", unfollowed := true, recurses := true, plainKeys := false, apart := false }
def FnExactMostJointSaid : Prop := fnExactMostJointRow.holds Tryz.pinned (OpenSpec.ofChange fnExactMostJointSpec)

/-- ITS FALSE NEIGHBOUR: 'it returns false'. Refute it at one input. -/
def fnExactMostJointWrong : ChangeSpec := { name := "fnExactMostJoint", fn := fun _ => fun
  | [d] => { results := [.lit (.bool false)], args := [d] }
  | _ => none }
def FnExactMostJointWrongFalsely : Prop := fnExactMostJointRow.holds Tryz.pinned (OpenSpec.ofChange fnExactMostJointWrong)

/-- 'laws.FnExactMostFor': WHATEVER THE INPUT: true; the input reads as it did. -/
def fnExactMostForSpec : ChangeSpec := { name := "fnExactMostFor", fn := fun _ => fun
  | [d1, d2] => { results := [.lit (.bool true)], args := [d1, d2] }
  | _ => none }
def fnExactMostForRow : OpenClaim := { program := "ytjgfofcgmcnblaagreat", sum := "d3818cfd617a4737862109f4dddb77394af572bbcc07b6b4538ace6b462258c6", func := "loop.example/g00697/laws.FnExactMostFor", spec := "fnExactMostFor", unfollowed := true, recurses := true, plainKeys := false, apart := false }
def FnExactMostForSaid : Prop := fnExactMostForRow.holds Tryz.pinned (OpenSpec.ofChange fnExactMostForSpec)

/-- ITS FALSE NEIGHBOUR: 'it returns false'. Refute it at one input. -/
def fnExactMostForWrong : ChangeSpec := { name := "fnExactMostFor", fn := fun _ => fun
  | [d1, d2] => { results := [.lit (.bool false)], args := [d1, d2] }
  | _ => none }
def FnExactMostForWrongFalsely : Prop := fnExactMostForRow.holds Tryz.pinned (OpenSpec.ofChange fnExactMostForWrong)

/-- 'laws.FnShapes': WHATEVER THE INPUT: true; the input reads as it did. -/
def fnShapesSpec : ChangeSpec := { name := "fnShapes", fn := fun _ => fun
  | [d] => { results := [.lit (.bool true)], args := [d] }
  | _ => none }
def fnShapesRow : OpenClaim := { program := "ytjgfofcgmcnblaagreat", sum := "d3818cfd617a4737862109f4dddb77394af572bbcc07b6b4538ace6b462258c6", func := "loop.example/g00697/laws.FnShapes", spec := "fnShapes", unfollowed := true, recurses := true, plainKeys := false, apart := false }
def FnShapesSaid : Prop := fnShapesRow.holds Tryz.pinned (OpenSpec.ofChange fnShapesSpec)

/-- ITS FALSE NEIGHBOUR: 'it returns false'. Refute it at one input. -/
def fnShapesWrong : ChangeSpec := { name := "fnShapes", fn := fun _ => fun
  | [d] => { results := [.lit (.bool false)], args := [d] }
  | _ => none }
def FnShapesWrongFalsely : Prop := fnShapesRow.holds Tryz.pinned (OpenSpec.ofChange fnShapesWrong)

/-- 'laws.FnMost': WHATEVER THE INPUT: true; the input reads as it did. -/
def fnMostSpec : ChangeSpec := { name := "fnMost", fn := fun _ => fun
  | [d] => { results := [.lit (.bool true)], args := [d] }
  | _ => none }
def fnMostRow : OpenClaim := { program := "ytjgfofcgmcnblaagreat", sum := "d3818cfd617a4737862109f4dddb77394af572bbcc07b6b4538ace6b462258c6", func := "loop.example/g00697/laws.FnMost", spec := "fnMost", unfollowed := true, recurses := true, plainKeys := false, apart := false }
def FnMostSaid : Prop := fnMostRow.holds Tryz.pinned (OpenSpec.ofChange fnMostSpec)

/-- ITS FALSE NEIGHBOUR: 'it returns false'. Refute it at one input. -/
def fnMostWrong : ChangeSpec := { name := "fnMost", fn := fun _ => fun
  | [d] => { results := [.lit (.bool false)], args := [d] }
  | _ => none }
def FnMostWrongFalsely : Prop := fnMostRow.holds Tryz.pinned (OpenSpec.ofChange fnMostWrong)

/-- 'laws.FnExactAllOutcomes': WHATEVER THE INPUT: true; the input reads as it did. -/
def fnExactAllOutcomesSpec : ChangeSpec := { name := "fnExactAllOutcomes", fn := fun _ => fun
  | [d] => { results := [.lit (.bool true)], args := [d] }
  | _ => none }
def fnExactAllOutcomesRow : OpenClaim := { program := "ytjgfofcgmcnblaagreat", sum := "d3818cfd617a4737862109f4dddb77394af572bbcc07b6b4538ace6b462258c6", func := "loop.example/g00697/laws.FnExactAllOutcomes", spec := "fnExactAllOutcomes", unfollowed := true, recurses := true, plainKeys := false, apart := false }
def FnExactAllOutcomesSaid : Prop := fnExactAllOutcomesRow.holds Tryz.pinned (OpenSpec.ofChange fnExactAllOutcomesSpec)

/-- ITS FALSE NEIGHBOUR: 'it returns false'. Refute it at one input. -/
def fnExactAllOutcomesWrong : ChangeSpec := { name := "fnExactAllOutcomes", fn := fun _ => fun
  | [d] => { results := [.lit (.bool false)], args := [d] }
  | _ => none }
def FnExactAllOutcomesWrongFalsely : Prop := fnExactAllOutcomesRow.holds Tryz.pinned (OpenSpec.ofChange fnExactAllOutcomesWrong)

/-- 'laws.FnExactOddsOf': WHATEVER THE INPUT: true; the input reads as it did. -/
def fnExactOddsOfSpec : ChangeSpec := { name := "fnExactOddsOf", fn := fun _ => fun
  | [d1, d2] => { results := [.lit (.bool true)], args := [d1, d2] }
  | _ => none }
def fnExactOddsOfRow : OpenClaim := { program := "ytjgfofcgmcnblaagreat", sum := "d3818cfd617a4737862109f4dddb77394af572bbcc07b6b4538ace6b462258c6", func := "loop.example/g00697/laws.FnExactOddsOf", spec := "fnExactOddsOf", unfollowed := true, recurses := true, plainKeys := false, apart := false }
def FnExactOddsOfSaid : Prop := fnExactOddsOfRow.holds Tryz.pinned (OpenSpec.ofChange fnExactOddsOfSpec)

/-- ITS FALSE NEIGHBOUR: 'it returns false'. Refute it at one input. -/
def fnExactOddsOfWrong : ChangeSpec := { name := "fnExactOddsOf", fn := fun _ => fun
  | [d1, d2] => { results := [.lit (.bool false)], args := [d1, d2] }
  | _ => none }
def FnExactOddsOfWrongFalsely : Prop := fnExactOddsOfRow.holds Tryz.pinned (OpenSpec.ofChange fnExactOddsOfWrong)

/-- 'laws.FnExactWeigh': WHATEVER THE INPUT: true; the input reads as it did. -/
def fnExactWeighSpec : ChangeSpec := { name := "fnExactWeigh", fn := fun _ => fun
  | [d1, d2, d3, d4] => { results := [.lit (.bool true)], args := [d1, d2, d3, d4] }
  | _ => none }
def fnExactWeighRow : OpenClaim := { program := "ytjgfofcgmcnblaagreat", sum := "d3818cfd617a4737862109f4dddb77394af572bbcc07b6b4538ace6b462258c6", func := "loop.example/g00697/laws.FnExactWeigh", spec := "fnExactWeigh", unfollowed := true, recurses := true, plainKeys := false, apart := false }
def FnExactWeighSaid : Prop := fnExactWeighRow.holds Tryz.pinned (OpenSpec.ofChange fnExactWeighSpec)

/-- ITS FALSE NEIGHBOUR: 'it returns false'. Refute it at one input. -/
def fnExactWeighWrong : ChangeSpec := { name := "fnExactWeigh", fn := fun _ => fun
  | [d1, d2, d3, d4] => { results := [.lit (.bool false)], args := [d1, d2, d3, d4] }
  | _ => none }
def FnExactWeighWrongFalsely : Prop := fnExactWeighRow.holds Tryz.pinned (OpenSpec.ofChange fnExactWeighWrong)

/-- 'laws.FnExactShapesOf': WHATEVER THE INPUT: true; the input reads as it did. -/
def fnExactShapesOfSpec : ChangeSpec := { name := "fnExactShapesOf", fn := fun _ => fun
  | [d] => { results := [.lit (.bool true)], args := [d] }
  | _ => none }
def fnExactShapesOfRow : OpenClaim := { program := "ytjgfofcgmcnblaagreat", sum := "d3818cfd617a4737862109f4dddb77394af572bbcc07b6b4538ace6b462258c6", func := "loop.example/g00697/laws.FnExactShapesOf", spec := "fnExactShapesOf", unfollowed := true, recurses := true, plainKeys := false, apart := false }
def FnExactShapesOfSaid : Prop := fnExactShapesOfRow.holds Tryz.pinned (OpenSpec.ofChange fnExactShapesOfSpec)

/-- ITS FALSE NEIGHBOUR: 'it returns false'. Refute it at one input. -/
def fnExactShapesOfWrong : ChangeSpec := { name := "fnExactShapesOf", fn := fun _ => fun
  | [d] => { results := [.lit (.bool false)], args := [d] }
  | _ => none }
def FnExactShapesOfWrongFalsely : Prop := fnExactShapesOfRow.holds Tryz.pinned (OpenSpec.ofChange fnExactShapesOfWrong)

/-- 'laws.FnExactWeighShape': WHATEVER THE INPUT: true; the input reads as it did. -/
def fnExactWeighShapeSpec : ChangeSpec := { name := "fnExactWeighShape", fn := fun _ => fun
  | [d1, d2, d3, d4, d5] => { results := [.lit (.bool true)], args := [d1, d2, d3, d4, d5] }
  | _ => none }
def fnExactWeighShapeRow : OpenClaim := { program := "ytjgfofcgmcnblaagreat", sum := "d3818cfd617a4737862109f4dddb77394af572bbcc07b6b4538ace6b462258c6", func := "loop.example/g00697/laws.FnExactWeighShape", spec := "fnExactWeighShape", unfollowed := true, recurses := true, plainKeys := false, apart := false }
def FnExactWeighShapeSaid : Prop := fnExactWeighShapeRow.holds Tryz.pinned (OpenSpec.ofChange fnExactWeighShapeSpec)

/-- ITS FALSE NEIGHBOUR: 'it returns false'. Refute it at one input. -/
def fnExactWeighShapeWrong : ChangeSpec := { name := "fnExactWeighShape", fn := fun _ => fun
  | [d1, d2, d3, d4, d5] => { results := [.lit (.bool false)], args := [d1, d2, d3, d4, d5] }
  | _ => none }
def FnExactWeighShapeWrongFalsely : Prop := fnExactWeighShapeRow.holds Tryz.pinned (OpenSpec.ofChange fnExactWeighShapeWrong)

/-- 'laws.FnExactRangeDia': WHATEVER THE INPUT: true; the input reads as it did. -/
def fnExactRangeDiaSpec : ChangeSpec := { name := "fnExactRangeDia", fn := fun _ => fun
  | [d] => { results := [.lit (.bool true)], args := [d] }
  | _ => none }
def fnExactRangeDiaRow : OpenClaim := { program := "ytjgfofcgmcnblaagreat", sum := "d3818cfd617a4737862109f4dddb77394af572bbcc07b6b4538ace6b462258c6", func := "loop.example/g00697/laws.FnExactRangeDia", spec := "fnExactRangeDia", unfollowed := true, recurses := true, plainKeys := false, apart := false }
def FnExactRangeDiaSaid : Prop := fnExactRangeDiaRow.holds Tryz.pinned (OpenSpec.ofChange fnExactRangeDiaSpec)

/-- ITS FALSE NEIGHBOUR: 'it returns false'. Refute it at one input. -/
def fnExactRangeDiaWrong : ChangeSpec := { name := "fnExactRangeDia", fn := fun _ => fun
  | [d] => { results := [.lit (.bool false)], args := [d] }
  | _ => none }
def FnExactRangeDiaWrongFalsely : Prop := fnExactRangeDiaRow.holds Tryz.pinned (OpenSpec.ofChange fnExactRangeDiaWrong)

/-- 'laws.FnExactShapeDia': WHATEVER THE INPUT: true; the input reads as it did. -/
def fnExactShapeDiaSpec : ChangeSpec := { name := "fnExactShapeDia", fn := fun _ => fun
  | [d1, d2] => { results := [.lit (.bool true)], args := [d1, d2] }
  | _ => none }
def fnExactShapeDiaRow : OpenClaim := { program := "ytjgfofcgmcnblaagreat", sum := "d3818cfd617a4737862109f4dddb77394af572bbcc07b6b4538ace6b462258c6", func := "loop.example/g00697/laws.FnExactShapeDia", spec := "fnExactShapeDia", unfollowed := true, recurses := true, plainKeys := false, apart := false }
def FnExactShapeDiaSaid : Prop := fnExactShapeDiaRow.holds Tryz.pinned (OpenSpec.ofChange fnExactShapeDiaSpec)

/-- ITS FALSE NEIGHBOUR: 'it returns false'. Refute it at one input. -/
def fnExactShapeDiaWrong : ChangeSpec := { name := "fnExactShapeDia", fn := fun _ => fun
  | [d1, d2] => { results := [.lit (.bool false)], args := [d1, d2] }
  | _ => none }
def FnExactShapeDiaWrongFalsely : Prop := fnExactShapeDiaRow.holds Tryz.pinned (OpenSpec.ofChange fnExactShapeDiaWrong)

/-- 'laws.FnExactClassSizes': WHATEVER THE INPUT: true; the input reads as it did. -/
def fnExactClassSizesSpec : ChangeSpec := { name := "fnExactClassSizes", fn := fun _ => fun
  | [d1, d2, d3, d4] => { results := [.lit (.bool true)], args := [d1, d2, d3, d4] }
  | _ => none }
def fnExactClassSizesRow : OpenClaim := { program := "ytjgfofcgmcnblaagreat", sum := "d3818cfd617a4737862109f4dddb77394af572bbcc07b6b4538ace6b462258c6", func := "loop.example/g00697/laws.FnExactClassSizes", spec := "fnExactClassSizes", unfollowed := true, recurses := true, plainKeys := false, apart := false }
def FnExactClassSizesSaid : Prop := fnExactClassSizesRow.holds Tryz.pinned (OpenSpec.ofChange fnExactClassSizesSpec)

/-- ITS FALSE NEIGHBOUR: 'it returns false'. Refute it at one input. -/
def fnExactClassSizesWrong : ChangeSpec := { name := "fnExactClassSizes", fn := fun _ => fun
  | [d1, d2, d3, d4] => { results := [.lit (.bool false)], args := [d1, d2, d3, d4] }
  | _ => none }
def FnExactClassSizesWrongFalsely : Prop := fnExactClassSizesRow.holds Tryz.pinned (OpenSpec.ofChange fnExactClassSizesWrong)

/-- 'laws.FnExactValueDia': WHATEVER THE INPUT: true; the input reads as it did. -/
def fnExactValueDiaSpec : ChangeSpec := { name := "fnExactValueDia", fn := fun _ => fun
  | [d1, d2, d3, d4] => { results := [.lit (.bool true)], args := [d1, d2, d3, d4] }
  | _ => none }
def fnExactValueDiaRow : OpenClaim := { program := "ytjgfofcgmcnblaagreat", sum := "d3818cfd617a4737862109f4dddb77394af572bbcc07b6b4538ace6b462258c6", func := "loop.example/g00697/laws.FnExactValueDia", spec := "fnExactValueDia", unfollowed := true, recurses := true, plainKeys := false, apart := false }
def FnExactValueDiaSaid : Prop := fnExactValueDiaRow.holds Tryz.pinned (OpenSpec.ofChange fnExactValueDiaSpec)

/-- ITS FALSE NEIGHBOUR: 'it returns false'. Refute it at one input. -/
def fnExactValueDiaWrong : ChangeSpec := { name := "fnExactValueDia", fn := fun _ => fun
  | [d1, d2, d3, d4] => { results := [.lit (.bool false)], args := [d1, d2, d3, d4] }
  | _ => none }
def FnExactValueDiaWrongFalsely : Prop := fnExactValueDiaRow.holds Tryz.pinned (OpenSpec.ofChange fnExactValueDiaWrong)

/-- 'laws.FnExactOutcomesOf': WHATEVER THE INPUT: true; the input reads as it did. -/
def fnExactOutcomesOfSpec : ChangeSpec := { name := "fnExactOutcomesOf", fn := fun _ => fun
  | [d1, d2, d3, d4] => { results := [.lit (.bool true)], args := [d1, d2, d3, d4] }
  | _ => none }
def fnExactOutcomesOfRow : OpenClaim := { program := "ytjgfofcgmcnblaagreat", sum := "d3818cfd617a4737862109f4dddb77394af572bbcc07b6b4538ace6b462258c6", func := "loop.example/g00697/laws.FnExactOutcomesOf", spec := "fnExactOutcomesOf", unfollowed := true, recurses := true, plainKeys := false, apart := false }
def FnExactOutcomesOfSaid : Prop := fnExactOutcomesOfRow.holds Tryz.pinned (OpenSpec.ofChange fnExactOutcomesOfSpec)

/-- ITS FALSE NEIGHBOUR: 'it returns false'. Refute it at one input. -/
def fnExactOutcomesOfWrong : ChangeSpec := { name := "fnExactOutcomesOf", fn := fun _ => fun
  | [d1, d2, d3, d4] => { results := [.lit (.bool false)], args := [d1, d2, d3, d4] }
  | _ => none }
def FnExactOutcomesOfWrongFalsely : Prop := fnExactOutcomesOfRow.holds Tryz.pinned (OpenSpec.ofChange fnExactOutcomesOfWrong)

/-- 'laws.FnExactJudge': WHATEVER THE INPUT: true; the input reads as it did. -/
def fnExactJudgeSpec : ChangeSpec := { name := "fnExactJudge", fn := fun _ => fun
  | [d] => { results := [.lit (.bool true)], args := [d] }
  | _ => none }
def fnExactJudgeRow : OpenClaim := { program := "ytjgfofcgmcnblaagreat", sum := "d3818cfd617a4737862109f4dddb77394af572bbcc07b6b4538ace6b462258c6", func := "loop.example/g00697/laws.FnExactJudge", spec := "fnExactJudge", unfollowed := true, recurses := true, plainKeys := false, apart := false }
def FnExactJudgeSaid : Prop := fnExactJudgeRow.holds Tryz.pinned (OpenSpec.ofChange fnExactJudgeSpec)

/-- ITS FALSE NEIGHBOUR: 'it returns false'. Refute it at one input. -/
def fnExactJudgeWrong : ChangeSpec := { name := "fnExactJudge", fn := fun _ => fun
  | [d] => { results := [.lit (.bool false)], args := [d] }
  | _ => none }
def FnExactJudgeWrongFalsely : Prop := fnExactJudgeRow.holds Tryz.pinned (OpenSpec.ofChange fnExactJudgeWrong)

/- THE SECOND FORM. 'bulk': how many values and letters a reading holds, each counted each time it is reached (what is shared counts as often as it is met; a slice's spare places count too). A statement '..UptoSaid' is the law's where the arguments, and the package variables that the reading takes, are together of bulk at most 1048576: NARROWER than '..Said'. Prove '..Said' where nothing that the law and all that it calls make is longer than what came in: it says more and counts as full. Else prove '..UptoSaid'. A law counts once. -/
mutual
def uptoBulk {H : Type} : DataW H → Nat
  | .lit (.string bytes) => bytes.length + 1
  | .lit _ => 1
  | .nil => 1
  | .ptr d => uptoBulk d + 1
  | .slice elems spare => uptoBulkAll elems + uptoBulkAll spare + 1
  | .agg parts => uptoBulkAll parts + 1
  | .iface _ d => uptoBulk d + 1
  | .map entries => uptoBulkEntries entries + 1
  | .held _ => 1
def uptoBulkAll {H : Type} : List (DataW H) → Nat
  | [] => 0
  | d :: r => uptoBulk d + uptoBulkAll r
def uptoBulkEntries {H : Type} : List (Lit × DataW H) → Nat
  | [] => 0
  | x :: r => uptoBulkEntry x + uptoBulkEntries r
def uptoBulkEntry {H : Type} : Lit × DataW H → Nat
  | (.string bytes, d) => bytes.length + uptoBulk d + 1
  | (_, d) => uptoBulk d + 1
 end
def uptoSmall : (H : Type) → List (DataW H) → Bool := fun _ ds => decide (uptoBulkAll ds ≤ 1048576)
def OpenSpec.upto (s : _root_.Go.ChangeSpec) : _root_.Go.OpenSpec := { _root_.Go.OpenSpec.ofChange s with cond := some uptoSmall }

/-- 'laws.FnValueBits', WHERE WHAT IT READS IS OF BULK AT MOST 1048576: true; the input reads as it did. -/
def fnValueBitsUptoRow : OpenClaim := { program := "ytjgfofcgmcnblaagreat", sum := "d3818cfd617a4737862109f4dddb77394af572bbcc07b6b4538ace6b462258c6", func := "loop.example/g00697/laws.FnValueBits", spec := "fnValueBits", unfollowed := true, recurses := true, plainKeys := false, apart := false, narrowed := true }
def FnValueBitsUptoSaid : Prop := fnValueBitsUptoRow.holds Tryz.pinned (OpenSpec.upto fnValueBitsSpec)

/-- 'laws.FnWeigh', WHERE WHAT IT READS IS OF BULK AT MOST 1048576: true; the input reads as it did. -/
def fnWeighUptoRow : OpenClaim := { program := "ytjgfofcgmcnblaagreat", sum := "d3818cfd617a4737862109f4dddb77394af572bbcc07b6b4538ace6b462258c6", func := "loop.example/g00697/laws.FnWeigh", spec := "fnWeigh", unfollowed := true, recurses := true, plainKeys := false, apart := false, narrowed := true }
def FnWeighUptoSaid : Prop := fnWeighUptoRow.holds Tryz.pinned (OpenSpec.upto fnWeighSpec)

/-- 'laws.FnExactMostJoint', WHERE WHAT IT READS IS OF BULK AT MOST 1048576: true; the input reads as it did. -/
def fnExactMostJointUptoRow : OpenClaim := { program := "ytjgfofcgmcnblaagreat", sum := "d3818cfd617a4737862109f4dddb77394af572bbcc07b6b4538ace6b462258c6", func := "loop.example/g00697/laws.FnExactMostJoint", spec := "fnExactMostJoint", unfollowed := true, recurses := true, plainKeys := false, apart := false, narrowed := true }
def FnExactMostJointUptoSaid : Prop := fnExactMostJointUptoRow.holds Tryz.pinned (OpenSpec.upto fnExactMostJointSpec)

/-- 'laws.FnExactMostFor', WHERE WHAT IT READS IS OF BULK AT MOST 1048576: true; the input reads as it did. -/
def fnExactMostForUptoRow : OpenClaim := { program := "ytjgfofcgmcnblaagreat", sum := "d3818cfd617a4737862109f4dddb77394af572bbcc07b6b4538ace6b462258c6", func := "loop.example/g00697/laws.FnExactMostFor", spec := "fnExactMostFor", unfollowed := true, recurses := true, plainKeys := false, apart := false, narrowed := true }
def FnExactMostForUptoSaid : Prop := fnExactMostForUptoRow.holds Tryz.pinned (OpenSpec.upto fnExactMostForSpec)

/-- 'laws.FnShapes', WHERE WHAT IT READS IS OF BULK AT MOST 1048576: true; the input reads as it did. -/
def fnShapesUptoRow : OpenClaim := { program := "ytjgfofcgmcnblaagreat", sum := "d3818cfd617a4737862109f4dddb77394af572bbcc07b6b4538ace6b462258c6", func := "loop.example/g00697/laws.FnShapes", spec := "fnShapes", unfollowed := true, recurses := true, plainKeys := false, apart := false, narrowed := true }
def FnShapesUptoSaid : Prop := fnShapesUptoRow.holds Tryz.pinned (OpenSpec.upto fnShapesSpec)

/-- 'laws.FnMost', WHERE WHAT IT READS IS OF BULK AT MOST 1048576: true; the input reads as it did. -/
def fnMostUptoRow : OpenClaim := { program := "ytjgfofcgmcnblaagreat", sum := "d3818cfd617a4737862109f4dddb77394af572bbcc07b6b4538ace6b462258c6", func := "loop.example/g00697/laws.FnMost", spec := "fnMost", unfollowed := true, recurses := true, plainKeys := false, apart := false, narrowed := true }
def FnMostUptoSaid : Prop := fnMostUptoRow.holds Tryz.pinned (OpenSpec.upto fnMostSpec)

/-- 'laws.FnExactAllOutcomes', WHERE WHAT IT READS IS OF BULK AT MOST 1048576: true; the input reads as it did. -/
def fnExactAllOutcomesUptoRow : OpenClaim := { program := "ytjgfofcgmcnblaagreat", sum := "d3818cfd617a4737862109f4dddb77394af572bbcc07b6b4538ace6b462258c6", func := "loop.example/g00697/laws.FnExactAllOutcomes", spec := "fnExactAllOutcomes", unfollowed := true, recurses := true, plainKeys := false, apart := false, narrowed := true }
def FnExactAllOutcomesUptoSaid : Prop := fnExactAllOutcomesUptoRow.holds Tryz.pinned (OpenSpec.upto fnExactAllOutcomesSpec)

/-- 'laws.FnExactOddsOf', WHERE WHAT IT READS IS OF BULK AT MOST 1048576: true; the input reads as it did. -/
def fnExactOddsOfUptoRow : OpenClaim := { program := "ytjgfofcgmcnblaagreat", sum := "d3818cfd617a4737862109f4dddb77394af572bbcc07b6b4538ace6b462258c6", func := "loop.example/g00697/laws.FnExactOddsOf", spec := "fnExactOddsOf", unfollowed := true, recurses := true, plainKeys := false, apart := false, narrowed := true }
def FnExactOddsOfUptoSaid : Prop := fnExactOddsOfUptoRow.holds Tryz.pinned (OpenSpec.upto fnExactOddsOfSpec)

/-- 'laws.FnExactWeigh', WHERE WHAT IT READS IS OF BULK AT MOST 1048576: true; the input reads as it did. -/
def fnExactWeighUptoRow : OpenClaim := { program := "ytjgfofcgmcnblaagreat", sum := "d3818cfd617a4737862109f4dddb77394af572bbcc07b6b4538ace6b462258c6", func := "loop.example/g00697/laws.FnExactWeigh", spec := "fnExactWeigh", unfollowed := true, recurses := true, plainKeys := false, apart := false, narrowed := true }
def FnExactWeighUptoSaid : Prop := fnExactWeighUptoRow.holds Tryz.pinned (OpenSpec.upto fnExactWeighSpec)

/-- 'laws.FnExactShapesOf', WHERE WHAT IT READS IS OF BULK AT MOST 1048576: true; the input reads as it did. -/
def fnExactShapesOfUptoRow : OpenClaim := { program := "ytjgfofcgmcnblaagreat", sum := "d3818cfd617a4737862109f4dddb77394af572bbcc07b6b4538ace6b462258c6", func := "loop.example/g00697/laws.FnExactShapesOf", spec := "fnExactShapesOf", unfollowed := true, recurses := true, plainKeys := false, apart := false, narrowed := true }
def FnExactShapesOfUptoSaid : Prop := fnExactShapesOfUptoRow.holds Tryz.pinned (OpenSpec.upto fnExactShapesOfSpec)

/-- 'laws.FnExactWeighShape', WHERE WHAT IT READS IS OF BULK AT MOST 1048576: true; the input reads as it did. -/
def fnExactWeighShapeUptoRow : OpenClaim := { program := "ytjgfofcgmcnblaagreat", sum := "d3818cfd617a4737862109f4dddb77394af572bbcc07b6b4538ace6b462258c6", func := "loop.example/g00697/laws.FnExactWeighShape", spec := "fnExactWeighShape", unfollowed := true, recurses := true, plainKeys := false, apart := false, narrowed := true }
def FnExactWeighShapeUptoSaid : Prop := fnExactWeighShapeUptoRow.holds Tryz.pinned (OpenSpec.upto fnExactWeighShapeSpec)

/-- 'laws.FnExactRangeDia', WHERE WHAT IT READS IS OF BULK AT MOST 1048576: true; the input reads as it did. -/
def fnExactRangeDiaUptoRow : OpenClaim := { program := "ytjgfofcgmcnblaagreat", sum := "d3818cfd617a4737862109f4dddb77394af572bbcc07b6b4538ace6b462258c6", func := "loop.example/g00697/laws.FnExactRangeDia", spec := "fnExactRangeDia", unfollowed := true, recurses := true, plainKeys := false, apart := false, narrowed := true }
def FnExactRangeDiaUptoSaid : Prop := fnExactRangeDiaUptoRow.holds Tryz.pinned (OpenSpec.upto fnExactRangeDiaSpec)

/-- 'laws.FnExactShapeDia', WHERE WHAT IT READS IS OF BULK AT MOST 1048576: true; the input reads as it did. -/
def fnExactShapeDiaUptoRow : OpenClaim := { program := "ytjgfofcgmcnblaagreat", sum := "d3818cfd617a4737862109f4dddb77394af572bbcc07b6b4538ace6b462258c6", func := "loop.example/g00697/laws.FnExactShapeDia", spec := "fnExactShapeDia", unfollowed := true, recurses := true, plainKeys := false, apart := false, narrowed := true }
def FnExactShapeDiaUptoSaid : Prop := fnExactShapeDiaUptoRow.holds Tryz.pinned (OpenSpec.upto fnExactShapeDiaSpec)

/-- 'laws.FnExactClassSizes', WHERE WHAT IT READS IS OF BULK AT MOST 1048576: true; the input reads as it did. -/
def fnExactClassSizesUptoRow : OpenClaim := { program := "ytjgfofcgmcnblaagreat", sum := "d3818cfd617a4737862109f4dddb77394af572bbcc07b6b4538ace6b462258c6", func := "loop.example/g00697/laws.FnExactClassSizes", spec := "fnExactClassSizes", unfollowed := true, recurses := true, plainKeys := false, apart := false, narrowed := true }
def FnExactClassSizesUptoSaid : Prop := fnExactClassSizesUptoRow.holds Tryz.pinned (OpenSpec.upto fnExactClassSizesSpec)

/-- 'laws.FnExactValueDia', WHERE WHAT IT READS IS OF BULK AT MOST 1048576: true; the input reads as it did. -/
def fnExactValueDiaUptoRow : OpenClaim := { program := "ytjgfofcgmcnblaagreat", sum := "d3818cfd617a4737862109f4dddb77394af572bbcc07b6b4538ace6b462258c6", func := "loop.example/g00697/laws.FnExactValueDia", spec := "fnExactValueDia", unfollowed := true, recurses := true, plainKeys := false, apart := false, narrowed := true }
def FnExactValueDiaUptoSaid : Prop := fnExactValueDiaUptoRow.holds Tryz.pinned (OpenSpec.upto fnExactValueDiaSpec)

/-- 'laws.FnExactOutcomesOf', WHERE WHAT IT READS IS OF BULK AT MOST 1048576: true; the input reads as it did. -/
def fnExactOutcomesOfUptoRow : OpenClaim := { program := "ytjgfofcgmcnblaagreat", sum := "d3818cfd617a4737862109f4dddb77394af572bbcc07b6b4538ace6b462258c6", func := "loop.example/g00697/laws.FnExactOutcomesOf", spec := "fnExactOutcomesOf", unfollowed := true, recurses := true, plainKeys := false, apart := false, narrowed := true }
def FnExactOutcomesOfUptoSaid : Prop := fnExactOutcomesOfUptoRow.holds Tryz.pinned (OpenSpec.upto fnExactOutcomesOfSpec)

/-- 'laws.FnExactJudge', WHERE WHAT IT READS IS OF BULK AT MOST 1048576: true; the input reads as it did. -/
def fnExactJudgeUptoRow : OpenClaim := { program := "ytjgfofcgmcnblaagreat", sum := "d3818cfd617a4737862109f4dddb77394af572bbcc07b6b4538ace6b462258c6", func := "loop.example/g00697/laws.FnExactJudge", spec := "fnExactJudge", unfollowed := true, recurses := true, plainKeys := false, apart := false, narrowed := true }
def FnExactJudgeUptoSaid : Prop := fnExactJudgeUptoRow.holds Tryz.pinned (OpenSpec.upto fnExactJudgeSpec)

end Rows
end Go.Proofs.YtjgfofcgmcnblaaGreat
