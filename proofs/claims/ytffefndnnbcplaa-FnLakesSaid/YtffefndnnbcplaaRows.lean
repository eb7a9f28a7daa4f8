/-
  No cell of these rows narrows 'for every input' (looked for: loops, veiled, ifaces, maps, wideKeys, modest, calm, conditions, laid).
  DERIVED. THE GIVEN ROWS OF THIS SEAT. 19 by the template 'for every input the law returns true; each argument reads behind the call as it read before'; 0 by the template 'total and deterministic' (their statements: YtffefndnnbcplaaTotals.lean).
  GIVEN WITH THE SEED: the statements are not yours to turn. If you find one false, say at which input.
  Laid BY PROGRAM, IN A SANDBOX (cutbox-rows.mjs): the forced cells as the released guide's own fill.sh prints them over the translation 9da6655ea900e983… (all of the seat's roots in one cut). By AI agents, Wed Nov 11 2026. No macro, syntax, notation, axiom, sorry.
-/
import Derived.Test.YtffefndnnbcplaaChecked
import GoSem.Claim
import GoSem.ClaimJoined
import GoSem.ClaimMapViews
import Derived.JoinedTies
import Derived.KernelRfl
namespace Go.Proofs.Ytffefndnnbcplaa
/- THE CELL 'sum', in the pinned program and in every row, IS THE sha256 OF THE DUMP (.gsa) THAT YtffefndnnbcplaaProg.lean LOADS. Nothing in Lean hashes anything: it is a label: what it is worth is what the hold of that sum in a sandbox is worth. -/
noncomputable def Try.pinned : Pinned := { name := "ytffefndnnbcplaa", sum := "9da6655ea900e9835e03011e41c5cecf2735e81344d548591808b3fd544c9f90", checked := Try.checked }
namespace Rows
def none {H : Type} : Left H := { results := [], args := [] }

/-- 'laws.FnActive': WHATEVER THE INPUT: true; the input reads as it did. -/
def fnActiveSpec : ChangeSpec := { name := "fnActive", fn := fun _ => fun
  | [d] => { results := [.lit (.bool true)], args := [d] }
  | _ => none }
def fnActiveRow : OpenClaim := { program := "ytffefndnnbcplaa", sum := "9da6655ea900e9835e03011e41c5cecf2735e81344d548591808b3fd544c9f90", func := "loop.example/g00982/laws.FnActive", spec := "fnActive", recurses := true, apart := false }
def FnActiveSaid : Prop := fnActiveRow.holds Try.pinned (OpenSpec.ofChange fnActiveSpec)

/-- ITS FALSE NEIGHBOUR: 'it returns false'. Refute it at one input. -/
def fnActiveWrong : ChangeSpec := { name := "fnActive", fn := fun _ => fun
  | [d] => { results := [.lit (.bool false)], args := [d] }
  | _ => none }
def FnActiveWrongFalsely : Prop := fnActiveRow.holds Try.pinned (OpenSpec.ofChange fnActiveWrong)

/-- 'laws.FnCosts': WHATEVER THE INPUT: true; the input reads as it did. -/
def fnCostsSpec : ChangeSpec := { name := "fnCosts", fn := fun _ => fun
  | [d] => { results := [.lit (.bool true)], args := [d] }
  | _ => none }
def fnCostsRow : OpenClaim := { program := "ytffefndnnbcplaa", sum := "9da6655ea900e9835e03011e41c5cecf2735e81344d548591808b3fd544c9f90", func := "loop.example/g00982/laws.FnCosts", spec := "fnCosts", recurses := true, apart := false }
def FnCostsSaid : Prop := fnCostsRow.holds Try.pinned (OpenSpec.ofChange fnCostsSpec)

/-- ITS FALSE NEIGHBOUR: 'it returns false'. Refute it at one input. -/
def fnCostsWrong : ChangeSpec := { name := "fnCosts", fn := fun _ => fun
  | [d] => { results := [.lit (.bool false)], args := [d] }
  | _ => none }
def FnCostsWrongFalsely : Prop := fnCostsRow.holds Try.pinned (OpenSpec.ofChange fnCostsWrong)

/-- 'laws.FnFluxes': WHATEVER THE INPUT: true; the input reads as it did. -/
def fnFluxesSpec : ChangeSpec := { name := "fnFluxes", fn := fun _ => fun
  | [d] => { results := [.lit (.bool true)], args := [d] }
  | _ => none }
def fnFluxesRow : OpenClaim := { program := "ytffefndnnbcplaa", sum := "9da6655ea900e9835e03011e41c5cecf2735e81344d548591808b3fd544c9f90", func := "loop.example/g00982/laws.FnFluxes", spec := "fnFluxes", unfollowed := true, recurses := true, apart := false }
def FnFluxesSaid : Prop := fnFluxesRow.holds Try.pinned (OpenSpec.ofChange fnFluxesSpec)

/-- ITS FALSE NEIGHBOUR: 'it returns false'. Refute it at one input. -/
def fnFluxesWrong : ChangeSpec := { name := "fnFluxes", fn := fun _ => fun
  | [d] => { results := [.lit (.bool false)], args := [d] }
  | _ => none }
def FnFluxesWrongFalsely : Prop := fnFluxesRow.holds Try.pinned (OpenSpec.ofChange fnFluxesWrong)

/-- 'laws.FnWishes': WHATEVER THE INPUT: true; the input reads as it did. -/
def fnWishesSpec : ChangeSpec := { name := "fnWishes", fn := fun _ => fun
  | [d] => { results := [.lit (.bool true)], args := [d] }
  | _ => none }
def fnWishesRow : OpenClaim := { program := "ytffefndnnbcplaa", sum := "9da6655ea900e9835e03011e41c5cecf2735e81344d548591808b3fd544c9f90", func := "loop.example/g00982/laws.FnWishes", spec := "fnWishes", unfollowed := true, recurses := true, apart := false }
def FnWishesSaid : Prop := fnWishesRow.holds Try.pinned (OpenSpec.ofChange fnWishesSpec)

/-- ITS FALSE NEIGHBOUR: 'it returns false'. Refute it at one input. -/
def fnWishesWrong : ChangeSpec := { name := "fnWishes", fn := fun _ => fun
  | [d] => { results := [.lit (.bool false)], args := [d] }
  | _ => none }
def FnWishesWrongFalsely : Prop := fnWishesRow.holds Try.pinned (OpenSpec.ofChange fnWishesWrong)

/-- 'laws.FnDriedOut': WHATEVER THE INPUT: true; the input reads as it did. -/
def fnDriedOutSpec : ChangeSpec := { name := "fnDriedOut", fn := fun _ => fun
  | [d] => { results := [.lit (.bool true)], args := [d] }
  | _ => none }
def fnDriedOutRow : OpenClaim := { program := "ytffefndnnbcplaa", sum := "9da6655ea900e9835e03011e41c5cecf2735e81344d548591808b3fd544c9f90", func := "loop.example/g00982/laws.FnDriedOut", spec := "fnDriedOut", unfollowed := true, recurses := true, apart := false }
def FnDriedOutSaid : Prop := fnDriedOutRow.holds Try.pinned (OpenSpec.ofChange fnDriedOutSpec)

/-- ITS FALSE NEIGHBOUR: 'it returns false'. Refute it at one input. -/
def fnDriedOutWrong : ChangeSpec := { name := "fnDriedOut", fn := fun _ => fun
  | [d] => { results := [.lit (.bool false)], args := [d] }
  | _ => none }
def FnDriedOutWrongFalsely : Prop := fnDriedOutRow.holds Try.pinned (OpenSpec.ofChange fnDriedOutWrong)

/-- 'laws.FnBorders': WHATEVER THE INPUT: true; the input reads as it did. -/
def fnBordersSpec : ChangeSpec := { name := "fnBorders", fn := fun _ => fun
  | [d] => { results := [.lit (.bool true)], args := [d] }
  | _ => none }
def fnBordersRow : OpenClaim := { program := "ytffefndnnbcplaa", sum := "9da6655ea900e9835e03011e41c5cecf2735e81344d548591808b3fd544c9f90", func := "loop.example/g00982/laws.FnBorders", spec := "fnBorders", unfollowed := true, recurses := true, apart := false }
def FnBordersSaid : Prop := fnBordersRow.holds Try.pinned (OpenSpec.ofChange fnBordersSpec)

/-- ITS FALSE NEIGHBOUR: 'it returns false'. Refute it at one input. -/
def fnBordersWrong : ChangeSpec := { name := "fnBorders", fn := fun _ => fun
  | [d] => { results := [.lit (.bool false)], args := [d] }
  | _ => none }
def FnBordersWrongFalsely : Prop := fnBordersRow.holds Try.pinned (OpenSpec.ofChange fnBordersWrong)

/-- 'laws.FnSteepest': WHATEVER THE INPUT: true; the input reads as it did. -/
def fnSteepestSpec : ChangeSpec := { name := "fnSteepest", fn := fun _ => fun
  | [d] => { results := [.lit (.bool true)], args := [d] }
  | _ => none }
def fnSteepestRow : OpenClaim := { program := "ytffefndnnbcplaa", sum := "9da6655ea900e9835e03011e41c5cecf2735e81344d548591808b3fd544c9f90", func := "loop.example/g00982/laws.FnSteepest", spec := "fnSteepest", unfollowed := true, recurses := true, apart := false }
def FnSteepestSaid : Prop := fnSteepestRow.holds Try.pinned (OpenSpec.ofChange fnSteepestSpec)

/-- ITS FALSE NEIGHBOUR: 'it returns false'. Refute it at one input. -/
def fnSteepestWrong : ChangeSpec := { name := "fnSteepest", fn := fun _ => fun
  | [d] => { results := [.lit (.bool false)], args := [d] }
  | _ => none }
def FnSteepestWrongFalsely : Prop := fnSteepestRow.holds Try.pinned (OpenSpec.ofChange fnSteepestWrong)

/-- 'laws.FnDecays': WHATEVER THE INPUT: true; the input reads as it did. -/
def fnDecaysSpec : ChangeSpec := { name := "fnDecays", fn := fun _ => fun
  | [d] => { results := [.lit (.bool true)], args := [d] }
  | _ => none }
def fnDecaysRow : OpenClaim := { program := "ytffefndnnbcplaa", sum := "9da6655ea900e9835e03011e41c5cecf2735e81344d548591808b3fd544c9f90", func := "loop.example/g00982/laws.FnDecays", spec := "fnDecays", unfollowed := true, recurses := true, apart := false }
def FnDecaysSaid : Prop := fnDecaysRow.holds Try.pinned (OpenSpec.ofChange fnDecaysSpec)

/-- ITS FALSE NEIGHBOUR: 'it returns false'. Refute it at one input. -/
def fnDecaysWrong : ChangeSpec := { name := "fnDecays", fn := fun _ => fun
  | [d] => { results := [.lit (.bool false)], args := [d] }
  | _ => none }
def FnDecaysWrongFalsely : Prop := fnDecaysRow.holds Try.pinned (OpenSpec.ofChange fnDecaysWrong)

/-- 'laws.FnRains': WHATEVER THE INPUT: true; the input reads as it did. -/
def fnRainsSpec : ChangeSpec := { name := "fnRains", fn := fun _ => fun
  | [d] => { results := [.lit (.bool true)], args := [d] }
  | _ => none }
def fnRainsRow : OpenClaim := { program := "ytffefndnnbcplaa", sum := "9da6655ea900e9835e03011e41c5cecf2735e81344d548591808b3fd544c9f90", func := "loop.example/g00982/laws.FnRains", spec := "fnRains", unfollowed := true, recurses := true, apart := false }
def FnRainsSaid : Prop := fnRainsRow.holds Try.pinned (OpenSpec.ofChange fnRainsSpec)

/-- ITS FALSE NEIGHBOUR: 'it returns false'. Refute it at one input. -/
def fnRainsWrong : ChangeSpec := { name := "fnRains", fn := fun _ => fun
  | [d] => { results := [.lit (.bool false)], args := [d] }
  | _ => none }
def FnRainsWrongFalsely : Prop := fnRainsRow.holds Try.pinned (OpenSpec.ofChange fnRainsWrong)

/-- 'laws.FnShareRange': WHATEVER THE INPUT: true; the input reads as it did. -/
def fnShareRangeSpec : ChangeSpec := { name := "fnShareRange", fn := fun _ => fun
  | [d] => { results := [.lit (.bool true)], args := [d] }
  | _ => none }
def fnShareRangeRow : OpenClaim := { program := "ytffefndnnbcplaa", sum := "9da6655ea900e9835e03011e41c5cecf2735e81344d548591808b3fd544c9f90", func := "loop.example/g00982/laws.FnShareRange", spec := "fnShareRange", unfollowed := true, recurses := true, apart := false }
def FnShareRangeSaid : Prop := fnShareRangeRow.holds Try.pinned (OpenSpec.ofChange fnShareRangeSpec)

/-- ITS FALSE NEIGHBOUR: 'it returns false'. Refute it at one input. -/
def fnShareRangeWrong : ChangeSpec := { name := "fnShareRange", fn := fun _ => fun
  | [d] => { results := [.lit (.bool false)], args := [d] }
  | _ => none }
def FnShareRangeWrongFalsely : Prop := fnShareRangeRow.holds Try.pinned (OpenSpec.ofChange fnShareRangeWrong)

/-- 'laws.FnLakes': WHATEVER THE INPUT: true; the input reads as it did. -/
def fnLakesSpec : ChangeSpec := { name := "fnLakes", fn := fun _ => fun
  | [d] => { results := [.lit (.bool true)], args := [d] }
  | _ => none }
def fnLakesRow : OpenClaim := { program := "ytffefndnnbcplaa", sum := "9da6655ea900e9835e03011e41c5cecf2735e81344d548591808b3fd544c9f90", func := "loop.example/g00982/laws.FnLakes", spec := "fnLakes", unfollowed := true, recurses := true, apart := false }
def FnLakesSaid : Prop := fnLakesRow.holds Try.pinned (OpenSpec.ofChange fnLakesSpec)

/-- ITS FALSE NEIGHBOUR: 'it returns false'. Refute it at one input. -/
def fnLakesWrong : ChangeSpec := { name := "fnLakes", fn := fun _ => fun
  | [d] => { results := [.lit (.bool false)], args := [d] }
  | _ => none }
def FnLakesWrongFalsely : Prop := fnLakesRow.holds Try.pinned (OpenSpec.ofChange fnLakesWrong)

/-- 'laws.FnSharesKept': WHATEVER THE INPUT: true; the input reads as it did. -/
def fnSharesKeptSpec : ChangeSpec := { name := "fnSharesKept", fn := fun _ => fun
  | [d] => { results := [.lit (.bool true)], args := [d] }
  | _ => none }
def fnSharesKeptRow : OpenClaim := { program := "ytffefndnnbcplaa", sum := "9da6655ea900e9835e03011e41c5cecf2735e81344d548591808b3fd544c9f90", func := "loop.example/g00982/laws.FnSharesKept", spec := "fnSharesKept", unfollowed := true, recurses := true, apart := false }
def FnSharesKeptSaid : Prop := fnSharesKeptRow.holds Try.pinned (OpenSpec.ofChange fnSharesKeptSpec)

/-- ITS FALSE NEIGHBOUR: 'it returns false'. Refute it at one input. -/
def fnSharesKeptWrong : ChangeSpec := { name := "fnSharesKept", fn := fun _ => fun
  | [d] => { results := [.lit (.bool false)], args := [d] }
  | _ => none }
def FnSharesKeptWrongFalsely : Prop := fnSharesKeptRow.holds Try.pinned (OpenSpec.ofChange fnSharesKeptWrong)

/-- 'laws.FnConserved': WHATEVER THE INPUT: true; the input reads as it did. -/
def fnConservedSpec : ChangeSpec := { name := "fnConserved", fn := fun _ => fun
  | [d] => { results := [.lit (.bool true)], args := [d] }
  | _ => none }
def fnConservedRow : OpenClaim := { program := "ytffefndnnbcplaa", sum := "9da6655ea900e9835e03011e41c5cecf2735e81344d548591808b3fd544c9f90", func := "loop.example/g00982/laws.FnConserved", spec := "fnConserved", unfollowed := true, recurses := true, apart := false }
def FnConservedSaid : Prop := fnConservedRow.holds Try.pinned (OpenSpec.ofChange fnConservedSpec)

/-- ITS FALSE NEIGHBOUR: 'it returns false'. Refute it at one input. -/
def fnConservedWrong : ChangeSpec := { name := "fnConserved", fn := fun _ => fun
  | [d] => { results := [.lit (.bool false)], args := [d] }
  | _ => none }
def FnConservedWrongFalsely : Prop := fnConservedRow.holds Try.pinned (OpenSpec.ofChange fnConservedWrong)

/-- 'laws.FnExactFluxSum': WHATEVER THE INPUT: true; the input reads as it did. -/
def fnExactFluxSumSpec : ChangeSpec := { name := "fnExactFluxSum", fn := fun _ => fun
  | [d1, d2] => { results := [.lit (.bool true)], args := [d1, d2] }
  | _ => none }
def fnExactFluxSumRow : OpenClaim := { program := "ytffefndnnbcplaa", sum := "9da6655ea900e9835e03011e41c5cecf2735e81344d548591808b3fd544c9f90", func := "loop.example/g00982/laws.FnExactFluxSum", spec := "fnExactFluxSum", unfollowed := true, recurses := true, apart := false }
def FnExactFluxSumSaid : Prop := fnExactFluxSumRow.holds Try.pinned (OpenSpec.ofChange fnExactFluxSumSpec)

/-- ITS FALSE NEIGHBOUR: 'it returns false'. Refute it at one input. -/
def fnExactFluxSumWrong : ChangeSpec := { name := "fnExactFluxSum", fn := fun _ => fun
  | [d1, d2] => { results := [.lit (.bool false)], args := [d1, d2] }
  | _ => none }
def FnExactFluxSumWrongFalsely : Prop := fnExactFluxSumRow.holds Try.pinned (OpenSpec.ofChange fnExactFluxSumWrong)

/-- 'laws.FnToRest': WHATEVER THE INPUT: true; the input reads as it did. -/
def fnToRestSpec : ChangeSpec := { name := "fnToRest", fn := fun _ => fun
  | [d] => { results := [.lit (.bool true)], args := [d] }
  | _ => none }
def fnToRestRow : OpenClaim := { program := "ytffefndnnbcplaa", sum := "9da6655ea900e9835e03011e41c5cecf2735e81344d548591808b3fd544c9f90", func := "loop.example/g00982/laws.FnToRest", spec := "fnToRest", unfollowed := true, recurses := true, apart := false }
def FnToRestSaid : Prop := fnToRestRow.holds Try.pinned (OpenSpec.ofChange fnToRestSpec)

/-- ITS FALSE NEIGHBOUR: 'it returns false'. Refute it at one input. -/
def fnToRestWrong : ChangeSpec := { name := "fnToRest", fn := fun _ => fun
  | [d] => { results := [.lit (.bool false)], args := [d] }
  | _ => none }
def FnToRestWrongFalsely : Prop := fnToRestRow.holds Try.pinned (OpenSpec.ofChange fnToRestWrong)

/-- 'laws.FnExactStepsToRest': WHATEVER THE INPUT: true; the input reads as it did. -/
def fnExactStepsToRestSpec : ChangeSpec := { name := "fnExactStepsToRest", fn := fun _ => fun
  | [d1, d2] => { results := [.lit (.bool true)], args := [d1, d2] }
  | _ => none }
def fnExactStepsToRestRow : OpenClaim := { program := "ytffefndnnbcplaa", sum := "9da6655ea900e9835e03011e41c5cecf2735e81344d548591808b3fd544c9f90", func := "loop.example/g00982/laws.FnExactStepsToRest", spec := "fnExactStepsToRest", unfollowed := true, recurses := true, apart := false }
def FnExactStepsToRestSaid : Prop := fnExactStepsToRestRow.holds Try.pinned (OpenSpec.ofChange fnExactStepsToRestSpec)

/-- ITS FALSE NEIGHBOUR: 'it returns false'. Refute it at one input. -/
def fnExactStepsToRestWrong : ChangeSpec := { name := "fnExactStepsToRest", fn := fun _ => fun
  | [d1, d2] => { results := [.lit (.bool false)], args := [d1, d2] }
  | _ => none }
def FnExactStepsToRestWrongFalsely : Prop := fnExactStepsToRestRow.holds Try.pinned (OpenSpec.ofChange fnExactStepsToRestWrong)

/-- 'laws.FnExactStepState': WHATEVER THE INPUT: true; the input reads as it did. -/
def fnExactStepStateSpec : ChangeSpec := { name := "fnExactStepState", fn := fun _ => fun
  | [d1, d2] => { results := [.lit (.bool true)], args := [d1, d2] }
  | _ => none }
def fnExactStepStateRow : OpenClaim := { program := "ytffefndnnbcplaa", sum := "9da6655ea900e9835e03011e41c5cecf2735e81344d548591808b3fd544c9f90", func := "loop.example/g00982/laws.FnExactStepState", spec := "fnExactStepState", unfollowed := true, recurses := true, apart := false }
def FnExactStepStateSaid : Prop := fnExactStepStateRow.holds Try.pinned (OpenSpec.ofChange fnExactStepStateSpec)

/-- ITS FALSE NEIGHBOUR: 'it returns false'. Refute it at one input. -/
def fnExactStepStateWrong : ChangeSpec := { name := "fnExactStepState", fn := fun _ => fun
  | [d1, d2] => { results := [.lit (.bool false)], args := [d1, d2] }
  | _ => none }
def FnExactStepStateWrongFalsely : Prop := fnExactStepStateRow.holds Try.pinned (OpenSpec.ofChange fnExactStepStateWrong)

/-- 'laws.FnExactMacroStep': WHATEVER THE INPUT: true; the input reads as it did. -/
def fnExactMacroStepSpec : ChangeSpec := { name := "fnExactMacroStep", fn := fun _ => fun
  | [d] => { results := [.lit (.bool true)], args := [d] }
  | _ => none }
def fnExactMacroStepRow : OpenClaim := { program := "ytffefndnnbcplaa", sum := "9da6655ea900e9835e03011e41c5cecf2735e81344d548591808b3fd544c9f90", func := "loop.example/g00982/laws.FnExactMacroStep", spec := "fnExactMacroStep", unfollowed := true, recurses := true, apart := false }
def FnExactMacroStepSaid : Prop := fnExactMacroStepRow.holds Try.pinned (OpenSpec.ofChange fnExactMacroStepSpec)

/-- ITS FALSE NEIGHBOUR: 'it returns false'. Refute it at one input. -/
def fnExactMacroStepWrong : ChangeSpec := { name := "fnExactMacroStep", fn := fun _ => fun
  | [d] => { results := [.lit (.bool false)], args := [d] }
  | _ => none }
def FnExactMacroStepWrongFalsely : Prop := fnExactMacroStepRow.holds Try.pinned (OpenSpec.ofChange fnExactMacroStepWrong)

/-- 'laws.FnExactRunEvents': WHATEVER THE INPUT: true; the input reads as it did. -/
def fnExactRunEventsSpec : ChangeSpec := { name := "fnExactRunEvents", fn := fun _ => fun
  | [d1, d2] => { results := [.lit (.bool true)], args := [d1, d2] }
  | _ => none }
def fnExactRunEventsRow : OpenClaim := { program := "ytffefndnnbcplaa", sum := "9da6655ea900e9835e03011e41c5cecf2735e81344d548591808b3fd544c9f90", func := "loop.example/g00982/laws.FnExactRunEvents", spec := "fnExactRunEvents", unfollowed := true, recurses := true, apart := false }
def FnExactRunEventsSaid : Prop := fnExactRunEventsRow.holds Try.pinned (OpenSpec.ofChange fnExactRunEventsSpec)

/-- ITS FALSE NEIGHBOUR: 'it returns false'. Refute it at one input. -/
def fnExactRunEventsWrong : ChangeSpec := { name := "fnExactRunEvents", fn := fun _ => fun
  | [d1, d2] => { results := [.lit (.bool false)], args := [d1, d2] }
  | _ => none }
def FnExactRunEventsWrongFalsely : Prop := fnExactRunEventsRow.holds Try.pinned (OpenSpec.ofChange fnExactRunEventsWrong)

/- THE SECOND FORM. 'bulk': how many values and letters a reading holds, each counted each time it is reached (what is shared counts as often as it is met; a slice's spare places count too). A statement '..UptoSaid' is the law's where the arguments, and the package variables that the reading takes, are together of bulk at most 1048576: NARROWER than '..Said'. Prove '..Said' where nothing that the law and all that it calls make is longer than what came in: it says more and counts as full. Else prove '..UptoSaid'. A law counts once. -/
mutual
def uptoBulk {H : Type} : DataW H → Nat
  | .lit (.string bytes) => bytes.length + 1
  | .lit _ => 1
  | .nil => 1
  | .ptr d => uptoBulk d + 1
  | .slice elems spare => uptoBulkAll elems + uptoBulkAll spare + 1
  | .agg parts => uptoBulkAll parts + 1
  | .iface _ d => uptoBulk d + 1
  | .map entries => uptoBulkEntries entries + 1
  | .held _ => 1
def uptoBulkAll {H : Type} : List (DataW H) → Nat
  | [] => 0
  | d :: r => uptoBulk d + uptoBulkAll r
def uptoBulkEntries {H : Type} : List (Lit × DataW H) → Nat
  | [] => 0
  | x :: r => uptoBulkEntry x + uptoBulkEntries r
def uptoBulkEntry {H : Type} : Lit × DataW H → Nat
  | (.string bytes, d) => bytes.length + uptoBulk d + 1
  | (_, d) => uptoBulk d + 1
 end
def uptoSmall : (H : Type) → List (DataW H) → Bool := fun _ ds => decide (uptoBulkAll ds ≤ 1048576)
def OpenSpec.upto (s : _root_.Go.ChangeSpec) : _root_.Go.OpenSpec := { _root_.Go.OpenSpec.ofChange s with cond := some uptoSmall }

/-- 'laws.FnActive', WHERE WHAT IT READS IS OF BULK AT MOST 1048576: true; the input reads as it did. -/
def fnActiveUptoRow : OpenClaim := { program := "ytffefndnnbcplaa", sum := "9da6655ea900e9835e03011e41c5cecf2735e81344d548591808b3fd544c9f90", func := "loop.example/g00982/laws.FnActive", spec := "fnActive", recurses := true, apart := false, narrowed := true }
def FnActiveUptoSaid : Prop := fnActiveUptoRow.holds Try.pinned (OpenSpec.upto fnActiveSpec)

/-- 'laws.FnCosts', WHERE WHAT IT READS IS OF BULK AT MOST 1048576: true; the input reads as it did. -/
def fnCostsUptoRow : OpenClaim := { program := "ytffefndnnbcplaa", sum := "9da6655ea900e9835e03011e41c5cecf2735e81344d548591808b3fd544c9f90", func := "loop.example/g00982/laws.FnCosts", spec := "fnCosts", recurses := true, apart := false, narrowed := true }
def FnCostsUptoSaid : Prop := fnCostsUptoRow.holds Try.pinned (OpenSpec.upto fnCostsSpec)

/-- 'laws.FnFluxes', WHERE WHAT IT READS IS OF BULK AT MOST 1048576: true; the input reads as it did. -/
def fnFluxesUptoRow : OpenClaim := { program := "ytffefndnnbcplaa", sum := "9da6655ea900e9835e03011e41c5cecf2735e81344d548591808b3fd544c9f90", func := "loop.example/g00982/laws.FnFluxes", spec := "fnFluxes", unfollowed := true, recurses := true, apart := false, narrowed := true }
def FnFluxesUptoSaid : Prop := fnFluxesUptoRow.holds Try.pinned (OpenSpec.upto fnFluxesSpec)

/-- 'laws.FnWishes', WHERE WHAT IT READS IS OF BULK AT MOST 1048576: true; the input reads as it did. -/
def fnWishesUptoRow : OpenClaim := { program := "ytffefndnnbcplaa", sum := "9da6655ea900e9835e03011e41c5cecf2735e81344d548591808b3fd544c9f90", func := "loop.example/g00982/laws.FnWishes", spec := "fnWishes", unfollowed := true, recurses := true, apart := false, narrowed := true }
def FnWishesUptoSaid : Prop := fnWishesUptoRow.holds Try.pinned (OpenSpec.upto fnWishesSpec)

/-- 'laws.FnDriedOut', WHERE WHAT IT READS IS OF BULK AT MOST 1048576: true; the input reads as it did. -/
def fnDriedOutUptoRow : OpenClaim := { program := "ytffefndnnbcplaa", sum := "9da6655ea900e9835e03011e41c5cecf2735e81344d548591808b3fd544c9f90", func := "loop.example/g00982/laws.FnDriedOut", spec := "fnDriedOut", unfollowed := true, recurses := true, apart := false, narrowed := true }
def FnDriedOutUptoSaid : Prop := fnDriedOutUptoRow.holds Try.pinned (OpenSpec.upto fnDriedOutSpec)

/-- 'laws.FnBorders', WHERE WHAT IT READS IS OF BULK AT MOST 1048576: true; the input reads as it did. -/
def fnBordersUptoRow : OpenClaim := { program := "ytffefndnnbcplaa", sum := "9da6655ea900e9835e03011e41c5cecf2735e81344d548591808b3fd544c9f90", func := "loop.example/g00982/laws.FnBorders", spec := "fnBorders", unfollowed := true, recurses := true, apart := false, narrowed := true }
def FnBordersUptoSaid : Prop := fnBordersUptoRow.holds Try.pinned (OpenSpec.upto fnBordersSpec)

/-- 'laws.FnSteepest', WHERE WHAT IT READS IS OF BULK AT MOST 1048576: true; the input reads as it did. -/
def fnSteepestUptoRow : OpenClaim := { program := "ytffefndnnbcplaa", sum := "9da6655ea900e9835e03011e41c5cecf2735e81344d548591808b3fd544c9f90", func := "loop.example/g00982/laws.FnSteepest", spec := "fnSteepest", unfollowed := true, recurses := true, apart := false, narrowed := true }
def FnSteepestUptoSaid : Prop := fnSteepestUptoRow.holds Try.pinned (OpenSpec.upto fnSteepestSpec)

/-- 'laws.FnDecays', WHERE WHAT IT READS IS OF BULK AT MOST 1048576: true; the input reads as it did. -/
def fnDecaysUptoRow : OpenClaim := { program := "ytffefndnnbcplaa", sum := "9da6655ea900e9835e03011e41c5cecf2735e81344d548591808b3fd544c9f90", func := "loop.example/g00982/laws.FnDecays", spec := "fnDecays", unfollowed := true, recurses := true, apart := false, narrowed := true }
def FnDecaysUptoSaid : Prop := fnDecaysUptoRow.holds Try.pinned (OpenSpec.upto fnDecaysSpec)

/-- 'laws.FnRains', WHERE WHAT IT READS IS OF BULK AT MOST 1048576: true; the input reads as it did. -/
def fnRainsUptoRow : OpenClaim := { program := "ytffefndnnbcplaa", sum := "9da6655ea900e9835e03011e41c5cecf2735e81344d548591808b3fd544c9f90", func := "loop.example/g00982/laws.FnRains", spec := "fnRains", unfollowed := true, recurses := true, apart := false, narrowed := true }
def FnRainsUptoSaid : Prop := fnRainsUptoRow.holds Try.pinned (OpenSpec.upto fnRainsSpec)

/-- 'laws.FnShareRange', WHERE WHAT IT READS IS OF BULK AT MOST 1048576: true; the input reads as it did. -/
def fnShareRangeUptoRow : OpenClaim := { program := "ytffefndnnbcplaa", sum := "9da6655ea900e9835e03011e41c5cecf2735e81344d548591808b3fd544c9f90", func := "loop.example/g00982/laws.FnShareRange", spec := "fnShareRange", unfollowed := true, recurses := true, apart := false, narrowed := true }
def FnShareRangeUptoSaid : Prop := fnShareRangeUptoRow.holds Try.pinned (OpenSpec.upto fnShareRangeSpec)

/-- 'laws.FnLakes', WHERE WHAT IT READS IS OF BULK AT MOST 1048576: true; the input reads as it did. -/
def fnLakesUptoRow : OpenClaim := { program := "ytffefndnnbcplaa", sum := "9da6655ea900e9835e03011e41c5cecf2735e81344d548591808b3fd544c9f90", func := "loop.example/g00982/laws.FnLakes", spec := "fnLakes", unfollowed := true, recurses := true, apart := false, narrowed := true }
def FnLakesUptoSaid : Prop := fnLakesUptoRow.holds Try.pinned (OpenSpec.upto fnLakesSpec)

/-- 'laws.FnSharesKept', WHERE WHAT IT READS IS OF BULK AT MOST 1048576: true; the input reads as it did. -/
def fnSharesKeptUptoRow : OpenClaim := { program := "ytffefndnnbcplaa", sum := "9da6655ea900e9835e03011e41c5cecf2735e81344d548591808b3fd544c9f90", func := "loop.example/g00982/laws.FnSharesKept", spec := "fnSharesKept", unfollowed := true, recurses := true, apart := false, narrowed := true }
def FnSharesKeptUptoSaid : Prop := fnSharesKeptUptoRow.holds Try.pinned (OpenSpec.upto fnSharesKeptSpec)

/-- 'laws.FnConserved', WHERE WHAT IT READS IS OF BULK AT MOST 1048576: true; the input reads as it did. -/
def fnConservedUptoRow : OpenClaim := { program := "ytffefndnnbcplaa", sum := "9da6655ea900e9835e03011e41c5cecf2735e81344d548591808b3fd544c9f90", func := "loop.example/g00982/laws.FnConserved", spec := "fnConserved", unfollowed := true, recurses := true, apart := false, narrowed := true }
def FnConservedUptoSaid : Prop := fnConservedUptoRow.holds Try.pinned (OpenSpec.upto fnConservedSpec)

/-- 'laws.FnExactFluxSum', WHERE WHAT IT READS IS OF BULK AT MOST 1048576: true; the input reads as it did. -/
def fnExactFluxSumUptoRow : OpenClaim := { program := "ytffefndnnbcplaa", sum := "9da6655ea900e9835e03011e41c5cecf2735e81344d548591808b3fd544c9f90", func := "loop.example/g00982/laws.FnExactFluxSum", spec := "fnExactFluxSum", unfollowed := true, recurses := true, apart := false, narrowed := true }
def FnExactFluxSumUptoSaid : Prop := fnExactFluxSumUptoRow.holds Try.pinned (OpenSpec.upto fnExactFluxSumSpec)

/-- 'laws.FnToRest', WHERE WHAT IT READS IS OF BULK AT MOST 1048576: true; the input reads as it did. -/
def fnToRestUptoRow : OpenClaim := { program := "ytffefndnnbcplaa", sum := "9da6655ea900e9835e03011e41c5cecf2735e81344d548591808b3fd544c9f90", func := "loop.example/g00982/laws.FnToRest", spec := "fnToRest", unfollowed := true, recurses := true, apart := false, narrowed := true }
def FnToRestUptoSaid : Prop := fnToRestUptoRow.holds Try.pinned (OpenSpec.upto fnToRestSpec)

/-- 'laws.FnExactStepsToRest', WHERE WHAT IT READS IS OF BULK AT MOST 1048576: true; the input reads as it did. -/
def fnExactStepsToRestUptoRow : OpenClaim := { program := "ytffefndnnbcplaa", sum := "9da6655ea900e9835e03011e41c5cecf2735e81344d548591808b3fd544c9f90", func := "loop.example/g00982/laws.FnExactStepsToRest", spec := "fnExactStepsToRest", unfollowed := true, recurses := true, apart := false, narrowed := true }
def FnExactStepsToRestUptoSaid : Prop := fnExactStepsToRestUptoRow.holds Try.pinned (OpenSpec.upto fnExactStepsToRestSpec)

/-- 'laws.FnExactStepState', WHERE WHAT IT READS IS OF BULK AT MOST 1048576: true; the input reads as it did. -/
def fnExactStepStateUptoRow : OpenClaim := { program := "ytffefndnnbcplaa", sum := "9da6655ea900e9835e03011e41c5cecf2735e81344d548591808b3fd544c9f90", func := "loop.example/g00982/laws.FnExactStepState", spec := "fnExactStepState", unfollowed := true, recurses := true, apart := false, narrowed := true }
def FnExactStepStateUptoSaid : Prop := fnExactStepStateUptoRow.holds Try.pinned (OpenSpec.upto fnExactStepStateSpec)

/-- 'laws.FnExactMacroStep', WHERE WHAT IT READS IS OF BULK AT MOST 1048576: true; the input reads as it did. -/
def fnExactMacroStepUptoRow : OpenClaim := { program := "ytffefndnnbcplaa", sum := "9da6655ea900e9835e03011e41c5cecf2735e81344d548591808b3fd544c9f90", func := "loop.example/g00982/laws.FnExactMacroStep", spec := "fnExactMacroStep", unfollowed := true, recurses := true, apart := false, narrowed := true }
def FnExactMacroStepUptoSaid : Prop := fnExactMacroStepUptoRow.holds Try.pinned (OpenSpec.upto fnExactMacroStepSpec)

/-- 'laws.FnExactRunEvents', WHERE WHAT IT READS IS OF BULK AT MOST 1048576: true; the input reads as it did. -/
def fnExactRunEventsUptoRow : OpenClaim := { program := "ytffefndnnbcplaa", sum := "9da6655ea900e9835e03011e41c5cecf2735e81344d548591808b3fd544c9f90", func := "loop.example/g00982/laws.FnExactRunEvents", spec := "fnExactRunEvents", unfollowed := true, recurses := true, apart := false, narrowed := true }
def FnExactRunEventsUptoSaid : Prop := fnExactRunEventsUptoRow.holds Try.pinned (OpenSpec.upto fnExactRunEventsSpec)

end Rows
end Go.Proofs.Ytffefndnnbcplaa
