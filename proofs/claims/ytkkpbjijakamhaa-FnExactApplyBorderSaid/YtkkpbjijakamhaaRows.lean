/-
  No cell of these rows narrows 'for every input' (looked for: loops, veiled, ifaces, maps, wideKeys, modest, calm, conditions, laid).
  DERIVED. THE GIVEN ROWS OF THIS SEAT. 24 by the template 'for every input the law returns true; each argument reads behind the call as it read before'; 0 by the template 'total and deterministic' (their statements: YtkkpbjijakamhaaTotals.lean).
  GIVEN WITH THE SEED: the statements are not yours to turn. If you find one false, say at which input.
  Laid BY PROGRAM, IN A SANDBOX (cutbox-rows.mjs): the forced cells as the released guide's own fill.sh prints them over the translation a7d18e26bb060790… (all of the seat's roots in one cut). By AI agents, Wed Nov 11 2026. No macro, syntax, notation, axiom, sorry.
-/
import Derived.Test.YtkkpbjijakamhaaChecked
import GoSem.Claim
import GoSem.ClaimJoined
import GoSem.ClaimMapViews
import Derived.JoinedTies
import Derived.KernelRfl
namespace Go.Proofs.Ytkkpbjijakamhaa
/- THE CELL 'sum', in the pinned program and in every row, IS THE sha256 OF THE DUMP (.gsa) THAT YtkkpbjijakamhaaProg.lean LOADS. Nothing in Lean hashes anything: it is a label: what it is worth is what the hold of that sum in a sandbox is worth. -/
noncomputable def Try.pinned : Pinned := { name := "ytkkpbjijakamhaa", sum := "a7d18e26bb0607905cf93e6c958095d71101288225f9dcdcbb6d9ab7448b34a9", checked := Try.checked }
namespace Rows
def none {H : Type} : Left H := { results := [], args := [] }

/-- 'laws.FnActive': WHATEVER THE INPUT: true; the input reads as it did. -/
def fnActiveSpec : ChangeSpec := { name := "fnActive", fn := fun _ => fun
  | [d] => { results := [.lit (.bool true)], args := [d] }
  | _ => none }
def fnActiveRow : OpenClaim := { program := "ytkkpbjijakamhaa", sum := "a7d18e26bb0607905cf93e6c958095d71101288225f9dcdcbb6d9ab7448b34a9", func := "loop.example/g00982/laws.FnActive", spec := "fnActive", recurses := true, apart := false }
def FnActiveSaid : Prop := fnActiveRow.holds Try.pinned (OpenSpec.ofChange fnActiveSpec)

/-- ITS FALSE NEIGHBOUR: 'it returns false'. Refute it at one input. -/
def fnActiveWrong : ChangeSpec := { name := "fnActive", fn := fun _ => fun
  | [d] => { results := [.lit (.bool false)], args := [d] }
  | _ => none }
def FnActiveWrongFalsely : Prop := fnActiveRow.holds Try.pinned (OpenSpec.ofChange fnActiveWrong)

/-- 'laws.FnCosts': WHATEVER THE INPUT: true; the input reads as it did. -/
def fnCostsSpec : ChangeSpec := { name := "fnCosts", fn := fun _ => fun
  | [d] => { results := [.lit (.bool true)], args := [d] }
  | _ => none }
def fnCostsRow : OpenClaim := { program := "ytkkpbjijakamhaa", sum := "a7d18e26bb0607905cf93e6c958095d71101288225f9dcdcbb6d9ab7448b34a9", func := "loop.example/g00982/laws.FnCosts", spec := "fnCosts", recurses := true, apart := false }
def FnCostsSaid : Prop := fnCostsRow.holds Try.pinned (OpenSpec.ofChange fnCostsSpec)

/-- ITS FALSE NEIGHBOUR: 'it returns false'. Refute it at one input. -/
def fnCostsWrong : ChangeSpec := { name := "fnCosts", fn := fun _ => fun
  | [d] => { results := [.lit (.bool false)], args := [d] }
  | _ => none }
def FnCostsWrongFalsely : Prop := fnCostsRow.holds Try.pinned (OpenSpec.ofChange fnCostsWrong)

/-- 'laws.FnFluxes': WHATEVER THE INPUT: true; the input reads as it did. -/
def fnFluxesSpec : ChangeSpec := { name := "fnFluxes", fn := fun _ => fun
  | [d] => { results := [.lit (.bool true)], args := [d] }
  | _ => none }
def fnFluxesRow : OpenClaim := { program := "ytkkpbjijakamhaa", sum := "a7d18e26bb0607905cf93e6c958095d71101288225f9dcdcbb6d9ab7448b34a9", func := "loop.example/g00982/laws.FnFluxes", spec := "fnFluxes", unfollowed := true, recurses := true, apart := false }
def FnFluxesSaid : Prop := fnFluxesRow.holds Try.pinned (OpenSpec.ofChange fnFluxesSpec)

/-- ITS FALSE NEIGHBOUR: 'it returns false'. Refute it at one input. -/
def fnFluxesWrong : ChangeSpec := { name := "fnFluxes", fn := fun _ => fun
  | [d] => { results := [.lit (.bool false)], args := [d] }
  | _ => none }
def FnFluxesWrongFalsely : Prop := fnFluxesRow.holds Try.pinned (OpenSpec.ofChange fnFluxesWrong)

/-- 'laws.FnWishes': WHATEVER THE INPUT: true; the input reads as it did. -/
def fnWishesSpec : ChangeSpec := { name := "fnWishes", fn := fun _ => fun
  | [d] => { results := [.lit (.bool true)], args := [d] }
  | _ => none }
def fnWishesRow : OpenClaim := { program := "ytkkpbjijakamhaa", sum := "a7d18e26bb0607905cf93e6c958095d71101288225f9dcdcbb6d9ab7448b34a9", func := "loop.example/g00982/laws.FnWishes", spec := "fnWishes", unfollowed := true, recurses := true, apart := false }
def FnWishesSaid : Prop := fnWishesRow.holds Try.pinned (OpenSpec.ofChange fnWishesSpec)

/-- ITS FALSE NEIGHBOUR: 'it returns false'. Refute it at one input. -/
def fnWishesWrong : ChangeSpec := { name := "fnWishes", fn := fun _ => fun
  | [d] => { results := [.lit (.bool false)], args := [d] }
  | _ => none }
def FnWishesWrongFalsely : Prop := fnWishesRow.holds Try.pinned (OpenSpec.ofChange fnWishesWrong)

/-- 'laws.FnDriedOut': WHATEVER THE INPUT: true; the input reads as it did. -/
def fnDriedOutSpec : ChangeSpec := { name := "fnDriedOut", fn := fun _ => fun
  | [d] => { results := [.lit (.bool true)], args := [d] }
  | _ => none }
def fnDriedOutRow : OpenClaim := { program := "ytkkpbjijakamhaa", sum := "a7d18e26bb0607905cf93e6c958095d71101288225f9dcdcbb6d9ab7448b34a9", func := "loop.example/g00982/laws.FnDriedOut", spec := "fnDriedOut", unfollowed := true, recurses := true, apart := false }
def FnDriedOutSaid : Prop := fnDriedOutRow.holds Try.pinned (OpenSpec.ofChange fnDriedOutSpec)

/-- ITS FALSE NEIGHBOUR: 'it returns false'. Refute it at one input. -/
def fnDriedOutWrong : ChangeSpec := { name := "fnDriedOut", fn := fun _ => fun
  | [d] => { results := [.lit (.bool false)], args := [d] }
  | _ => none }
def FnDriedOutWrongFalsely : Prop := fnDriedOutRow.holds Try.pinned (OpenSpec.ofChange fnDriedOutWrong)

/-- 'laws.FnBorders': WHATEVER THE INPUT: true; the input reads as it did. -/
def fnBordersSpec : ChangeSpec := { name := "fnBorders", fn := fun _ => fun
  | [d] => { results := [.lit (.bool true)], args := [d] }
  | _ => none }
def fnBordersRow : OpenClaim := { program := "ytkkpbjijakamhaa", sum := "a7d18e26bb0607905cf93e6c958095d71101288225f9dcdcbb6d9ab7448b34a9", func := "loop.example/g00982/laws.FnBorders", spec := "fnBorders", unfollowed := true, recurses := true, apart := false }
def FnBordersSaid : Prop := fnBordersRow.holds Try.pinned (OpenSpec.ofChange fnBordersSpec)

/-- ITS FALSE NEIGHBOUR: 'it returns false'. Refute it at one input. -/
def fnBordersWrong : ChangeSpec := { name := "fnBorders", fn := fun _ => fun
  | [d] => { results := [.lit (.bool false)], args := [d] }
  | _ => none }
def FnBordersWrongFalsely : Prop := fnBordersRow.holds Try.pinned (OpenSpec.ofChange fnBordersWrong)

/-- 'laws.FnSteepest': WHATEVER THE INPUT: true; the input reads as it did. -/
def fnSteepestSpec : ChangeSpec := { name := "fnSteepest", fn := fun _ => fun
  | [d] => { results := [.lit (.bool true)], args := [d] }
  | _ => none }
def fnSteepestRow : OpenClaim := { program := "ytkkpbjijakamhaa", sum := "a7d18e26bb0607905cf93e6c958095d71101288225f9dcdcbb6d9ab7448b34a9", func := "loop.example/g00982/laws.FnSteepest", spec := "fnSteepest", unfollowed := true, recurses := true, apart := false }
def FnSteepestSaid : Prop := fnSteepestRow.holds Try.pinned (OpenSpec.ofChange fnSteepestSpec)

/-- ITS FALSE NEIGHBOUR: 'it returns false'. Refute it at one input. -/
def fnSteepestWrong : ChangeSpec := { name := "fnSteepest", fn := fun _ => fun
  | [d] => { results := [.lit (.bool false)], args := [d] }
  | _ => none }
def FnSteepestWrongFalsely : Prop := fnSteepestRow.holds Try.pinned (OpenSpec.ofChange fnSteepestWrong)

/-- 'laws.FnExactLedgerHolds': WHATEVER THE INPUT: true; the input reads as it did. -/
def fnExactLedgerHoldsSpec : ChangeSpec := { name := "fnExactLedgerHolds", fn := fun _ => fun
  | [d1, d2, d3] => { results := [.lit (.bool true)], args := [d1, d2, d3] }
  | _ => none }
def fnExactLedgerHoldsRow : OpenClaim := { program := "ytkkpbjijakamhaa", sum := "a7d18e26bb0607905cf93e6c958095d71101288225f9dcdcbb6d9ab7448b34a9", func := "loop.example/g00982/laws.FnExactLedgerHolds", spec := "fnExactLedgerHolds", unfollowed := true, recurses := true, apart := false }
def FnExactLedgerHoldsSaid : Prop := fnExactLedgerHoldsRow.holds Try.pinned (OpenSpec.ofChange fnExactLedgerHoldsSpec)

/-- ITS FALSE NEIGHBOUR: 'it returns false'. Refute it at one input. -/
def fnExactLedgerHoldsWrong : ChangeSpec := { name := "fnExactLedgerHolds", fn := fun _ => fun
  | [d1, d2, d3] => { results := [.lit (.bool false)], args := [d1, d2, d3] }
  | _ => none }
def FnExactLedgerHoldsWrongFalsely : Prop := fnExactLedgerHoldsRow.holds Try.pinned (OpenSpec.ofChange fnExactLedgerHoldsWrong)

/-- 'laws.FnExactWaterLine': WHATEVER THE INPUT: true; the input reads as it did. -/
def fnExactWaterLineSpec : ChangeSpec := { name := "fnExactWaterLine", fn := fun _ => fun
  | [d] => { results := [.lit (.bool true)], args := [d] }
  | _ => none }
def fnExactWaterLineRow : OpenClaim := { program := "ytkkpbjijakamhaa", sum := "a7d18e26bb0607905cf93e6c958095d71101288225f9dcdcbb6d9ab7448b34a9", func := "loop.example/g00982/laws.FnExactWaterLine", spec := "fnExactWaterLine", unfollowed := true, recurses := true, apart := false }
def FnExactWaterLineSaid : Prop := fnExactWaterLineRow.holds Try.pinned (OpenSpec.ofChange fnExactWaterLineSpec)

/-- ITS FALSE NEIGHBOUR: 'it returns false'. Refute it at one input. -/
def fnExactWaterLineWrong : ChangeSpec := { name := "fnExactWaterLine", fn := fun _ => fun
  | [d] => { results := [.lit (.bool false)], args := [d] }
  | _ => none }
def FnExactWaterLineWrongFalsely : Prop := fnExactWaterLineRow.holds Try.pinned (OpenSpec.ofChange fnExactWaterLineWrong)

/-- 'laws.FnExactSteepestFace': WHATEVER THE INPUT: true; the input reads as it did. -/
def fnExactSteepestFaceSpec : ChangeSpec := { name := "fnExactSteepestFace", fn := fun _ => fun
  | [d] => { results := [.lit (.bool true)], args := [d] }
  | _ => none }
def fnExactSteepestFaceRow : OpenClaim := { program := "ytkkpbjijakamhaa", sum := "a7d18e26bb0607905cf93e6c958095d71101288225f9dcdcbb6d9ab7448b34a9", func := "loop.example/g00982/laws.FnExactSteepestFace", spec := "fnExactSteepestFace", unfollowed := true, recurses := true, apart := false }
def FnExactSteepestFaceSaid : Prop := fnExactSteepestFaceRow.holds Try.pinned (OpenSpec.ofChange fnExactSteepestFaceSpec)

/-- ITS FALSE NEIGHBOUR: 'it returns false'. Refute it at one input. -/
def fnExactSteepestFaceWrong : ChangeSpec := { name := "fnExactSteepestFace", fn := fun _ => fun
  | [d] => { results := [.lit (.bool false)], args := [d] }
  | _ => none }
def FnExactSteepestFaceWrongFalsely : Prop := fnExactSteepestFaceRow.holds Try.pinned (OpenSpec.ofChange fnExactSteepestFaceWrong)

/-- 'laws.FnExactIsLevelWithin': WHATEVER THE INPUT: true; the input reads as it did. -/
def fnExactIsLevelWithinSpec : ChangeSpec := { name := "fnExactIsLevelWithin", fn := fun _ => fun
  | [d1, d2] => { results := [.lit (.bool true)], args := [d1, d2] }
  | _ => none }
def fnExactIsLevelWithinRow : OpenClaim := { program := "ytkkpbjijakamhaa", sum := "a7d18e26bb0607905cf93e6c958095d71101288225f9dcdcbb6d9ab7448b34a9", func := "loop.example/g00982/laws.FnExactIsLevelWithin", spec := "fnExactIsLevelWithin", unfollowed := true, recurses := true, apart := false }
def FnExactIsLevelWithinSaid : Prop := fnExactIsLevelWithinRow.holds Try.pinned (OpenSpec.ofChange fnExactIsLevelWithinSpec)

/-- ITS FALSE NEIGHBOUR: 'it returns false'. Refute it at one input. -/
def fnExactIsLevelWithinWrong : ChangeSpec := { name := "fnExactIsLevelWithin", fn := fun _ => fun
  | [d1, d2] => { results := [.lit (.bool false)], args := [d1, d2] }
  | _ => none }
def FnExactIsLevelWithinWrongFalsely : Prop := fnExactIsLevelWithinRow.holds Try.pinned (OpenSpec.ofChange fnExactIsLevelWithinWrong)

/-- 'laws.FnDecays': WHATEVER THE INPUT: true; the input reads as it did. -/
def fnDecaysSpec : ChangeSpec := { name := "fnDecays", fn := fun _ => fun
  | [d] => { results := [.lit (.bool true)], args := [d] }
  | _ => none }
def fnDecaysRow : OpenClaim := { program := "ytkkpbjijakamhaa", sum := "a7d18e26bb0607905cf93e6c958095d71101288225f9dcdcbb6d9ab7448b34a9", func := "loop.example/g00982/laws.FnDecays", spec := "fnDecays", unfollowed := true, recurses := true, apart := false }
def FnDecaysSaid : Prop := fnDecaysRow.holds Try.pinned (OpenSpec.ofChange fnDecaysSpec)

/-- ITS FALSE NEIGHBOUR: 'it returns false'. Refute it at one input. -/
def fnDecaysWrong : ChangeSpec := { name := "fnDecays", fn := fun _ => fun
  | [d] => { results := [.lit (.bool false)], args := [d] }
  | _ => none }
def FnDecaysWrongFalsely : Prop := fnDecaysRow.holds Try.pinned (OpenSpec.ofChange fnDecaysWrong)

/-- 'laws.FnExactJumpAt': WHATEVER THE INPUT: true; the input reads as it did. -/
def fnExactJumpAtSpec : ChangeSpec := { name := "fnExactJumpAt", fn := fun _ => fun
  | [d1, d2] => { results := [.lit (.bool true)], args := [d1, d2] }
  | _ => none }
def fnExactJumpAtRow : OpenClaim := { program := "ytkkpbjijakamhaa", sum := "a7d18e26bb0607905cf93e6c958095d71101288225f9dcdcbb6d9ab7448b34a9", func := "loop.example/g00982/laws.FnExactJumpAt", spec := "fnExactJumpAt", unfollowed := true, recurses := true, apart := false }
def FnExactJumpAtSaid : Prop := fnExactJumpAtRow.holds Try.pinned (OpenSpec.ofChange fnExactJumpAtSpec)

/-- ITS FALSE NEIGHBOUR: 'it returns false'. Refute it at one input. -/
def fnExactJumpAtWrong : ChangeSpec := { name := "fnExactJumpAt", fn := fun _ => fun
  | [d1, d2] => { results := [.lit (.bool false)], args := [d1, d2] }
  | _ => none }
def FnExactJumpAtWrongFalsely : Prop := fnExactJumpAtRow.holds Try.pinned (OpenSpec.ofChange fnExactJumpAtWrong)

/-- 'laws.FnExactFaceFlux': WHATEVER THE INPUT: true; the input reads as it did. -/
def fnExactFaceFluxSpec : ChangeSpec := { name := "fnExactFaceFlux", fn := fun _ => fun
  | [d1, d2] => { results := [.lit (.bool true)], args := [d1, d2] }
  | _ => none }
def fnExactFaceFluxRow : OpenClaim := { program := "ytkkpbjijakamhaa", sum := "a7d18e26bb0607905cf93e6c958095d71101288225f9dcdcbb6d9ab7448b34a9", func := "loop.example/g00982/laws.FnExactFaceFlux", spec := "fnExactFaceFlux", unfollowed := true, recurses := true, apart := false }
def FnExactFaceFluxSaid : Prop := fnExactFaceFluxRow.holds Try.pinned (OpenSpec.ofChange fnExactFaceFluxSpec)

/-- ITS FALSE NEIGHBOUR: 'it returns false'. Refute it at one input. -/
def fnExactFaceFluxWrong : ChangeSpec := { name := "fnExactFaceFlux", fn := fun _ => fun
  | [d1, d2] => { results := [.lit (.bool false)], args := [d1, d2] }
  | _ => none }
def FnExactFaceFluxWrongFalsely : Prop := fnExactFaceFluxRow.holds Try.pinned (OpenSpec.ofChange fnExactFaceFluxWrong)

/-- 'laws.FnRains': WHATEVER THE INPUT: true; the input reads as it did. -/
def fnRainsSpec : ChangeSpec := { name := "fnRains", fn := fun _ => fun
  | [d] => { results := [.lit (.bool true)], args := [d] }
  | _ => none }
def fnRainsRow : OpenClaim := { program := "ytkkpbjijakamhaa", sum := "a7d18e26bb0607905cf93e6c958095d71101288225f9dcdcbb6d9ab7448b34a9", func := "loop.example/g00982/laws.FnRains", spec := "fnRains", unfollowed := true, recurses := true, apart := false }
def FnRainsSaid : Prop := fnRainsRow.holds Try.pinned (OpenSpec.ofChange fnRainsSpec)

/-- ITS FALSE NEIGHBOUR: 'it returns false'. Refute it at one input. -/
def fnRainsWrong : ChangeSpec := { name := "fnRains", fn := fun _ => fun
  | [d] => { results := [.lit (.bool false)], args := [d] }
  | _ => none }
def FnRainsWrongFalsely : Prop := fnRainsRow.holds Try.pinned (OpenSpec.ofChange fnRainsWrong)

/-- 'laws.FnExactDryLeaves': WHATEVER THE INPUT: true; the input reads as it did. -/
def fnExactDryLeavesSpec : ChangeSpec := { name := "fnExactDryLeaves", fn := fun _ => fun
  | [d] => { results := [.lit (.bool true)], args := [d] }
  | _ => none }
def fnExactDryLeavesRow : OpenClaim := { program := "ytkkpbjijakamhaa", sum := "a7d18e26bb0607905cf93e6c958095d71101288225f9dcdcbb6d9ab7448b34a9", func := "loop.example/g00982/laws.FnExactDryLeaves", spec := "fnExactDryLeaves", unfollowed := true, recurses := true, apart := false }
def FnExactDryLeavesSaid : Prop := fnExactDryLeavesRow.holds Try.pinned (OpenSpec.ofChange fnExactDryLeavesSpec)

/-- ITS FALSE NEIGHBOUR: 'it returns false'. Refute it at one input. -/
def fnExactDryLeavesWrong : ChangeSpec := { name := "fnExactDryLeaves", fn := fun _ => fun
  | [d] => { results := [.lit (.bool false)], args := [d] }
  | _ => none }
def FnExactDryLeavesWrongFalsely : Prop := fnExactDryLeavesRow.holds Try.pinned (OpenSpec.ofChange fnExactDryLeavesWrong)

/-- 'laws.FnExactIsAtRest': WHATEVER THE INPUT: true; the input reads as it did. -/
def fnExactIsAtRestSpec : ChangeSpec := { name := "fnExactIsAtRest", fn := fun _ => fun
  | [d] => { results := [.lit (.bool true)], args := [d] }
  | _ => none }
def fnExactIsAtRestRow : OpenClaim := { program := "ytkkpbjijakamhaa", sum := "a7d18e26bb0607905cf93e6c958095d71101288225f9dcdcbb6d9ab7448b34a9", func := "loop.example/g00982/laws.FnExactIsAtRest", spec := "fnExactIsAtRest", unfollowed := true, recurses := true, apart := false }
def FnExactIsAtRestSaid : Prop := fnExactIsAtRestRow.holds Try.pinned (OpenSpec.ofChange fnExactIsAtRestSpec)

/-- ITS FALSE NEIGHBOUR: 'it returns false'. Refute it at one input. -/
def fnExactIsAtRestWrong : ChangeSpec := { name := "fnExactIsAtRest", fn := fun _ => fun
  | [d] => { results := [.lit (.bool false)], args := [d] }
  | _ => none }
def FnExactIsAtRestWrongFalsely : Prop := fnExactIsAtRestRow.holds Try.pinned (OpenSpec.ofChange fnExactIsAtRestWrong)

/-- 'laws.FnExactTracerFlux': WHATEVER THE INPUT: true; the input reads as it did. -/
def fnExactTracerFluxSpec : ChangeSpec := { name := "fnExactTracerFlux", fn := fun _ => fun
  | [d1, d2] => { results := [.lit (.bool true)], args := [d1, d2] }
  | _ => none }
def fnExactTracerFluxRow : OpenClaim := { program := "ytkkpbjijakamhaa", sum := "a7d18e26bb0607905cf93e6c958095d71101288225f9dcdcbb6d9ab7448b34a9", func := "loop.example/g00982/laws.FnExactTracerFlux", spec := "fnExactTracerFlux", unfollowed := true, recurses := true, apart := false }
def FnExactTracerFluxSaid : Prop := fnExactTracerFluxRow.holds Try.pinned (OpenSpec.ofChange fnExactTracerFluxSpec)

/-- ITS FALSE NEIGHBOUR: 'it returns false'. Refute it at one input. -/
def fnExactTracerFluxWrong : ChangeSpec := { name := "fnExactTracerFlux", fn := fun _ => fun
  | [d1, d2] => { results := [.lit (.bool false)], args := [d1, d2] }
  | _ => none }
def FnExactTracerFluxWrongFalsely : Prop := fnExactTracerFluxRow.holds Try.pinned (OpenSpec.ofChange fnExactTracerFluxWrong)

/-- 'laws.FnExactAllFluxes': WHATEVER THE INPUT: true; the input reads as it did. -/
def fnExactAllFluxesSpec : ChangeSpec := { name := "fnExactAllFluxes", fn := fun _ => fun
  | [d] => { results := [.lit (.bool true)], args := [d] }
  | _ => none }
def fnExactAllFluxesRow : OpenClaim := { program := "ytkkpbjijakamhaa", sum := "a7d18e26bb0607905cf93e6c958095d71101288225f9dcdcbb6d9ab7448b34a9", func := "loop.example/g00982/laws.FnExactAllFluxes", spec := "fnExactAllFluxes", unfollowed := true, recurses := true, apart := false }
def FnExactAllFluxesSaid : Prop := fnExactAllFluxesRow.holds Try.pinned (OpenSpec.ofChange fnExactAllFluxesSpec)

/-- ITS FALSE NEIGHBOUR: 'it returns false'. Refute it at one input. -/
def fnExactAllFluxesWrong : ChangeSpec := { name := "fnExactAllFluxes", fn := fun _ => fun
  | [d] => { results := [.lit (.bool false)], args := [d] }
  | _ => none }
def FnExactAllFluxesWrongFalsely : Prop := fnExactAllFluxesRow.holds Try.pinned (OpenSpec.ofChange fnExactAllFluxesWrong)

/-- 'laws.FnExactWishes': WHATEVER THE INPUT: true; the input reads as it did. -/
def fnExactWishesSpec : ChangeSpec := { name := "fnExactWishes", fn := fun _ => fun
  | [d1, d2, d3] => { results := [.lit (.bool true)], args := [d1, d2, d3] }
  | _ => none }
def fnExactWishesRow : OpenClaim := { program := "ytkkpbjijakamhaa", sum := "a7d18e26bb0607905cf93e6c958095d71101288225f9dcdcbb6d9ab7448b34a9", func := "loop.example/g00982/laws.FnExactWishes", spec := "fnExactWishes", unfollowed := true, recurses := true, apart := false }
def FnExactWishesSaid : Prop := fnExactWishesRow.holds Try.pinned (OpenSpec.ofChange fnExactWishesSpec)

/-- ITS FALSE NEIGHBOUR: 'it returns false'. Refute it at one input. -/
def fnExactWishesWrong : ChangeSpec := { name := "fnExactWishes", fn := fun _ => fun
  | [d1, d2, d3] => { results := [.lit (.bool false)], args := [d1, d2, d3] }
  | _ => none }
def FnExactWishesWrongFalsely : Prop := fnExactWishesRow.holds Try.pinned (OpenSpec.ofChange fnExactWishesWrong)

/-- 'laws.FnExactDecayAll': WHATEVER THE INPUT: true; the input reads as it did. -/
def fnExactDecayAllSpec : ChangeSpec := { name := "fnExactDecayAll", fn := fun _ => fun
  | [d1, d2] => { results := [.lit (.bool true)], args := [d1, d2] }
  | _ => none }
def fnExactDecayAllRow : OpenClaim := { program := "ytkkpbjijakamhaa", sum := "a7d18e26bb0607905cf93e6c958095d71101288225f9dcdcbb6d9ab7448b34a9", func := "loop.example/g00982/laws.FnExactDecayAll", spec := "fnExactDecayAll", unfollowed := true, recurses := true, apart := false }
def FnExactDecayAllSaid : Prop := fnExactDecayAllRow.holds Try.pinned (OpenSpec.ofChange fnExactDecayAllSpec)

/-- ITS FALSE NEIGHBOUR: 'it returns false'. Refute it at one input. -/
def fnExactDecayAllWrong : ChangeSpec := { name := "fnExactDecayAll", fn := fun _ => fun
  | [d1, d2] => { results := [.lit (.bool false)], args := [d1, d2] }
  | _ => none }
def FnExactDecayAllWrongFalsely : Prop := fnExactDecayAllRow.holds Try.pinned (OpenSpec.ofChange fnExactDecayAllWrong)

/-- 'laws.FnExactRainOn': WHATEVER THE INPUT: true; the input reads as it did. -/
def fnExactRainOnSpec : ChangeSpec := { name := "fnExactRainOn", fn := fun _ => fun
  | [d1, d2] => { results := [.lit (.bool true)], args := [d1, d2] }
  | _ => none }
def fnExactRainOnRow : OpenClaim := { program := "ytkkpbjijakamhaa", sum := "a7d18e26bb0607905cf93e6c958095d71101288225f9dcdcbb6d9ab7448b34a9", func := "loop.example/g00982/laws.FnExactRainOn", spec := "fnExactRainOn", unfollowed := true, recurses := true, apart := false }
def FnExactRainOnSaid : Prop := fnExactRainOnRow.holds Try.pinned (OpenSpec.ofChange fnExactRainOnSpec)

/-- ITS FALSE NEIGHBOUR: 'it returns false'. Refute it at one input. -/
def fnExactRainOnWrong : ChangeSpec := { name := "fnExactRainOn", fn := fun _ => fun
  | [d1, d2] => { results := [.lit (.bool false)], args := [d1, d2] }
  | _ => none }
def FnExactRainOnWrongFalsely : Prop := fnExactRainOnRow.holds Try.pinned (OpenSpec.ofChange fnExactRainOnWrong)

/-- 'laws.FnExactSoak': WHATEVER THE INPUT: true; the input reads as it did. -/
def fnExactSoakSpec : ChangeSpec := { name := "fnExactSoak", fn := fun _ => fun
  | [d1, d2] => { results := [.lit (.bool true)], args := [d1, d2] }
  | _ => none }
def fnExactSoakRow : OpenClaim := { program := "ytkkpbjijakamhaa", sum := "a7d18e26bb0607905cf93e6c958095d71101288225f9dcdcbb6d9ab7448b34a9", func := "loop.example/g00982/laws.FnExactSoak", spec := "fnExactSoak", unfollowed := true, recurses := true, apart := false }
def FnExactSoakSaid : Prop := fnExactSoakRow.holds Try.pinned (OpenSpec.ofChange fnExactSoakSpec)

/-- ITS FALSE NEIGHBOUR: 'it returns false'. Refute it at one input. -/
def fnExactSoakWrong : ChangeSpec := { name := "fnExactSoak", fn := fun _ => fun
  | [d1, d2] => { results := [.lit (.bool false)], args := [d1, d2] }
  | _ => none }
def FnExactSoakWrongFalsely : Prop := fnExactSoakRow.holds Try.pinned (OpenSpec.ofChange fnExactSoakWrong)

/-- 'laws.FnExactApplyBorder': WHATEVER THE INPUT: true; the input reads as it did. -/
def fnExactApplyBorderSpec : ChangeSpec := { name := "fnExactApplyBorder", fn := fun _ => fun
  | [d1, d2] => { results := [.lit (.bool true)], args := [d1, d2] }
  | _ => none }
def fnExactApplyBorderRow : OpenClaim := { program := "ytkkpbjijakamhaa", sum := "a7d18e26bb0607905cf93e6c958095d71101288225f9dcdcbb6d9ab7448b34a9", func := "loop.example/g00982/laws.FnExactApplyBorder", spec := "fnExactApplyBorder", unfollowed := true, recurses := true, apart := false }
def FnExactApplyBorderSaid : Prop := fnExactApplyBorderRow.holds Try.pinned (OpenSpec.ofChange fnExactApplyBorderSpec)

/-- ITS FALSE NEIGHBOUR: 'it returns false'. Refute it at one input. -/
def fnExactApplyBorderWrong : ChangeSpec := { name := "fnExactApplyBorder", fn := fun _ => fun
  | [d1, d2] => { results := [.lit (.bool false)], args := [d1, d2] }
  | _ => none }
def FnExactApplyBorderWrongFalsely : Prop := fnExactApplyBorderRow.holds Try.pinned (OpenSpec.ofChange fnExactApplyBorderWrong)

/- THE SECOND FORM. 'bulk': how many values and letters a reading holds, each counted each time it is reached (what is shared counts as often as it is met; a slice's spare places count too). A statement '..UptoSaid' is the law's where the arguments, and the package variables that the reading takes, are together of bulk at most 1048576: NARROWER than '..Said'. Prove '..Said' where nothing that the law and all that it calls make is longer than what came in: it says more and counts as full. Else prove '..UptoSaid'. A law counts once. -/
mutual
def uptoBulk {H : Type} : DataW H → Nat
  | .lit (.string bytes) => bytes.length + 1
  | .lit _ => 1
  | .nil => 1
  | .ptr d => uptoBulk d + 1
  | .slice elems spare => uptoBulkAll elems + uptoBulkAll spare + 1
  | .agg parts => uptoBulkAll parts + 1
  | .iface _ d => uptoBulk d + 1
  | .map entries => uptoBulkEntries entries + 1
  | .held _ => 1
def uptoBulkAll {H : Type} : List (DataW H) → Nat
  | [] => 0
  | d :: r => uptoBulk d + uptoBulkAll r
def uptoBulkEntries {H : Type} : List (Lit × DataW H) → Nat
  | [] => 0
  | x :: r => uptoBulkEntry x + uptoBulkEntries r
def uptoBulkEntry {H : Type} : Lit × DataW H → Nat
  | (.string bytes, d) => bytes.length + uptoBulk d + 1
  | (_, d) => uptoBulk d + 1
 end
def uptoSmall : (H : Type) → List (DataW H) → Bool := fun _ ds => decide (uptoBulkAll ds ≤ 1048576)
def OpenSpec.upto (s : _root_.Go.ChangeSpec) : _root_.Go.OpenSpec := { _root_.Go.OpenSpec.ofChange s with cond := some uptoSmall }

/-- 'laws.FnActive', WHERE WHAT IT READS IS OF BULK AT MOST 1048576: true; the input reads as it did. -/
def fnActiveUptoRow : OpenClaim := { program := "ytkkpbjijakamhaa", sum := "a7d18e26bb0607905cf93e6c958095d71101288225f9dcdcbb6d9ab7448b34a9", func := "loop.example/g00982/laws.FnActive", spec := "fnActive", recurses := true, apart := false, narrowed := true }
def FnActiveUptoSaid : Prop := fnActiveUptoRow.holds Try.pinned (OpenSpec.upto fnActiveSpec)

/-- 'laws.FnCosts', WHERE WHAT IT READS IS OF BULK AT MOST 1048576: true; the input reads as it did. -/
def fnCostsUptoRow : OpenClaim := { program := "ytkkpbjijakamhaa", sum := "a7d18e26bb0607905cf93e6c958095d71101288225f9dcdcbb6d9ab7448b34a9", func := "loop.example/g00982/laws.FnCosts", spec := "fnCosts", recurses := true, apart := false, narrowed := true }
def FnCostsUptoSaid : Prop := fnCostsUptoRow.holds Try.pinned (OpenSpec.upto fnCostsSpec)

/-- 'laws.FnFluxes', WHERE WHAT IT READS IS OF BULK AT MOST 1048576: true; the input reads as it did. -/
def fnFluxesUptoRow : OpenClaim := { program := "ytkkpbjijakamhaa", sum := "a7d18e26bb0607905cf93e6c958095d71101288225f9dcdcbb6d9ab7448b34a9", func := "loop.example/g00982/laws.FnFluxes", spec := "fnFluxes", unfollowed := true, recurses := true, apart := false, narrowed := true }
def FnFluxesUptoSaid : Prop := fnFluxesUptoRow.holds Try.pinned (OpenSpec.upto fnFluxesSpec)

/-- 'laws.FnWishes', WHERE WHAT IT READS IS OF BULK AT MOST 1048576: true; the input reads as it did. -/
def fnWishesUptoRow : OpenClaim := { program := "ytkkpbjijakamhaa", sum := "a7d18e26bb0607905cf93e6c958095d71101288225f9dcdcbb6d9ab7448b34a9", func := "loop.example/g00982/laws.FnWishes", spec := "fnWishes", unfollowed := true, recurses := true, apart := false, narrowed := true }
def FnWishesUptoSaid : Prop := fnWishesUptoRow.holds Try.pinned (OpenSpec.upto fnWishesSpec)

/-- 'laws.FnDriedOut', WHERE WHAT IT READS IS OF BULK AT MOST 1048576: true; the input reads as it did. -/
def fnDriedOutUptoRow : OpenClaim := { program := "ytkkpbjijakamhaa", sum := "a7d18e26bb0607905cf93e6c958095d71101288225f9dcdcbb6d9ab7448b34a9", func := "loop.example/g00982/laws.FnDriedOut", spec := "fnDriedOut", unfollowed := true, recurses := true, apart := false, narrowed := true }
def FnDriedOutUptoSaid : Prop := fnDriedOutUptoRow.holds Try.pinned (OpenSpec.upto fnDriedOutSpec)

/-- 'laws.FnBorders', WHERE WHAT IT READS IS OF BULK AT MOST 1048576: true; the input reads as it did. -/
def fnBordersUptoRow : OpenClaim := { program := "ytkkpbjijakamhaa", sum := "a7d18e26bb0607905cf93e6c958095d71101288225f9dcdcbb6d9ab7448b34a9", func := "loop.example/g00982/laws.FnBorders", spec := "fnBorders", unfollowed := true, recurses := true, apart := false, narrowed := true }
def FnBordersUptoSaid : Prop := fnBordersUptoRow.holds Try.pinned (OpenSpec.upto fnBordersSpec)

/-- 'laws.FnSteepest', WHERE WHAT IT READS IS OF BULK AT MOST 1048576: true; the input reads as it did. -/
def fnSteepestUptoRow : OpenClaim := { program := "ytkkpbjijakamhaa", sum := "a7d18e26bb0607905cf93e6c958095d71101288225f9dcdcbb6d9ab7448b34a9", func := "loop.example/g00982/laws.FnSteepest", spec := "fnSteepest", unfollowed := true, recurses := true, apart := false, narrowed := true }
def FnSteepestUptoSaid : Prop := fnSteepestUptoRow.holds Try.pinned (OpenSpec.upto fnSteepestSpec)

/-- 'laws.FnExactLedgerHolds', WHERE WHAT IT READS IS OF BULK AT MOST 1048576: true; the input reads as it did. -/
def fnExactLedgerHoldsUptoRow : OpenClaim := { program := "ytkkpbjijakamhaa", sum := "a7d18e26bb0607905cf93e6c958095d71101288225f9dcdcbb6d9ab7448b34a9", func := "loop.example/g00982/laws.FnExactLedgerHolds", spec := "fnExactLedgerHolds", unfollowed := true, recurses := true, apart := false, narrowed := true }
def FnExactLedgerHoldsUptoSaid : Prop := fnExactLedgerHoldsUptoRow.holds Try.pinned (OpenSpec.upto fnExactLedgerHoldsSpec)

/-- 'laws.FnExactWaterLine', WHERE WHAT IT READS IS OF BULK AT MOST 1048576: true; the input reads as it did. -/
def fnExactWaterLineUptoRow : OpenClaim := { program := "ytkkpbjijakamhaa", sum := "a7d18e26bb0607905cf93e6c958095d71101288225f9dcdcbb6d9ab7448b34a9", func := "loop.example/g00982/laws.FnExactWaterLine", spec := "fnExactWaterLine", unfollowed := true, recurses := true, apart := false, narrowed := true }
def FnExactWaterLineUptoSaid : Prop := fnExactWaterLineUptoRow.holds Try.pinned (OpenSpec.upto fnExactWaterLineSpec)

/-- 'laws.FnExactSteepestFace', WHERE WHAT IT READS IS OF BULK AT MOST 1048576: true; the input reads as it did. -/
def fnExactSteepestFaceUptoRow : OpenClaim := { program := "ytkkpbjijakamhaa", sum := "a7d18e26bb0607905cf93e6c958095d71101288225f9dcdcbb6d9ab7448b34a9", func := "loop.example/g00982/laws.FnExactSteepestFace", spec := "fnExactSteepestFace", unfollowed := true, recurses := true, apart := false, narrowed := true }
def FnExactSteepestFaceUptoSaid : Prop := fnExactSteepestFaceUptoRow.holds Try.pinned (OpenSpec.upto fnExactSteepestFaceSpec)

/-- 'laws.FnExactIsLevelWithin', WHERE WHAT IT READS IS OF BULK AT MOST 1048576: true; the input reads as it did. -/
def fnExactIsLevelWithinUptoRow : OpenClaim := { program := "ytkkpbjijakamhaa", sum := "a7d18e26bb0607905cf93e6c958095d71101288225f9dcdcbb6d9ab7448b34a9", func := "loop.example/g00982/laws.FnExactIsLevelWithin", spec := "fnExactIsLevelWithin", unfollowed := true, recurses := true, apart := false, narrowed := true }
def FnExactIsLevelWithinUptoSaid : Prop := fnExactIsLevelWithinUptoRow.holds Try.pinned (OpenSpec.upto fnExactIsLevelWithinSpec)

/-- 'laws.FnDecays', WHERE WHAT IT READS IS OF BULK AT MOST 1048576: true; the input reads as it did. -/
def fnDecaysUptoRow : OpenClaim := { program := "ytkkpbjijakamhaa", sum := "a7d18e26bb0607905cf93e6c958095d71101288225f9dcdcbb6d9ab7448b34a9", func := "loop.example/g00982/laws.FnDecays", spec := "fnDecays", unfollowed := true, recurses := true, apart := false, narrowed := true }
def FnDecaysUptoSaid : Prop := fnDecaysUptoRow.holds Try.pinned (OpenSpec.upto fnDecaysSpec)

/-- 'laws.FnExactJumpAt', WHERE WHAT IT READS IS OF BULK AT MOST 1048576: true; the input reads as it did. -/
def fnExactJumpAtUptoRow : OpenClaim := { program := "ytkkpbjijakamhaa", sum := "a7d18e26bb0607905cf93e6c958095d71101288225f9dcdcbb6d9ab7448b34a9", func := "loop.example/g00982/laws.FnExactJumpAt", spec := "fnExactJumpAt", unfollowed := true, recurses := true, apart := false, narrowed := true }
def FnExactJumpAtUptoSaid : Prop := fnExactJumpAtUptoRow.holds Try.pinned (OpenSpec.upto fnExactJumpAtSpec)

/-- 'laws.FnExactFaceFlux', WHERE WHAT IT READS IS OF BULK AT MOST 1048576: true; the input reads as it did. -/
def fnExactFaceFluxUptoRow : OpenClaim := { program := "ytkkpbjijakamhaa", sum := "a7d18e26bb0607905cf93e6c958095d71101288225f9dcdcbb6d9ab7448b34a9", func := "loop.example/g00982/laws.FnExactFaceFlux", spec := "fnExactFaceFlux", unfollowed := true, recurses := true, apart := false, narrowed := true }
def FnExactFaceFluxUptoSaid : Prop := fnExactFaceFluxUptoRow.holds Try.pinned (OpenSpec.upto fnExactFaceFluxSpec)

/-- 'laws.FnRains', WHERE WHAT IT READS IS OF BULK AT MOST 1048576: true; the input reads as it did. -/
def fnRainsUptoRow : OpenClaim := { program := "ytkkpbjijakamhaa", sum := "a7d18e26bb0607905cf93e6c958095d71101288225f9dcdcbb6d9ab7448b34a9", func := "loop.example/g00982/laws.FnRains", spec := "fnRains", unfollowed := true, recurses := true, apart := false, narrowed := true }
def FnRainsUptoSaid : Prop := fnRainsUptoRow.holds Try.pinned (OpenSpec.upto fnRainsSpec)

/-- 'laws.FnExactDryLeaves', WHERE WHAT IT READS IS OF BULK AT MOST 1048576: true; the input reads as it did. -/
def fnExactDryLeavesUptoRow : OpenClaim := { program := "ytkkpbjijakamhaa", sum := "a7d18e26bb0607905cf93e6c958095d71101288225f9dcdcbb6d9ab7448b34a9", func := "loop.example/g00982/laws.FnExactDryLeaves", spec := "fnExactDryLeaves", unfollowed := true, recurses := true, apart := false, narrowed := true }
def FnExactDryLeavesUptoSaid : Prop := fnExactDryLeavesUptoRow.holds Try.pinned (OpenSpec.upto fnExactDryLeavesSpec)

/-- 'laws.FnExactIsAtRest', WHERE WHAT IT READS IS OF BULK AT MOST 1048576: true; the input reads as it did. -/
def fnExactIsAtRestUptoRow : OpenClaim := { program := "ytkkpbjijakamhaa", sum := "a7d18e26bb0607905cf93e6c958095d71101288225f9dcdcbb6d9ab7448b34a9", func := "loop.example/g00982/laws.FnExactIsAtRest", spec := "fnExactIsAtRest", unfollowed := true, recurses := true, apart := false, narrowed := true }
def FnExactIsAtRestUptoSaid : Prop := fnExactIsAtRestUptoRow.holds Try.pinned (OpenSpec.upto fnExactIsAtRestSpec)

/-- 'laws.FnExactTracerFlux', WHERE WHAT IT READS IS OF BULK AT MOST 1048576: true; the input reads as it did. -/
def fnExactTracerFluxUptoRow : OpenClaim := { program := "ytkkpbjijakamhaa", sum := "a7d18e26bb0607905cf93e6c958095d71101288225f9dcdcbb6d9ab7448b34a9", func := "loop.example/g00982/laws.FnExactTracerFlux", spec := "fnExactTracerFlux", unfollowed := true, recurses := true, apart := false, narrowed := true }
def FnExactTracerFluxUptoSaid : Prop := fnExactTracerFluxUptoRow.holds Try.pinned (OpenSpec.upto fnExactTracerFluxSpec)

/-- 'laws.FnExactAllFluxes', WHERE WHAT IT READS IS OF BULK AT MOST 1048576: true; the input reads as it did. -/
def fnExactAllFluxesUptoRow : OpenClaim := { program := "ytkkpbjijakamhaa", sum := "a7d18e26bb0607905cf93e6c958095d71101288225f9dcdcbb6d9ab7448b34a9", func := "loop.example/g00982/laws.FnExactAllFluxes", spec := "fnExactAllFluxes", unfollowed := true, recurses := true, apart := false, narrowed := true }
def FnExactAllFluxesUptoSaid : Prop := fnExactAllFluxesUptoRow.holds Try.pinned (OpenSpec.upto fnExactAllFluxesSpec)

/-- 'laws.FnExactWishes', WHERE WHAT IT READS IS OF BULK AT MOST 1048576: true; the input reads as it did. -/
def fnExactWishesUptoRow : OpenClaim := { program := "ytkkpbjijakamhaa", sum := "a7d18e26bb0607905cf93e6c958095d71101288225f9dcdcbb6d9ab7448b34a9", func := "loop.example/g00982/laws.FnExactWishes", spec := "fnExactWishes", unfollowed := true, recurses := true, apart := false, narrowed := true }
def FnExactWishesUptoSaid : Prop := fnExactWishesUptoRow.holds Try.pinned (OpenSpec.upto fnExactWishesSpec)

/-- 'laws.FnExactDecayAll', WHERE WHAT IT READS IS OF BULK AT MOST 1048576: true; the input reads as it did. -/
def fnExactDecayAllUptoRow : OpenClaim := { program := "ytkkpbjijakamhaa", sum := "a7d18e26bb0607905cf93e6c958095d71101288225f9dcdcbb6d9ab7448b34a9", func := "loop.example/g00982/laws.FnExactDecayAll", spec := "fnExactDecayAll", unfollowed := true, recurses := true, apart := false, narrowed := true }
def FnExactDecayAllUptoSaid : Prop := fnExactDecayAllUptoRow.holds Try.pinned (OpenSpec.upto fnExactDecayAllSpec)

/-- 'laws.FnExactRainOn', WHERE WHAT IT READS IS OF BULK AT MOST 1048576: true; the input reads as it did. -/
def fnExactRainOnUptoRow : OpenClaim := { program := "ytkkpbjijakamhaa", sum := "a7d18e26bb0607905cf93e6c958095d71101288225f9dcdcbb6d9ab7448b34a9", func := "loop.example/g00982/laws.FnExactRainOn", spec := "fnExactRainOn", unfollowed := true, recurses := true, apart := false, narrowed := true }
def FnExactRainOnUptoSaid : Prop := fnExactRainOnUptoRow.holds Try.pinned (OpenSpec.upto fnExactRainOnSpec)

/-- 'laws.FnExactSoak', WHERE WHAT IT READS IS OF BULK AT MOST 1048576: true; the input reads as it did. -/
def fnExactSoakUptoRow : OpenClaim := { program := "ytkkpbjijakamhaa", sum := "a7d18e26bb0607905cf93e6c958095d71101288225f9dcdcbb6d9ab7448b34a9", func := "loop.example/g00982/laws.FnExactSoak", spec := "fnExactSoak", unfollowed := true, recurses := true, apart := false, narrowed := true }
def FnExactSoakUptoSaid : Prop := fnExactSoakUptoRow.holds Try.pinned (OpenSpec.upto fnExactSoakSpec)

/-- 'laws.FnExactApplyBorder', WHERE WHAT IT READS IS OF BULK AT MOST 1048576: true; the input reads as it did. -/
def fnExactApplyBorderUptoRow : OpenClaim := { program := "ytkkpbjijakamhaa", sum := "a7d18e26bb0607905cf93e6c958095d71101288225f9dcdcbb6d9ab7448b34a9", func := "loop.example/g00982/laws.FnExactApplyBorder", spec := "fnExactApplyBorder", unfollowed := true, recurses := true, apart := false, narrowed := true }
def FnExactApplyBorderUptoSaid : Prop := fnExactApplyBorderUptoRow.holds Try.pinned (OpenSpec.upto fnExactApplyBorderSpec)

end Rows
end Go.Proofs.Ytkkpbjijakamhaa
