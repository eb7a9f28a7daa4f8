/-
  No cell of these rows narrows 'for every input' (looked for: loops, veiled, ifaces, maps, wideKeys, modest, calm, conditions, laid).
  DERIVED. THE GIVEN ROWS OF THIS SEAT. 12 by the template 'for every input the law returns true; each argument reads behind the call as it read before'; 0 by the template 'total and deterministic' (their statements: YtdcecoddecghdaaTotals.lean).
  GIVEN WITH THE SEED: the statements are not yours to turn. If you find one false, say at which input.
  Laid BY PROGRAM, IN A SANDBOX (cutbox-rows.mjs): the forced cells as the released guide's own fill.sh prints them over the translation 9111987d5ce616ba… (all of the seat's roots in one cut). By AI agents, Wed Nov 11 2026. No macro, syntax, notation, axiom, sorry.
-/
import Derived.Test.YtdcecoddecghdaaChecked
import GoSem.Claim
import GoSem.ClaimJoined
import GoSem.ClaimMapViews
import Derived.JoinedTies
import Derived.KernelRfl
namespace Go.Proofs.Ytdcecoddecghdaa
/- THE CELL 'sum', in the pinned program and in every row, IS THE sha256 OF THE DUMP (.gsa) THAT YtdcecoddecghdaaProg.lean LOADS. Nothing in Lean hashes anything: it is a label: what it is worth is what the hold of that sum in a sandbox is worth. -/
noncomputable def Try.pinned : Pinned := { name := "ytdcecoddecghdaa", sum := "9111987d5ce616ba1fcbc24fbfcb357454a7263704a034982bf6e9b47afab07d", checked := Try.checked }
namespace Rows
def none {H : Type} : Left H := { results := [], args := [] }

/-- 'laws.FnCarried': WHATEVER THE INPUT: true; the input reads as it did. -/
def fnCarriedSpec : ChangeSpec := { name := "fnCarried", fn := fun _ => fun
  | [d] => { results := [.lit (.bool true)], args := [d] }
  | _ => none }
def fnCarriedRow : OpenClaim := { program := "ytdcecoddecghdaa", sum := "9111987d5ce616ba1fcbc24fbfcb357454a7263704a034982bf6e9b47afab07d", func := "loop.example/g00982/laws.FnCarried", spec := "fnCarried", apart := false }
def FnCarriedSaid : Prop := fnCarriedRow.holds Try.pinned (OpenSpec.ofChange fnCarriedSpec)

/-- ITS FALSE NEIGHBOUR: 'it returns false'. Refute it at one input. -/
def fnCarriedWrong : ChangeSpec := { name := "fnCarried", fn := fun _ => fun
  | [d] => { results := [.lit (.bool false)], args := [d] }
  | _ => none }
def FnCarriedWrongFalsely : Prop := fnCarriedRow.holds Try.pinned (OpenSpec.ofChange fnCarriedWrong)

/-- 'laws.FnExactCostOf': WHATEVER THE INPUT: true; the input reads as it did. -/
def fnExactCostOfSpec : ChangeSpec := { name := "fnExactCostOf", fn := fun _ => fun
  | [d] => { results := [.lit (.bool true)], args := [d] }
  | _ => none }
def fnExactCostOfRow : OpenClaim := { program := "ytdcecoddecghdaa", sum := "9111987d5ce616ba1fcbc24fbfcb357454a7263704a034982bf6e9b47afab07d", func := "loop.example/g00982/laws.FnExactCostOf", spec := "fnExactCostOf", apart := false }
def FnExactCostOfSaid : Prop := fnExactCostOfRow.holds Try.pinned (OpenSpec.ofChange fnExactCostOfSpec)

/-- ITS FALSE NEIGHBOUR: 'it returns false'. Refute it at one input. -/
def fnExactCostOfWrong : ChangeSpec := { name := "fnExactCostOf", fn := fun _ => fun
  | [d] => { results := [.lit (.bool false)], args := [d] }
  | _ => none }
def FnExactCostOfWrongFalsely : Prop := fnExactCostOfRow.holds Try.pinned (OpenSpec.ofChange fnExactCostOfWrong)

/-- 'laws.FnExactIsFinerEverywhere': WHATEVER THE INPUT: true; the input reads as it did. -/
def fnExactIsFinerEverywhereSpec : ChangeSpec := { name := "fnExactIsFinerEverywhere", fn := fun _ => fun
  | [d1, d2] => { results := [.lit (.bool true)], args := [d1, d2] }
  | _ => none }
def fnExactIsFinerEverywhereRow : OpenClaim := { program := "ytdcecoddecghdaa", sum := "9111987d5ce616ba1fcbc24fbfcb357454a7263704a034982bf6e9b47afab07d", func := "loop.example/g00982/laws.FnExactIsFinerEverywhere", spec := "fnExactIsFinerEverywhere", unfollowed := true, recurses := true, apart := false }
def FnExactIsFinerEverywhereSaid : Prop := fnExactIsFinerEverywhereRow.holds Try.pinned (OpenSpec.ofChange fnExactIsFinerEverywhereSpec)

/-- ITS FALSE NEIGHBOUR: 'it returns false'. Refute it at one input. -/
def fnExactIsFinerEverywhereWrong : ChangeSpec := { name := "fnExactIsFinerEverywhere", fn := fun _ => fun
  | [d1, d2] => { results := [.lit (.bool false)], args := [d1, d2] }
  | _ => none }
def FnExactIsFinerEverywhereWrongFalsely : Prop := fnExactIsFinerEverywhereRow.holds Try.pinned (OpenSpec.ofChange fnExactIsFinerEverywhereWrong)

/-- 'laws.FnExactSavedBy': WHATEVER THE INPUT: true; the input reads as it did. -/
def fnExactSavedBySpec : ChangeSpec := { name := "fnExactSavedBy", fn := fun _ => fun
  | [d] => { results := [.lit (.bool true)], args := [d] }
  | _ => none }
def fnExactSavedByRow : OpenClaim := { program := "ytdcecoddecghdaa", sum := "9111987d5ce616ba1fcbc24fbfcb357454a7263704a034982bf6e9b47afab07d", func := "loop.example/g00982/laws.FnExactSavedBy", spec := "fnExactSavedBy", apart := false }
def FnExactSavedBySaid : Prop := fnExactSavedByRow.holds Try.pinned (OpenSpec.ofChange fnExactSavedBySpec)

/-- ITS FALSE NEIGHBOUR: 'it returns false'. Refute it at one input. -/
def fnExactSavedByWrong : ChangeSpec := { name := "fnExactSavedBy", fn := fun _ => fun
  | [d] => { results := [.lit (.bool false)], args := [d] }
  | _ => none }
def FnExactSavedByWrongFalsely : Prop := fnExactSavedByRow.holds Try.pinned (OpenSpec.ofChange fnExactSavedByWrong)

/-- 'laws.FnExactActiveFaces': WHATEVER THE INPUT: true; the input reads as it did. -/
def fnExactActiveFacesSpec : ChangeSpec := { name := "fnExactActiveFaces", fn := fun _ => fun
  | [d1, d2] => { results := [.lit (.bool true)], args := [d1, d2] }
  | _ => none }
def fnExactActiveFacesRow : OpenClaim := { program := "ytdcecoddecghdaa", sum := "9111987d5ce616ba1fcbc24fbfcb357454a7263704a034982bf6e9b47afab07d", func := "loop.example/g00982/laws.FnExactActiveFaces", spec := "fnExactActiveFaces", apart := false }
def FnExactActiveFacesSaid : Prop := fnExactActiveFacesRow.holds Try.pinned (OpenSpec.ofChange fnExactActiveFacesSpec)

/-- ITS FALSE NEIGHBOUR: 'it returns false'. Refute it at one input. -/
def fnExactActiveFacesWrong : ChangeSpec := { name := "fnExactActiveFaces", fn := fun _ => fun
  | [d1, d2] => { results := [.lit (.bool false)], args := [d1, d2] }
  | _ => none }
def FnExactActiveFacesWrongFalsely : Prop := fnExactActiveFacesRow.holds Try.pinned (OpenSpec.ofChange fnExactActiveFacesWrong)

/-- 'laws.FnExactEventsOf': WHATEVER THE INPUT: true; the input reads as it did. -/
def fnExactEventsOfSpec : ChangeSpec := { name := "fnExactEventsOf", fn := fun _ => fun
  | [d] => { results := [.lit (.bool true)], args := [d] }
  | _ => none }
def fnExactEventsOfRow : OpenClaim := { program := "ytdcecoddecghdaa", sum := "9111987d5ce616ba1fcbc24fbfcb357454a7263704a034982bf6e9b47afab07d", func := "loop.example/g00982/laws.FnExactEventsOf", spec := "fnExactEventsOf", apart := false }
def FnExactEventsOfSaid : Prop := fnExactEventsOfRow.holds Try.pinned (OpenSpec.ofChange fnExactEventsOfSpec)

/-- ITS FALSE NEIGHBOUR: 'it returns false'. Refute it at one input. -/
def fnExactEventsOfWrong : ChangeSpec := { name := "fnExactEventsOf", fn := fun _ => fun
  | [d] => { results := [.lit (.bool false)], args := [d] }
  | _ => none }
def FnExactEventsOfWrongFalsely : Prop := fnExactEventsOfRow.holds Try.pinned (OpenSpec.ofChange fnExactEventsOfWrong)

/-- 'laws.FnExactDropLevel': WHATEVER THE INPUT: true; the input reads as it did. -/
def fnExactDropLevelSpec : ChangeSpec := { name := "fnExactDropLevel", fn := fun _ => fun
  | [d1, d2, d3] => { results := [.lit (.bool true)], args := [d1, d2, d3] }
  | _ => none }
def fnExactDropLevelRow : OpenClaim := { program := "ytdcecoddecghdaa", sum := "9111987d5ce616ba1fcbc24fbfcb357454a7263704a034982bf6e9b47afab07d", func := "loop.example/g00982/laws.FnExactDropLevel", spec := "fnExactDropLevel", unfollowed := true, recurses := true, apart := false }
def FnExactDropLevelSaid : Prop := fnExactDropLevelRow.holds Try.pinned (OpenSpec.ofChange fnExactDropLevelSpec)

/-- ITS FALSE NEIGHBOUR: 'it returns false'. Refute it at one input. -/
def fnExactDropLevelWrong : ChangeSpec := { name := "fnExactDropLevel", fn := fun _ => fun
  | [d1, d2, d3] => { results := [.lit (.bool false)], args := [d1, d2, d3] }
  | _ => none }
def FnExactDropLevelWrongFalsely : Prop := fnExactDropLevelRow.holds Try.pinned (OpenSpec.ofChange fnExactDropLevelWrong)

/-- 'laws.FnExactShareAt': WHATEVER THE INPUT: true; the input reads as it did. -/
def fnExactShareAtSpec : ChangeSpec := { name := "fnExactShareAt", fn := fun _ => fun
  | [d1, d2] => { results := [.lit (.bool true)], args := [d1, d2] }
  | _ => none }
def fnExactShareAtRow : OpenClaim := { program := "ytdcecoddecghdaa", sum := "9111987d5ce616ba1fcbc24fbfcb357454a7263704a034982bf6e9b47afab07d", func := "loop.example/g00982/laws.FnExactShareAt", spec := "fnExactShareAt", unfollowed := true, recurses := true, apart := false }
def FnExactShareAtSaid : Prop := fnExactShareAtRow.holds Try.pinned (OpenSpec.ofChange fnExactShareAtSpec)

/-- ITS FALSE NEIGHBOUR: 'it returns false'. Refute it at one input. -/
def fnExactShareAtWrong : ChangeSpec := { name := "fnExactShareAt", fn := fun _ => fun
  | [d1, d2] => { results := [.lit (.bool false)], args := [d1, d2] }
  | _ => none }
def FnExactShareAtWrongFalsely : Prop := fnExactShareAtRow.holds Try.pinned (OpenSpec.ofChange fnExactShareAtWrong)

/-- 'laws.FnExactGreatestShare': WHATEVER THE INPUT: true; the input reads as it did. -/
def fnExactGreatestShareSpec : ChangeSpec := { name := "fnExactGreatestShare", fn := fun _ => fun
  | [d] => { results := [.lit (.bool true)], args := [d] }
  | _ => none }
def fnExactGreatestShareRow : OpenClaim := { program := "ytdcecoddecghdaa", sum := "9111987d5ce616ba1fcbc24fbfcb357454a7263704a034982bf6e9b47afab07d", func := "loop.example/g00982/laws.FnExactGreatestShare", spec := "fnExactGreatestShare", unfollowed := true, recurses := true, apart := false }
def FnExactGreatestShareSaid : Prop := fnExactGreatestShareRow.holds Try.pinned (OpenSpec.ofChange fnExactGreatestShareSpec)

/-- ITS FALSE NEIGHBOUR: 'it returns false'. Refute it at one input. -/
def fnExactGreatestShareWrong : ChangeSpec := { name := "fnExactGreatestShare", fn := fun _ => fun
  | [d] => { results := [.lit (.bool false)], args := [d] }
  | _ => none }
def FnExactGreatestShareWrongFalsely : Prop := fnExactGreatestShareRow.holds Try.pinned (OpenSpec.ofChange fnExactGreatestShareWrong)

/-- 'laws.FnExactSurfaceOf': WHATEVER THE INPUT: true; the input reads as it did. -/
def fnExactSurfaceOfSpec : ChangeSpec := { name := "fnExactSurfaceOf", fn := fun _ => fun
  | [d1, d2] => { results := [.lit (.bool true)], args := [d1, d2] }
  | _ => none }
def fnExactSurfaceOfRow : OpenClaim := { program := "ytdcecoddecghdaa", sum := "9111987d5ce616ba1fcbc24fbfcb357454a7263704a034982bf6e9b47afab07d", func := "loop.example/g00982/laws.FnExactSurfaceOf", spec := "fnExactSurfaceOf", unfollowed := true, recurses := true, apart := false }
def FnExactSurfaceOfSaid : Prop := fnExactSurfaceOfRow.holds Try.pinned (OpenSpec.ofChange fnExactSurfaceOfSpec)

/-- ITS FALSE NEIGHBOUR: 'it returns false'. Refute it at one input. -/
def fnExactSurfaceOfWrong : ChangeSpec := { name := "fnExactSurfaceOf", fn := fun _ => fun
  | [d1, d2] => { results := [.lit (.bool false)], args := [d1, d2] }
  | _ => none }
def FnExactSurfaceOfWrongFalsely : Prop := fnExactSurfaceOfRow.holds Try.pinned (OpenSpec.ofChange fnExactSurfaceOfWrong)

/-- 'laws.FnExactLeastShare': WHATEVER THE INPUT: true; the input reads as it did. -/
def fnExactLeastShareSpec : ChangeSpec := { name := "fnExactLeastShare", fn := fun _ => fun
  | [d] => { results := [.lit (.bool true)], args := [d] }
  | _ => none }
def fnExactLeastShareRow : OpenClaim := { program := "ytdcecoddecghdaa", sum := "9111987d5ce616ba1fcbc24fbfcb357454a7263704a034982bf6e9b47afab07d", func := "loop.example/g00982/laws.FnExactLeastShare", spec := "fnExactLeastShare", unfollowed := true, recurses := true, apart := false }
def FnExactLeastShareSaid : Prop := fnExactLeastShareRow.holds Try.pinned (OpenSpec.ofChange fnExactLeastShareSpec)

/-- ITS FALSE NEIGHBOUR: 'it returns false'. Refute it at one input. -/
def fnExactLeastShareWrong : ChangeSpec := { name := "fnExactLeastShare", fn := fun _ => fun
  | [d] => { results := [.lit (.bool false)], args := [d] }
  | _ => none }
def FnExactLeastShareWrongFalsely : Prop := fnExactLeastShareRow.holds Try.pinned (OpenSpec.ofChange fnExactLeastShareWrong)

/-- 'laws.FnExactDryOut': WHATEVER THE INPUT: true; the input reads as it did. -/
def fnExactDryOutSpec : ChangeSpec := { name := "fnExactDryOut", fn := fun _ => fun
  | [d1, d2] => { results := [.lit (.bool true)], args := [d1, d2] }
  | _ => none }
def fnExactDryOutRow : OpenClaim := { program := "ytdcecoddecghdaa", sum := "9111987d5ce616ba1fcbc24fbfcb357454a7263704a034982bf6e9b47afab07d", func := "loop.example/g00982/laws.FnExactDryOut", spec := "fnExactDryOut", unfollowed := true, recurses := true, apart := false }
def FnExactDryOutSaid : Prop := fnExactDryOutRow.holds Try.pinned (OpenSpec.ofChange fnExactDryOutSpec)

/-- ITS FALSE NEIGHBOUR: 'it returns false'. Refute it at one input. -/
def fnExactDryOutWrong : ChangeSpec := { name := "fnExactDryOut", fn := fun _ => fun
  | [d1, d2] => { results := [.lit (.bool false)], args := [d1, d2] }
  | _ => none }
def FnExactDryOutWrongFalsely : Prop := fnExactDryOutRow.holds Try.pinned (OpenSpec.ofChange fnExactDryOutWrong)

/- THE SECOND FORM. 'bulk': how many values and letters a reading holds, each counted each time it is reached (what is shared counts as often as it is met; a slice's spare places count too). A statement '..UptoSaid' is the law's where the arguments, and the package variables that the reading takes, are together of bulk at most 1048576: NARROWER than '..Said'. Prove '..Said' where nothing that the law and all that it calls make is longer than what came in: it says more and counts as full. Else prove '..UptoSaid'. A law counts once. -/
mutual
def uptoBulk {H : Type} : DataW H → Nat
  | .lit (.string bytes) => bytes.length + 1
  | .lit _ => 1
  | .nil => 1
  | .ptr d => uptoBulk d + 1
  | .slice elems spare => uptoBulkAll elems + uptoBulkAll spare + 1
  | .agg parts => uptoBulkAll parts + 1
  | .iface _ d => uptoBulk d + 1
  | .map entries => uptoBulkEntries entries + 1
  | .held _ => 1
def uptoBulkAll {H : Type} : List (DataW H) → Nat
  | [] => 0
  | d :: r => uptoBulk d + uptoBulkAll r
def uptoBulkEntries {H : Type} : List (Lit × DataW H) → Nat
  | [] => 0
  | x :: r => uptoBulkEntry x + uptoBulkEntries r
def uptoBulkEntry {H : Type} : Lit × DataW H → Nat
  | (.string bytes, d) => bytes.length + uptoBulk d + 1
  | (_, d) => uptoBulk d + 1
 end
def uptoSmall : (H : Type) → List (DataW H) → Bool := fun _ ds => decide (uptoBulkAll ds ≤ 1048576)
def OpenSpec.upto (s : _root_.Go.ChangeSpec) : _root_.Go.OpenSpec := { _root_.Go.OpenSpec.ofChange s with cond := some uptoSmall }

/-- 'laws.FnCarried', WHERE WHAT IT READS IS OF BULK AT MOST 1048576: true; the input reads as it did. -/
def fnCarriedUptoRow : OpenClaim := { program := "ytdcecoddecghdaa", sum := "9111987d5ce616ba1fcbc24fbfcb357454a7263704a034982bf6e9b47afab07d", func := "loop.example/g00982/laws.FnCarried", spec := "fnCarried", apart := false, narrowed := true }
def FnCarriedUptoSaid : Prop := fnCarriedUptoRow.holds Try.pinned (OpenSpec.upto fnCarriedSpec)

/-- 'laws.FnExactCostOf', WHERE WHAT IT READS IS OF BULK AT MOST 1048576: true; the input reads as it did. -/
def fnExactCostOfUptoRow : OpenClaim := { program := "ytdcecoddecghdaa", sum := "9111987d5ce616ba1fcbc24fbfcb357454a7263704a034982bf6e9b47afab07d", func := "loop.example/g00982/laws.FnExactCostOf", spec := "fnExactCostOf", apart := false, narrowed := true }
def FnExactCostOfUptoSaid : Prop := fnExactCostOfUptoRow.holds Try.pinned (OpenSpec.upto fnExactCostOfSpec)

/-- 'laws.FnExactIsFinerEverywhere', WHERE WHAT IT READS IS OF BULK AT MOST 1048576: true; the input reads as it did. -/
def fnExactIsFinerEverywhereUptoRow : OpenClaim := { program := "ytdcecoddecghdaa", sum := "9111987d5ce616ba1fcbc24fbfcb357454a7263704a034982bf6e9b47afab07d", func := "loop.example/g00982/laws.FnExactIsFinerEverywhere", spec := "fnExactIsFinerEverywhere", unfollowed := true, recurses := true, apart := false, narrowed := true }
def FnExactIsFinerEverywhereUptoSaid : Prop := fnExactIsFinerEverywhereUptoRow.holds Try.pinned (OpenSpec.upto fnExactIsFinerEverywhereSpec)

/-- 'laws.FnExactSavedBy', WHERE WHAT IT READS IS OF BULK AT MOST 1048576: true; the input reads as it did. -/
def fnExactSavedByUptoRow : OpenClaim := { program := "ytdcecoddecghdaa", sum := "9111987d5ce616ba1fcbc24fbfcb357454a7263704a034982bf6e9b47afab07d", func := "loop.example/g00982/laws.FnExactSavedBy", spec := "fnExactSavedBy", apart := false, narrowed := true }
def FnExactSavedByUptoSaid : Prop := fnExactSavedByUptoRow.holds Try.pinned (OpenSpec.upto fnExactSavedBySpec)

/-- 'laws.FnExactActiveFaces', WHERE WHAT IT READS IS OF BULK AT MOST 1048576: true; the input reads as it did. -/
def fnExactActiveFacesUptoRow : OpenClaim := { program := "ytdcecoddecghdaa", sum := "9111987d5ce616ba1fcbc24fbfcb357454a7263704a034982bf6e9b47afab07d", func := "loop.example/g00982/laws.FnExactActiveFaces", spec := "fnExactActiveFaces", apart := false, narrowed := true }
def FnExactActiveFacesUptoSaid : Prop := fnExactActiveFacesUptoRow.holds Try.pinned (OpenSpec.upto fnExactActiveFacesSpec)

/-- 'laws.FnExactEventsOf', WHERE WHAT IT READS IS OF BULK AT MOST 1048576: true; the input reads as it did. -/
def fnExactEventsOfUptoRow : OpenClaim := { program := "ytdcecoddecghdaa", sum := "9111987d5ce616ba1fcbc24fbfcb357454a7263704a034982bf6e9b47afab07d", func := "loop.example/g00982/laws.FnExactEventsOf", spec := "fnExactEventsOf", apart := false, narrowed := true }
def FnExactEventsOfUptoSaid : Prop := fnExactEventsOfUptoRow.holds Try.pinned (OpenSpec.upto fnExactEventsOfSpec)

/-- 'laws.FnExactDropLevel', WHERE WHAT IT READS IS OF BULK AT MOST 1048576: true; the input reads as it did. -/
def fnExactDropLevelUptoRow : OpenClaim := { program := "ytdcecoddecghdaa", sum := "9111987d5ce616ba1fcbc24fbfcb357454a7263704a034982bf6e9b47afab07d", func := "loop.example/g00982/laws.FnExactDropLevel", spec := "fnExactDropLevel", unfollowed := true, recurses := true, apart := false, narrowed := true }
def FnExactDropLevelUptoSaid : Prop := fnExactDropLevelUptoRow.holds Try.pinned (OpenSpec.upto fnExactDropLevelSpec)

/-- 'laws.FnExactShareAt', WHERE WHAT IT READS IS OF BULK AT MOST 1048576: true; the input reads as it did. -/
def fnExactShareAtUptoRow : OpenClaim := { program := "ytdcecoddecghdaa", sum := "9111987d5ce616ba1fcbc24fbfcb357454a7263704a034982bf6e9b47afab07d", func := "loop.example/g00982/laws.FnExactShareAt", spec := "fnExactShareAt", unfollowed := true, recurses := true, apart := false, narrowed := true }
def FnExactShareAtUptoSaid : Prop := fnExactShareAtUptoRow.holds Try.pinned (OpenSpec.upto fnExactShareAtSpec)

/-- 'laws.FnExactGreatestShare', WHERE WHAT IT READS IS OF BULK AT MOST 1048576: true; the input reads as it did. -/
def fnExactGreatestShareUptoRow : OpenClaim := { program := "ytdcecoddecghdaa", sum := "9111987d5ce616ba1fcbc24fbfcb357454a7263704a034982bf6e9b47afab07d", func := "loop.example/g00982/laws.FnExactGreatestShare", spec := "fnExactGreatestShare", unfollowed := true, recurses := true, apart := false, narrowed := true }
def FnExactGreatestShareUptoSaid : Prop := fnExactGreatestShareUptoRow.holds Try.pinned (OpenSpec.upto fnExactGreatestShareSpec)

/-- 'laws.FnExactSurfaceOf', WHERE WHAT IT READS IS OF BULK AT MOST 1048576: true; the input reads as it did. -/
def fnExactSurfaceOfUptoRow : OpenClaim := { program := "ytdcecoddecghdaa", sum := "9111987d5ce616ba1fcbc24fbfcb357454a7263704a034982bf6e9b47afab07d", func := "loop.example/g00982/laws.FnExactSurfaceOf", spec := "fnExactSurfaceOf", unfollowed := true, recurses := true, apart := false, narrowed := true }
def FnExactSurfaceOfUptoSaid : Prop := fnExactSurfaceOfUptoRow.holds Try.pinned (OpenSpec.upto fnExactSurfaceOfSpec)

/-- 'laws.FnExactLeastShare', WHERE WHAT IT READS IS OF BULK AT MOST 1048576: true; the input reads as it did. -/
def fnExactLeastShareUptoRow : OpenClaim := { program := "ytdcecoddecghdaa", sum := "9111987d5ce616ba1fcbc24fbfcb357454a7263704a034982bf6e9b47afab07d", func := "loop.example/g00982/laws.FnExactLeastShare", spec := "fnExactLeastShare", unfollowed := true, recurses := true, apart := false, narrowed := true }
def FnExactLeastShareUptoSaid : Prop := fnExactLeastShareUptoRow.holds Try.pinned (OpenSpec.upto fnExactLeastShareSpec)

/-- 'laws.FnExactDryOut', WHERE WHAT IT READS IS OF BULK AT MOST 1048576: true; the input reads as it did. -/
def fnExactDryOutUptoRow : OpenClaim := { program := "ytdcecoddecghdaa", sum := "9111987d5ce616ba1fcbc24fbfcb357454a7263704a034982bf6e9b47afab07d", func := "loop.example/g00982/laws.FnExactDryOut", spec := "fnExactDryOut", unfollowed := true, recurses := true, apart := false, narrowed := true }
def FnExactDryOutUptoSaid : Prop := fnExactDryOutUptoRow.holds Try.pinned (OpenSpec.upto fnExactDryOutSpec)

end Rows
end Go.Proofs.Ytdcecoddecghdaa
