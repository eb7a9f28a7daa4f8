/-
  No cell of these rows narrows 'for every input' (looked for: loops, veiled, ifaces, maps, wideKeys, modest, calm, conditions, laid).
  DERIVED. THE GIVEN ROWS OF THIS SEAT. 4 by the template 'for every input the law returns true; each argument reads behind the call as it read before'; 0 by the template 'total and deterministic' (their statements: YtaalpmbopkbdiaaGreatTotals.lean).
  GIVEN WITH THE SEED: the statements are not yours to turn. If you find one false, say at which input.
  Laid BY PROGRAM, IN A SANDBOX (cutbox-rows.mjs): the forced cells as the released guide's own fill.sh prints them over the translation b11f4e8c28e92263… (all of the seat's roots in one cut). By AI agents, Wed Nov 11 2026. No macro, syntax, notation, axiom, sorry.
-/
import Derived.Test.YtaalpmbopkbdiaaGreatChecked
import GoSem.Claim
import GoSem.ClaimJoined
import GoSem.ClaimMapViews
import Derived.JoinedTies
import Derived.KernelRfl
namespace Go.Proofs.YtaalpmbopkbdiaaGreat
/- THE CELL 'sum', in the pinned program and in every row, IS THE sha256 OF THE DUMP (.gsa) THAT YtaalpmbopkbdiaaGreatProg.lean LOADS. Nothing in Lean hashes anything: it is a label: what it is worth is what the hold of that sum in a sandbox is worth. -/
noncomputable def Tryz.pinned : Pinned := { name := "ytaalpmbopkbdiaagreat", sum := "b11f4e8c28e92263504997cf9242b3e974ddcf0d7555398117c68be6bb0b14e2", checked := Tryz.checked }
namespace Rows
def none {H : Type} : Left H := { results := [], args := [] }

/-- 'laws.FnExactRemapState': WHATEVER THE INPUT: true; the input reads as it did. -/
def fnExactRemapStateSpec : ChangeSpec := { name := "fnExactRemapState", fn := fun _ => fun
  | [d1, d2] => { results := [.lit (.bool true)], args := [d1, d2] }
  | _ => none }
def fnExactRemapStateRow : OpenClaim := { program := "ytaalpmbopkbdiaagreat", sum := "b11f4e8c28e92263504997cf9242b3e974ddcf0d7555398117c68be6bb0b14e2", func := "loop.example/g00982/laws.FnExactRemapState", spec := "fnExactRemapState", inPlace := ["slices.overlaps[loop.example/g00982/impl.Id]", "slices.overlaps[int]"], unfollowed := true, recurses := true, plainKeys := false, apart := false }
def FnExactRemapStateSaid : Prop := fnExactRemapStateRow.holds Tryz.pinned (OpenSpec.ofChange fnExactRemapStateSpec)

/-- ITS FALSE NEIGHBOUR: 'it returns false'. Refute it at one input. -/
def fnExactRemapStateWrong : ChangeSpec := { name := "fnExactRemapState", fn := fun _ => fun
  | [d1, d2] => { results := [.lit (.bool false)], args := [d1, d2] }
  | _ => none }
def FnExactRemapStateWrongFalsely : Prop := fnExactRemapStateRow.holds Tryz.pinned (OpenSpec.ofChange fnExactRemapStateWrong)

/-- 'laws.FnExactAdaptState': WHATEVER THE INPUT: true; the input reads as it did. -/
def fnExactAdaptStateSpec : ChangeSpec := { name := "fnExactAdaptState", fn := fun _ => fun
  | [d1, d2, d3] => { results := [.lit (.bool true)], args := [d1, d2, d3] }
  | _ => none }
def fnExactAdaptStateRow : OpenClaim := { program := "ytaalpmbopkbdiaagreat", sum := "b11f4e8c28e92263504997cf9242b3e974ddcf0d7555398117c68be6bb0b14e2", func := "loop.example/g00982/laws.FnExactAdaptState", spec := "fnExactAdaptState", inPlace := ["slices.overlaps[loop.example/g00982/impl.Id]", "slices.overlaps[int]"], unfollowed := true, recurses := true, plainKeys := false, apart := false }
def FnExactAdaptStateSaid : Prop := fnExactAdaptStateRow.holds Tryz.pinned (OpenSpec.ofChange fnExactAdaptStateSpec)

/-- ITS FALSE NEIGHBOUR: 'it returns false'. Refute it at one input. -/
def fnExactAdaptStateWrong : ChangeSpec := { name := "fnExactAdaptState", fn := fun _ => fun
  | [d1, d2, d3] => { results := [.lit (.bool false)], args := [d1, d2, d3] }
  | _ => none }
def FnExactAdaptStateWrongFalsely : Prop := fnExactAdaptStateRow.holds Tryz.pinned (OpenSpec.ofChange fnExactAdaptStateWrong)

/-- 'laws.FnExactRunMacro': WHATEVER THE INPUT: true; the input reads as it did. -/
def fnExactRunMacroSpec : ChangeSpec := { name := "fnExactRunMacro", fn := fun _ => fun
  | [d1, d2, d3] => { results := [.lit (.bool true)], args := [d1, d2, d3] }
  | _ => none }
def fnExactRunMacroRow : OpenClaim := { program := "ytaalpmbopkbdiaagreat", sum := "b11f4e8c28e92263504997cf9242b3e974ddcf0d7555398117c68be6bb0b14e2", func := "loop.example/g00982/laws.FnExactRunMacro", spec := "fnExactRunMacro", inPlace := ["slices.overlaps[loop.example/g00982/impl.Id]", "slices.overlaps[int]"], unfollowed := true, recurses := true, plainKeys := false, apart := false }
def FnExactRunMacroSaid : Prop := fnExactRunMacroRow.holds Tryz.pinned (OpenSpec.ofChange fnExactRunMacroSpec)

/-- ITS FALSE NEIGHBOUR: 'it returns false'. Refute it at one input. -/
def fnExactRunMacroWrong : ChangeSpec := { name := "fnExactRunMacro", fn := fun _ => fun
  | [d1, d2, d3] => { results := [.lit (.bool false)], args := [d1, d2, d3] }
  | _ => none }
def FnExactRunMacroWrongFalsely : Prop := fnExactRunMacroRow.holds Tryz.pinned (OpenSpec.ofChange fnExactRunMacroWrong)

/-- 'laws.FnExactRunFlow': WHATEVER THE INPUT: true; the input reads as it did. -/
def fnExactRunFlowSpec : ChangeSpec := { name := "fnExactRunFlow", fn := fun _ => fun
  | [d1, d2, d3, d4] => { results := [.lit (.bool true)], args := [d1, d2, d3, d4] }
  | _ => none }
def fnExactRunFlowRow : OpenClaim := { program := "ytaalpmbopkbdiaagreat", sum := "b11f4e8c28e92263504997cf9242b3e974ddcf0d7555398117c68be6bb0b14e2", func := "loop.example/g00982/laws.FnExactRunFlow", spec := "fnExactRunFlow", inPlace := ["slices.overlaps[loop.example/g00982/impl.Id]", "slices.overlaps[int]"], unfollowed := true, recurses := true, plainKeys := false, apart := false }
def FnExactRunFlowSaid : Prop := fnExactRunFlowRow.holds Tryz.pinned (OpenSpec.ofChange fnExactRunFlowSpec)

/-- ITS FALSE NEIGHBOUR: 'it returns false'. Refute it at one input. -/
def fnExactRunFlowWrong : ChangeSpec := { name := "fnExactRunFlow", fn := fun _ => fun
  | [d1, d2, d3, d4] => { results := [.lit (.bool false)], args := [d1, d2, d3, d4] }
  | _ => none }
def FnExactRunFlowWrongFalsely : Prop := fnExactRunFlowRow.holds Tryz.pinned (OpenSpec.ofChange fnExactRunFlowWrong)

/- THE SECOND FORM. 'bulk': how many values and letters a reading holds, each counted each time it is reached (what is shared counts as often as it is met; a slice's spare places count too). A statement '..UptoSaid' is the law's where the arguments, and the package variables that the reading takes, are together of bulk at most 1048576: NARROWER than '..Said'. Prove '..Said' where nothing that the law and all that it calls make is longer than what came in: it says more and counts as full. Else prove '..UptoSaid'. A law counts once. -/
mutual
def uptoBulk {H : Type} : DataW H → Nat
  | .lit (.string bytes) => bytes.length + 1
  | .lit _ => 1
  | .nil => 1
  | .ptr d => uptoBulk d + 1
  | .slice elems spare => uptoBulkAll elems + uptoBulkAll spare + 1
  | .agg parts => uptoBulkAll parts + 1
  | .iface _ d => uptoBulk d + 1
  | .map entries => uptoBulkEntries entries + 1
  | .held _ => 1
def uptoBulkAll {H : Type} : List (DataW H) → Nat
  | [] => 0
  | d :: r => uptoBulk d + uptoBulkAll r
def uptoBulkEntries {H : Type} : List (Lit × DataW H) → Nat
  | [] => 0
  | x :: r => uptoBulkEntry x + uptoBulkEntries r
def uptoBulkEntry {H : Type} : Lit × DataW H → Nat
  | (.string bytes, d) => bytes.length + uptoBulk d + 1
  | (_, d) => uptoBulk d + 1
 end
def uptoSmall : (H : Type) → List (DataW H) → Bool := fun _ ds => decide (uptoBulkAll ds ≤ 1048576)
def OpenSpec.upto (s : _root_.Go.ChangeSpec) : _root_.Go.OpenSpec := { _root_.Go.OpenSpec.ofChange s with cond := some uptoSmall }

/-- 'laws.FnExactRemapState', WHERE WHAT IT READS IS OF BULK AT MOST 1048576: true; the input reads as it did. -/
def fnExactRemapStateUptoRow : OpenClaim := { program := "ytaalpmbopkbdiaagreat", sum := "b11f4e8c28e92263504997cf9242b3e974ddcf0d7555398117c68be6bb0b14e2", func := "loop.example/g00982/laws.FnExactRemapState", spec := "fnExactRemapState", inPlace := ["slices.overlaps[loop.example/g00982/impl.Id]", "slices.overlaps[int]"], unfollowed := true, recurses := true, plainKeys := false, apart := false, narrowed := true }
def FnExactRemapStateUptoSaid : Prop := fnExactRemapStateUptoRow.holds Tryz.pinned (OpenSpec.upto fnExactRemapStateSpec)

/-- 'laws.FnExactAdaptState', WHERE WHAT IT READS IS OF BULK AT MOST 1048576: true; the input reads as it did. -/
def fnExactAdaptStateUptoRow : OpenClaim := { program := "ytaalpmbopkbdiaagreat", sum := "b11f4e8c28e92263504997cf9242b3e974ddcf0d7555398117c68be6bb0b14e2", func := "loop.example/g00982/laws.FnExactAdaptState", spec := "fnExactAdaptState", inPlace := ["slices.overlaps[loop.example/g00982/impl.Id]", "slices.overlaps[int]"], unfollowed := true, recurses := true, plainKeys := false, apart := false, narrowed := true }
def FnExactAdaptStateUptoSaid : Prop := fnExactAdaptStateUptoRow.holds Tryz.pinned (OpenSpec.upto fnExactAdaptStateSpec)

/-- 'laws.FnExactRunMacro', WHERE WHAT IT READS IS OF BULK AT MOST 1048576: true; the input reads as it did. -/
def fnExactRunMacroUptoRow : OpenClaim := { program := "ytaalpmbopkbdiaagreat", sum := "b11f4e8c28e92263504997cf9242b3e974ddcf0d7555398117c68be6bb0b14e2", func := "loop.example/g00982/laws.FnExactRunMacro", spec := "fnExactRunMacro", inPlace := ["slices.overlaps[loop.example/g00982/impl.Id]", "slices.overlaps[int]"], unfollowed := true, recurses := true, plainKeys := false, apart := false, narrowed := true }
def FnExactRunMacroUptoSaid : Prop := fnExactRunMacroUptoRow.holds Tryz.pinned (OpenSpec.upto fnExactRunMacroSpec)

/-- 'laws.FnExactRunFlow', WHERE WHAT IT READS IS OF BULK AT MOST 1048576: true; the input reads as it did. -/
def fnExactRunFlowUptoRow : OpenClaim := { program := "ytaalpmbopkbdiaagreat", sum := "b11f4e8c28e92263504997cf9242b3e974ddcf0d7555398117c68be6bb0b14e2", func := "loop.example/g00982/laws.FnExactRunFlow", spec := "fnExactRunFlow", inPlace := ["slices.overlaps[loop.example/g00982/impl.Id]", "slices.overlaps[int]"], unfollowed := true, recurses := true, plainKeys := false, apart := false, narrowed := true }
def FnExactRunFlowUptoSaid : Prop := fnExactRunFlowUptoRow.holds Tryz.pinned (OpenSpec.upto fnExactRunFlowSpec)

end Rows
end Go.Proofs.YtaalpmbopkbdiaaGreat
