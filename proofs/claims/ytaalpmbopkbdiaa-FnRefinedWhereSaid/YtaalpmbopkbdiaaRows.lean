/-
  No cell of these rows narrows 'for every input' (looked for: loops, veiled, ifaces, maps, wideKeys, modest, calm, conditions, laid).
  DERIVED. THE GIVEN ROWS OF THIS SEAT. 5 by the template 'for every input the law returns true; each argument reads behind the call as it read before'; 0 by the template 'total and deterministic' (their statements: YtaalpmbopkbdiaaTotals.lean).
  GIVEN WITH THE SEED: the statements are not yours to turn. If you find one false, say at which input.
  Laid BY PROGRAM, IN A SANDBOX (cutbox-rows.mjs): the forced cells as the released guide's own fill.sh prints them over the translation dd1bf97e07681b73… (all of the seat's roots in one cut). By AI agents, Wed Nov 11 2026. No macro, syntax, notation, axiom, sorry.
-/
import Derived.Test.YtaalpmbopkbdiaaChecked
import GoSem.Claim
import GoSem.ClaimJoined
import GoSem.ClaimMapViews
import Derived.JoinedTies
import Derived.KernelRfl
namespace Go.Proofs.Ytaalpmbopkbdiaa
/- THE CELL 'sum', in the pinned program and in every row, IS THE sha256 OF THE DUMP (.gsa) THAT YtaalpmbopkbdiaaProg.lean LOADS. Nothing in Lean hashes anything: it is a label: what it is worth is what the hold of that sum in a sandbox is worth. -/
noncomputable def Try.pinned : Pinned := { name := "ytaalpmbopkbdiaa", sum := "dd1bf97e07681b7306d566e61f00540ce834c3b98eb5a5e710132374bdcae04d", checked := Try.checked }
namespace Rows
def none {H : Type} : Left H := { results := [], args := [] }

/-- 'laws.FnSharesKept': WHATEVER THE INPUT: true; the input reads as it did. -/
def fnSharesKeptSpec : ChangeSpec := { name := "fnSharesKept", fn := fun _ => fun
  | [d] => { results := [.lit (.bool true)], args := [d] }
  | _ => none }
def fnSharesKeptRow : OpenClaim := { program := "ytaalpmbopkbdiaa", sum := "dd1bf97e07681b7306d566e61f00540ce834c3b98eb5a5e710132374bdcae04d", func := "loop.example/g00982/laws.FnSharesKept", spec := "fnSharesKept", unfollowed := true, recurses := true, plainKeys := false, apart := false }
def FnSharesKeptSaid : Prop := fnSharesKeptRow.holds Try.pinned (OpenSpec.ofChange fnSharesKeptSpec)

/-- ITS FALSE NEIGHBOUR: 'it returns false'. Refute it at one input. -/
def fnSharesKeptWrong : ChangeSpec := { name := "fnSharesKept", fn := fun _ => fun
  | [d] => { results := [.lit (.bool false)], args := [d] }
  | _ => none }
def FnSharesKeptWrongFalsely : Prop := fnSharesKeptRow.holds Try.pinned (OpenSpec.ofChange fnSharesKeptWrong)

/-- 'laws.FnExactRunEvents': WHATEVER THE INPUT: true; the input reads as it did. -/
def fnExactRunEventsSpec : ChangeSpec := { name := "fnExactRunEvents", fn := fun _ => fun
  | [d1, d2] => { results := [.lit (.bool true)], args := [d1, d2] }
  | _ => none }
def fnExactRunEventsRow : OpenClaim := { program := "ytaalpmbopkbdiaa", sum := "dd1bf97e07681b7306d566e61f00540ce834c3b98eb5a5e710132374bdcae04d", func := "loop.example/g00982/laws.FnExactRunEvents", spec := "fnExactRunEvents", unfollowed := true, recurses := true, plainKeys := false, apart := false }
def FnExactRunEventsSaid : Prop := fnExactRunEventsRow.holds Try.pinned (OpenSpec.ofChange fnExactRunEventsSpec)

/-- ITS FALSE NEIGHBOUR: 'it returns false'. Refute it at one input. -/
def fnExactRunEventsWrong : ChangeSpec := { name := "fnExactRunEvents", fn := fun _ => fun
  | [d1, d2] => { results := [.lit (.bool false)], args := [d1, d2] }
  | _ => none }
def FnExactRunEventsWrongFalsely : Prop := fnExactRunEventsRow.holds Try.pinned (OpenSpec.ofChange fnExactRunEventsWrong)

/-- 'laws.FnExactDropLevel': WHATEVER THE INPUT: true; the input reads as it did. -/
def fnExactDropLevelSpec : ChangeSpec := { name := "fnExactDropLevel", fn := fun _ => fun
  | [d1, d2, d3] => { results := [.lit (.bool true)], args := [d1, d2, d3] }
  | _ => none }
def fnExactDropLevelRow : OpenClaim := { program := "ytaalpmbopkbdiaa", sum := "dd1bf97e07681b7306d566e61f00540ce834c3b98eb5a5e710132374bdcae04d", func := "loop.example/g00982/laws.FnExactDropLevel", spec := "fnExactDropLevel", unfollowed := true, recurses := true, plainKeys := false, apart := false }
def FnExactDropLevelSaid : Prop := fnExactDropLevelRow.holds Try.pinned (OpenSpec.ofChange fnExactDropLevelSpec)

/-- ITS FALSE NEIGHBOUR: 'it returns false'. Refute it at one input. -/
def fnExactDropLevelWrong : ChangeSpec := { name := "fnExactDropLevel", fn := fun _ => fun
  | [d1, d2, d3] => { results := [.lit (.bool false)], args := [d1, d2, d3] }
  | _ => none }
def FnExactDropLevelWrongFalsely : Prop := fnExactDropLevelRow.holds Try.pinned (OpenSpec.ofChange fnExactDropLevelWrong)

/-- 'laws.FnExactBalanceRefine': WHATEVER THE INPUT: true; the input reads as it did. -/
def fnExactBalanceRefineSpec : ChangeSpec := { name := "fnExactBalanceRefine", fn := fun _ => fun
  | [d1, d2] => { results := [.lit (.bool true)], args := [d1, d2] }
  | _ => none }
def fnExactBalanceRefineRow : OpenClaim := { program := "ytaalpmbopkbdiaa", sum := "dd1bf97e07681b7306d566e61f00540ce834c3b98eb5a5e710132374bdcae04d", func := "loop.example/g00982/laws.FnExactBalanceRefine", spec := "fnExactBalanceRefine", inPlace := ["slices.overlaps[loop.example/g00982/impl.Id]", "slices.overlaps[int]"], unfollowed := true, recurses := true, plainKeys := false, apart := false }
def FnExactBalanceRefineSaid : Prop := fnExactBalanceRefineRow.holds Try.pinned (OpenSpec.ofChange fnExactBalanceRefineSpec)

/-- ITS FALSE NEIGHBOUR: 'it returns false'. Refute it at one input. -/
def fnExactBalanceRefineWrong : ChangeSpec := { name := "fnExactBalanceRefine", fn := fun _ => fun
  | [d1, d2] => { results := [.lit (.bool false)], args := [d1, d2] }
  | _ => none }
def FnExactBalanceRefineWrongFalsely : Prop := fnExactBalanceRefineRow.holds Try.pinned (OpenSpec.ofChange fnExactBalanceRefineWrong)

/-- 'laws.FnRefinedWhere': WHATEVER THE INPUT: true; the input reads as it did. -/
def fnRefinedWhereSpec : ChangeSpec := { name := "fnRefinedWhere", fn := fun _ => fun
  | [d] => { results := [.lit (.bool true)], args := [d] }
  | _ => none }
def fnRefinedWhereRow : OpenClaim := { program := "ytaalpmbopkbdiaa", sum := "dd1bf97e07681b7306d566e61f00540ce834c3b98eb5a5e710132374bdcae04d", func := "loop.example/g00982/laws.FnRefinedWhere", spec := "fnRefinedWhere", inPlace := ["slices.overlaps[loop.example/g00982/impl.Id]", "slices.overlaps[int]"], unfollowed := true, recurses := true, plainKeys := false, apart := false }
def FnRefinedWhereSaid : Prop := fnRefinedWhereRow.holds Try.pinned (OpenSpec.ofChange fnRefinedWhereSpec)

/-- ITS FALSE NEIGHBOUR: 'it returns false'. Refute it at one input. -/
def fnRefinedWhereWrong : ChangeSpec := { name := "fnRefinedWhere", fn := fun _ => fun
  | [d] => { results := [.lit (.bool false)], args := [d] }
  | _ => none }
def FnRefinedWhereWrongFalsely : Prop := fnRefinedWhereRow.holds Try.pinned (OpenSpec.ofChange fnRefinedWhereWrong)

/- THE SECOND FORM. 'bulk': how many values and letters a reading holds, each counted each time it is reached (what is shared counts as often as it is met; a slice's spare places count too). A statement '..UptoSaid' is the law's where the arguments, and the package variables that the reading takes, are together of bulk at most 1048576: NARROWER than '..Said'. Prove '..Said' where nothing that the law and all that it calls make is longer than what came in: it says more and counts as full. Else prove '..UptoSaid'. A law counts once. -/
mutual
def uptoBulk {H : Type} : DataW H → Nat
  | .lit (.string bytes) => bytes.length + 1
  | .lit _ => 1
  | .nil => 1
  | .ptr d => uptoBulk d + 1
  | .slice elems spare => uptoBulkAll elems + uptoBulkAll spare + 1
  | .agg parts => uptoBulkAll parts + 1
  | .iface _ d => uptoBulk d + 1
  | .map entries => uptoBulkEntries entries + 1
  | .held _ => 1
def uptoBulkAll {H : Type} : List (DataW H) → Nat
  | [] => 0
  | d :: r => uptoBulk d + uptoBulkAll r
def uptoBulkEntries {H : Type} : List (Lit × DataW H) → Nat
  | [] => 0
  | x :: r => uptoBulkEntry x + uptoBulkEntries r
def uptoBulkEntry {H : Type} : Lit × DataW H → Nat
  | (.string bytes, d) => bytes.length + uptoBulk d + 1
  | (_, d) => uptoBulk d + 1
 end
def uptoSmall : (H : Type) → List (DataW H) → Bool := fun _ ds => decide (uptoBulkAll ds ≤ 1048576)
def OpenSpec.upto (s : _root_.Go.ChangeSpec) : _root_.Go.OpenSpec := { _root_.Go.OpenSpec.ofChange s with cond := some uptoSmall }

/-- 'laws.FnSharesKept', WHERE WHAT IT READS IS OF BULK AT MOST 1048576: true; the input reads as it did. -/
def fnSharesKeptUptoRow : OpenClaim := { program := "ytaalpmbopkbdiaa", sum := "dd1bf97e07681b7306d566e61f00540ce834c3b98eb5a5e710132374bdcae04d", func := "loop.example/g00982/laws.FnSharesKept", spec := "fnSharesKept", unfollowed := true, recurses := true, plainKeys := false, apart := false, narrowed := true }
def FnSharesKeptUptoSaid : Prop := fnSharesKeptUptoRow.holds Try.pinned (OpenSpec.upto fnSharesKeptSpec)

/-- 'laws.FnExactRunEvents', WHERE WHAT IT READS IS OF BULK AT MOST 1048576: true; the input reads as it did. -/
def fnExactRunEventsUptoRow : OpenClaim := { program := "ytaalpmbopkbdiaa", sum := "dd1bf97e07681b7306d566e61f00540ce834c3b98eb5a5e710132374bdcae04d", func := "loop.example/g00982/laws.FnExactRunEvents", spec := "fnExactRunEvents", unfollowed := true, recurses := true, plainKeys := false, apart := false, narrowed := true }
def FnExactRunEventsUptoSaid : Prop := fnExactRunEventsUptoRow.holds Try.pinned (OpenSpec.upto fnExactRunEventsSpec)

/-- 'laws.FnExactDropLevel', WHERE WHAT IT READS IS OF BULK AT MOST 1048576: true; the input reads as it did. -/
def fnExactDropLevelUptoRow : OpenClaim := { program := "ytaalpmbopkbdiaa", sum := "dd1bf97e07681b7306d566e61f00540ce834c3b98eb5a5e710132374bdcae04d", func := "loop.example/g00982/laws.FnExactDropLevel", spec := "fnExactDropLevel", unfollowed := true, recurses := true, plainKeys := false, apart := false, narrowed := true }
def FnExactDropLevelUptoSaid : Prop := fnExactDropLevelUptoRow.holds Try.pinned (OpenSpec.upto fnExactDropLevelSpec)

/-- 'laws.FnExactBalanceRefine', WHERE WHAT IT READS IS OF BULK AT MOST 1048576: true; the input reads as it did. -/
def fnExactBalanceRefineUptoRow : OpenClaim := { program := "ytaalpmbopkbdiaa", sum := "dd1bf97e07681b7306d566e61f00540ce834c3b98eb5a5e710132374bdcae04d", func := "loop.example/g00982/laws.FnExactBalanceRefine", spec := "fnExactBalanceRefine", inPlace := ["slices.overlaps[loop.example/g00982/impl.Id]", "slices.overlaps[int]"], unfollowed := true, recurses := true, plainKeys := false, apart := false, narrowed := true }
def FnExactBalanceRefineUptoSaid : Prop := fnExactBalanceRefineUptoRow.holds Try.pinned (OpenSpec.upto fnExactBalanceRefineSpec)

/-- 'laws.FnRefinedWhere', WHERE WHAT IT READS IS OF BULK AT MOST 1048576: true; the input reads as it did. -/
def fnRefinedWhereUptoRow : OpenClaim := { program := "ytaalpmbopkbdiaa", sum := "dd1bf97e07681b7306d566e61f00540ce834c3b98eb5a5e710132374bdcae04d", func := "loop.example/g00982/laws.FnRefinedWhere", spec := "fnRefinedWhere", inPlace := ["slices.overlaps[loop.example/g00982/impl.Id]", "slices.overlaps[int]"], unfollowed := true, recurses := true, plainKeys := false, apart := false, narrowed := true }
def FnRefinedWhereUptoSaid : Prop := fnRefinedWhereUptoRow.holds Try.pinned (OpenSpec.upto fnRefinedWhereSpec)

end Rows
end Go.Proofs.Ytaalpmbopkbdiaa
