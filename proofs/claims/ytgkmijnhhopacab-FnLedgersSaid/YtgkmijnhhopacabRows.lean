/-
  No cell of these rows narrows 'for every input' (looked for: loops, veiled, ifaces, maps, wideKeys, modest, calm, conditions, laid).
  DERIVED. THE GIVEN ROWS OF THIS SEAT. 6 by the template 'for every input the law returns true; each argument reads behind the call as it read before'; 0 by the template 'total and deterministic' (their statements: YtgkmijnhhopacabTotals.lean).
  GIVEN WITH THE SEED: the statements are not yours to turn. If you find one false, say at which input.
  Laid BY PROGRAM, IN A SANDBOX (cutbox-rows.mjs): the forced cells as the released guide's own fill.sh prints them over the translation 22190a19d09cbf74… (all of the seat's roots in one cut). By AI agents, Wed Nov 11 2026. No macro, syntax, notation, axiom, sorry.
-/
import Derived.Test.YtgkmijnhhopacabChecked
import GoSem.Claim
import GoSem.ClaimJoined
import GoSem.ClaimMapViews
import Derived.JoinedTies
import Derived.KernelRfl
namespace Go.Proofs.Ytgkmijnhhopacab
/- THE CELL 'sum', in the pinned program and in every row, IS THE sha256 OF THE DUMP (.gsa) THAT YtgkmijnhhopacabProg.lean LOADS. Nothing in Lean hashes anything: it is a label: what it is worth is what the hold of that sum in a sandbox is worth. -/
noncomputable def Try.pinned : Pinned := { name := "ytgkmijnhhopacab", sum := "22190a19d09cbf74dcc54878235b1f764111c1f0049886493f2330eb411831a2", checked := Try.checked }
namespace Rows
def none {H : Type} : Left H := { results := [], args := [] }

/-- 'laws.FnExactPlanOk': WHATEVER THE INPUT: true; the input reads as it did. -/
def fnExactPlanOkSpec : ChangeSpec := { name := "fnExactPlanOk", fn := fun _ => fun
  | [d] => { results := [.lit (.bool true)], args := [d] }
  | _ => none }
def fnExactPlanOkRow : OpenClaim := { program := "ytgkmijnhhopacab", sum := "22190a19d09cbf74dcc54878235b1f764111c1f0049886493f2330eb411831a2", func := "loop.example/g00982/laws.FnExactPlanOk", spec := "fnExactPlanOk", apart := false }
def FnExactPlanOkSaid : Prop := fnExactPlanOkRow.holds Try.pinned (OpenSpec.ofChange fnExactPlanOkSpec)

/-- ITS FALSE NEIGHBOUR: 'it returns false'. Refute it at one input. -/
def fnExactPlanOkWrong : ChangeSpec := { name := "fnExactPlanOk", fn := fun _ => fun
  | [d] => { results := [.lit (.bool false)], args := [d] }
  | _ => none }
def FnExactPlanOkWrongFalsely : Prop := fnExactPlanOkRow.holds Try.pinned (OpenSpec.ofChange fnExactPlanOkWrong)

/-- 'laws.FnShareRange': WHATEVER THE INPUT: true; the input reads as it did. -/
def fnShareRangeSpec : ChangeSpec := { name := "fnShareRange", fn := fun _ => fun
  | [d] => { results := [.lit (.bool true)], args := [d] }
  | _ => none }
def fnShareRangeRow : OpenClaim := { program := "ytgkmijnhhopacab", sum := "22190a19d09cbf74dcc54878235b1f764111c1f0049886493f2330eb411831a2", func := "loop.example/g00982/laws.FnShareRange", spec := "fnShareRange", unfollowed := true, recurses := true, apart := false }
def FnShareRangeSaid : Prop := fnShareRangeRow.holds Try.pinned (OpenSpec.ofChange fnShareRangeSpec)

/-- ITS FALSE NEIGHBOUR: 'it returns false'. Refute it at one input. -/
def fnShareRangeWrong : ChangeSpec := { name := "fnShareRange", fn := fun _ => fun
  | [d] => { results := [.lit (.bool false)], args := [d] }
  | _ => none }
def FnShareRangeWrongFalsely : Prop := fnShareRangeRow.holds Try.pinned (OpenSpec.ofChange fnShareRangeWrong)

/-- 'laws.FnExactCountWishes': WHATEVER THE INPUT: true; the input reads as it did. -/
def fnExactCountWishesSpec : ChangeSpec := { name := "fnExactCountWishes", fn := fun _ => fun
  | [d1, d2] => { results := [.lit (.bool true)], args := [d1, d2] }
  | _ => none }
def fnExactCountWishesRow : OpenClaim := { program := "ytgkmijnhhopacab", sum := "22190a19d09cbf74dcc54878235b1f764111c1f0049886493f2330eb411831a2", func := "loop.example/g00982/laws.FnExactCountWishes", spec := "fnExactCountWishes", apart := false }
def FnExactCountWishesSaid : Prop := fnExactCountWishesRow.holds Try.pinned (OpenSpec.ofChange fnExactCountWishesSpec)

/-- ITS FALSE NEIGHBOUR: 'it returns false'. Refute it at one input. -/
def fnExactCountWishesWrong : ChangeSpec := { name := "fnExactCountWishes", fn := fun _ => fun
  | [d1, d2] => { results := [.lit (.bool false)], args := [d1, d2] }
  | _ => none }
def FnExactCountWishesWrongFalsely : Prop := fnExactCountWishesRow.holds Try.pinned (OpenSpec.ofChange fnExactCountWishesWrong)

/-- 'laws.FnLedgers': WHATEVER THE INPUT: true; the input reads as it did. -/
def fnLedgersSpec : ChangeSpec := { name := "fnLedgers", fn := fun _ => fun
  | [d] => { results := [.lit (.bool true)], args := [d] }
  | _ => none }
def fnLedgersRow : OpenClaim := { program := "ytgkmijnhhopacab", sum := "22190a19d09cbf74dcc54878235b1f764111c1f0049886493f2330eb411831a2", func := "loop.example/g00982/laws.FnLedgers", spec := "fnLedgers", apart := false }
def FnLedgersSaid : Prop := fnLedgersRow.holds Try.pinned (OpenSpec.ofChange fnLedgersSpec)

/-- ITS FALSE NEIGHBOUR: 'it returns false'. Refute it at one input. -/
def fnLedgersWrong : ChangeSpec := { name := "fnLedgers", fn := fun _ => fun
  | [d] => { results := [.lit (.bool false)], args := [d] }
  | _ => none }
def FnLedgersWrongFalsely : Prop := fnLedgersRow.holds Try.pinned (OpenSpec.ofChange fnLedgersWrong)

/-- 'laws.FnExactSystemOk': WHATEVER THE INPUT: true; the input reads as it did. -/
def fnExactSystemOkSpec : ChangeSpec := { name := "fnExactSystemOk", fn := fun _ => fun
  | [d1, d2, d3] => { results := [.lit (.bool true)], args := [d1, d2, d3] }
  | _ => none }
def fnExactSystemOkRow : OpenClaim := { program := "ytgkmijnhhopacab", sum := "22190a19d09cbf74dcc54878235b1f764111c1f0049886493f2330eb411831a2", func := "loop.example/g00982/laws.FnExactSystemOk", spec := "fnExactSystemOk", unfollowed := true, recurses := true, apart := false }
def FnExactSystemOkSaid : Prop := fnExactSystemOkRow.holds Try.pinned (OpenSpec.ofChange fnExactSystemOkSpec)

/-- ITS FALSE NEIGHBOUR: 'it returns false'. Refute it at one input. -/
def fnExactSystemOkWrong : ChangeSpec := { name := "fnExactSystemOk", fn := fun _ => fun
  | [d1, d2, d3] => { results := [.lit (.bool false)], args := [d1, d2, d3] }
  | _ => none }
def FnExactSystemOkWrongFalsely : Prop := fnExactSystemOkRow.holds Try.pinned (OpenSpec.ofChange fnExactSystemOkWrong)

/-- 'laws.FnExactNextTick': WHATEVER THE INPUT: true; the input reads as it did. -/
def fnExactNextTickSpec : ChangeSpec := { name := "fnExactNextTick", fn := fun _ => fun
  | [d1, d2] => { results := [.lit (.bool true)], args := [d1, d2] }
  | _ => none }
def fnExactNextTickRow : OpenClaim := { program := "ytgkmijnhhopacab", sum := "22190a19d09cbf74dcc54878235b1f764111c1f0049886493f2330eb411831a2", func := "loop.example/g00982/laws.FnExactNextTick", spec := "fnExactNextTick", apart := false }
def FnExactNextTickSaid : Prop := fnExactNextTickRow.holds Try.pinned (OpenSpec.ofChange fnExactNextTickSpec)

/-- ITS FALSE NEIGHBOUR: 'it returns false'. Refute it at one input. -/
def fnExactNextTickWrong : ChangeSpec := { name := "fnExactNextTick", fn := fun _ => fun
  | [d1, d2] => { results := [.lit (.bool false)], args := [d1, d2] }
  | _ => none }
def FnExactNextTickWrongFalsely : Prop := fnExactNextTickRow.holds Try.pinned (OpenSpec.ofChange fnExactNextTickWrong)

/- THE SECOND FORM. 'bulk': how many values and letters a reading holds, each counted each time it is reached (what is shared counts as often as it is met; a slice's spare places count too). A statement '..UptoSaid' is the law's where the arguments, and the package variables that the reading takes, are together of bulk at most 1048576: NARROWER than '..Said'. Prove '..Said' where nothing that the law and all that it calls make is longer than what came in: it says more and counts as full. Else prove '..UptoSaid'. A law counts once. -/
mutual
def uptoBulk {H : Type} : DataW H → Nat
  | .lit (.string bytes) => bytes.length + 1
  | .lit _ => 1
  | .nil => 1
  | .ptr d => uptoBulk d + 1
  | .slice elems spare => uptoBulkAll elems + uptoBulkAll spare + 1
  | .agg parts => uptoBulkAll parts + 1
  | .iface _ d => uptoBulk d + 1
  | .map entries => uptoBulkEntries entries + 1
  | .held _ => 1
def uptoBulkAll {H : Type} : List (DataW H) → Nat
  | [] => 0
  | d :: r => uptoBulk d + uptoBulkAll r
def uptoBulkEntries {H : Type} : List (Lit × DataW H) → Nat
  | [] => 0
  | x :: r => uptoBulkEntry x + uptoBulkEntries r
def uptoBulkEntry {H : Type} : Lit × DataW H → Nat
  | (.string bytes, d) => bytes.length + uptoBulk d + 1
  | (_, d) => uptoBulk d + 1
 end
def uptoSmall : (H : Type) → List (DataW H) → Bool := fun _ ds => decide (uptoBulkAll ds ≤ 1048576)
def OpenSpec.upto (s : _root_.Go.ChangeSpec) : _root_.Go.OpenSpec := { _root_.Go.OpenSpec.ofChange s with cond := some uptoSmall }

/-- 'laws.FnExactPlanOk', WHERE WHAT IT READS IS OF BULK AT MOST 1048576: true; the input reads as it did. -/
def fnExactPlanOkUptoRow : OpenClaim := { program := "ytgkmijnhhopacab", sum := "22190a19d09cbf74dcc54878235b1f764111c1f0049886493f2330eb411831a2", func := "loop.example/g00982/laws.FnExactPlanOk", spec := "fnExactPlanOk", apart := false, narrowed := true }
def FnExactPlanOkUptoSaid : Prop := fnExactPlanOkUptoRow.holds Try.pinned (OpenSpec.upto fnExactPlanOkSpec)

/-- 'laws.FnShareRange', WHERE WHAT IT READS IS OF BULK AT MOST 1048576: true; the input reads as it did. -/
def fnShareRangeUptoRow : OpenClaim := { program := "ytgkmijnhhopacab", sum := "22190a19d09cbf74dcc54878235b1f764111c1f0049886493f2330eb411831a2", func := "loop.example/g00982/laws.FnShareRange", spec := "fnShareRange", unfollowed := true, recurses := true, apart := false, narrowed := true }
def FnShareRangeUptoSaid : Prop := fnShareRangeUptoRow.holds Try.pinned (OpenSpec.upto fnShareRangeSpec)

/-- 'laws.FnExactCountWishes', WHERE WHAT IT READS IS OF BULK AT MOST 1048576: true; the input reads as it did. -/
def fnExactCountWishesUptoRow : OpenClaim := { program := "ytgkmijnhhopacab", sum := "22190a19d09cbf74dcc54878235b1f764111c1f0049886493f2330eb411831a2", func := "loop.example/g00982/laws.FnExactCountWishes", spec := "fnExactCountWishes", apart := false, narrowed := true }
def FnExactCountWishesUptoSaid : Prop := fnExactCountWishesUptoRow.holds Try.pinned (OpenSpec.upto fnExactCountWishesSpec)

/-- 'laws.FnLedgers', WHERE WHAT IT READS IS OF BULK AT MOST 1048576: true; the input reads as it did. -/
def fnLedgersUptoRow : OpenClaim := { program := "ytgkmijnhhopacab", sum := "22190a19d09cbf74dcc54878235b1f764111c1f0049886493f2330eb411831a2", func := "loop.example/g00982/laws.FnLedgers", spec := "fnLedgers", apart := false, narrowed := true }
def FnLedgersUptoSaid : Prop := fnLedgersUptoRow.holds Try.pinned (OpenSpec.upto fnLedgersSpec)

/-- 'laws.FnExactSystemOk', WHERE WHAT IT READS IS OF BULK AT MOST 1048576: true; the input reads as it did. -/
def fnExactSystemOkUptoRow : OpenClaim := { program := "ytgkmijnhhopacab", sum := "22190a19d09cbf74dcc54878235b1f764111c1f0049886493f2330eb411831a2", func := "loop.example/g00982/laws.FnExactSystemOk", spec := "fnExactSystemOk", unfollowed := true, recurses := true, apart := false, narrowed := true }
def FnExactSystemOkUptoSaid : Prop := fnExactSystemOkUptoRow.holds Try.pinned (OpenSpec.upto fnExactSystemOkSpec)

/-- 'laws.FnExactNextTick', WHERE WHAT IT READS IS OF BULK AT MOST 1048576: true; the input reads as it did. -/
def fnExactNextTickUptoRow : OpenClaim := { program := "ytgkmijnhhopacab", sum := "22190a19d09cbf74dcc54878235b1f764111c1f0049886493f2330eb411831a2", func := "loop.example/g00982/laws.FnExactNextTick", spec := "fnExactNextTick", apart := false, narrowed := true }
def FnExactNextTickUptoSaid : Prop := fnExactNextTickUptoRow.holds Try.pinned (OpenSpec.upto fnExactNextTickSpec)

end Rows
end Go.Proofs.Ytgkmijnhhopacab
