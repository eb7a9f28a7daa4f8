/-
  No cell of these rows narrows 'for every input' (looked for: loops, veiled, ifaces, maps, wideKeys, modest, calm, conditions, laid).
  DERIVED. THE GIVEN ROWS OF THIS SEAT. 6 by the template 'for every input the law returns true; each argument reads behind the call as it read before'; 0 by the template 'total and deterministic' (their statements: YtgkmijnhhopacaaTotals.lean).
  GIVEN WITH THE SEED: the statements are not yours to turn. If you find one false, say at which input.
  Laid BY PROGRAM, IN A SANDBOX (cutbox-rows.mjs): the forced cells as the released guide's own fill.sh prints them over the translation 4b2b957f0d5e43ba… (all of the seat's roots in one cut). By AI agents, Wed Nov 11 2026. No macro, syntax, notation, axiom, sorry.
-/
import Derived.Test.YtgkmijnhhopacaaChecked
import GoSem.Claim
import GoSem.ClaimJoined
import GoSem.ClaimMapViews
import Derived.JoinedTies
import Derived.KernelRfl
namespace Go.Proofs.Ytgkmijnhhopacaa
/- THE CELL 'sum', in the pinned program and in every row, IS THE sha256 OF THE DUMP (.gsa) THAT YtgkmijnhhopacaaProg.lean LOADS. Nothing in Lean hashes anything: it is a label: what it is worth is what the hold of that sum in a sandbox is worth. -/
noncomputable def Try.pinned : Pinned := { name := "ytgkmijnhhopacaa", sum := "4b2b957f0d5e43ba49592aa5a70871658727b7d402616493392859e58cf9f798", checked := Try.checked }
namespace Rows
def none {H : Type} : Left H := { results := [], args := [] }

/-- 'laws.FnExactStableAmount': WHATEVER THE INPUT: true; the input reads as it did. -/
def fnExactStableAmountSpec : ChangeSpec := { name := "fnExactStableAmount", fn := fun _ => fun
  | [d] => { results := [.lit (.bool true)], args := [d] }
  | _ => none }
def fnExactStableAmountRow : OpenClaim := { program := "ytgkmijnhhopacaa", sum := "4b2b957f0d5e43ba49592aa5a70871658727b7d402616493392859e58cf9f798", func := "loop.example/g00982/laws.FnExactStableAmount", spec := "fnExactStableAmount", apart := false }
def FnExactStableAmountSaid : Prop := fnExactStableAmountRow.holds Try.pinned (OpenSpec.ofChange fnExactStableAmountSpec)

/-- ITS FALSE NEIGHBOUR: 'it returns false'. Refute it at one input. -/
def fnExactStableAmountWrong : ChangeSpec := { name := "fnExactStableAmount", fn := fun _ => fun
  | [d] => { results := [.lit (.bool false)], args := [d] }
  | _ => none }
def FnExactStableAmountWrongFalsely : Prop := fnExactStableAmountRow.holds Try.pinned (OpenSpec.ofChange fnExactStableAmountWrong)

/-- 'laws.FnExactBorderOk': WHATEVER THE INPUT: true; the input reads as it did. -/
def fnExactBorderOkSpec : ChangeSpec := { name := "fnExactBorderOk", fn := fun _ => fun
  | [d] => { results := [.lit (.bool true)], args := [d] }
  | _ => none }
def fnExactBorderOkRow : OpenClaim := { program := "ytgkmijnhhopacaa", sum := "4b2b957f0d5e43ba49592aa5a70871658727b7d402616493392859e58cf9f798", func := "loop.example/g00982/laws.FnExactBorderOk", spec := "fnExactBorderOk", apart := false }
def FnExactBorderOkSaid : Prop := fnExactBorderOkRow.holds Try.pinned (OpenSpec.ofChange fnExactBorderOkSpec)

/-- ITS FALSE NEIGHBOUR: 'it returns false'. Refute it at one input. -/
def fnExactBorderOkWrong : ChangeSpec := { name := "fnExactBorderOk", fn := fun _ => fun
  | [d] => { results := [.lit (.bool false)], args := [d] }
  | _ => none }
def FnExactBorderOkWrongFalsely : Prop := fnExactBorderOkRow.holds Try.pinned (OpenSpec.ofChange fnExactBorderOkWrong)

/-- 'laws.FnExactIsActive': WHATEVER THE INPUT: true; the input reads as it did. -/
def fnExactIsActiveSpec : ChangeSpec := { name := "fnExactIsActive", fn := fun _ => fun
  | [d1, d2] => { results := [.lit (.bool true)], args := [d1, d2] }
  | _ => none }
def fnExactIsActiveRow : OpenClaim := { program := "ytgkmijnhhopacaa", sum := "4b2b957f0d5e43ba49592aa5a70871658727b7d402616493392859e58cf9f798", func := "loop.example/g00982/laws.FnExactIsActive", spec := "fnExactIsActive", apart := false }
def FnExactIsActiveSaid : Prop := fnExactIsActiveRow.holds Try.pinned (OpenSpec.ofChange fnExactIsActiveSpec)

/-- ITS FALSE NEIGHBOUR: 'it returns false'. Refute it at one input. -/
def fnExactIsActiveWrong : ChangeSpec := { name := "fnExactIsActive", fn := fun _ => fun
  | [d1, d2] => { results := [.lit (.bool false)], args := [d1, d2] }
  | _ => none }
def FnExactIsActiveWrongFalsely : Prop := fnExactIsActiveRow.holds Try.pinned (OpenSpec.ofChange fnExactIsActiveWrong)

/-- 'laws.FnExactLeafOut': WHATEVER THE INPUT: true; the input reads as it did. -/
def fnExactLeafOutSpec : ChangeSpec := { name := "fnExactLeafOut", fn := fun _ => fun
  | [d1, d2, d3, d4] => { results := [.lit (.bool true)], args := [d1, d2, d3, d4] }
  | _ => none }
def fnExactLeafOutRow : OpenClaim := { program := "ytgkmijnhhopacaa", sum := "4b2b957f0d5e43ba49592aa5a70871658727b7d402616493392859e58cf9f798", func := "loop.example/g00982/laws.FnExactLeafOut", spec := "fnExactLeafOut", apart := false }
def FnExactLeafOutSaid : Prop := fnExactLeafOutRow.holds Try.pinned (OpenSpec.ofChange fnExactLeafOutSpec)

/-- ITS FALSE NEIGHBOUR: 'it returns false'. Refute it at one input. -/
def fnExactLeafOutWrong : ChangeSpec := { name := "fnExactLeafOut", fn := fun _ => fun
  | [d1, d2, d3, d4] => { results := [.lit (.bool false)], args := [d1, d2, d3, d4] }
  | _ => none }
def FnExactLeafOutWrongFalsely : Prop := fnExactLeafOutRow.holds Try.pinned (OpenSpec.ofChange fnExactLeafOutWrong)

/-- 'laws.FnExactLedgerAdd': WHATEVER THE INPUT: true; the input reads as it did. -/
def fnExactLedgerAddSpec : ChangeSpec := { name := "fnExactLedgerAdd", fn := fun _ => fun
  | [d1, d2] => { results := [.lit (.bool true)], args := [d1, d2] }
  | _ => none }
def fnExactLedgerAddRow : OpenClaim := { program := "ytgkmijnhhopacaa", sum := "4b2b957f0d5e43ba49592aa5a70871658727b7d402616493392859e58cf9f798", func := "loop.example/g00982/laws.FnExactLedgerAdd", spec := "fnExactLedgerAdd", apart := false }
def FnExactLedgerAddSaid : Prop := fnExactLedgerAddRow.holds Try.pinned (OpenSpec.ofChange fnExactLedgerAddSpec)

/-- ITS FALSE NEIGHBOUR: 'it returns false'. Refute it at one input. -/
def fnExactLedgerAddWrong : ChangeSpec := { name := "fnExactLedgerAdd", fn := fun _ => fun
  | [d1, d2] => { results := [.lit (.bool false)], args := [d1, d2] }
  | _ => none }
def FnExactLedgerAddWrongFalsely : Prop := fnExactLedgerAddRow.holds Try.pinned (OpenSpec.ofChange fnExactLedgerAddWrong)

/-- 'laws.FnExactDecayTicks': WHATEVER THE INPUT: true; the input reads as it did. -/
def fnExactDecayTicksSpec : ChangeSpec := { name := "fnExactDecayTicks", fn := fun _ => fun
  | [d1, d2, d3] => { results := [.lit (.bool true)], args := [d1, d2, d3] }
  | _ => none }
def fnExactDecayTicksRow : OpenClaim := { program := "ytgkmijnhhopacaa", sum := "4b2b957f0d5e43ba49592aa5a70871658727b7d402616493392859e58cf9f798", func := "loop.example/g00982/laws.FnExactDecayTicks", spec := "fnExactDecayTicks", apart := false }
def FnExactDecayTicksSaid : Prop := fnExactDecayTicksRow.holds Try.pinned (OpenSpec.ofChange fnExactDecayTicksSpec)

/-- ITS FALSE NEIGHBOUR: 'it returns false'. Refute it at one input. -/
def fnExactDecayTicksWrong : ChangeSpec := { name := "fnExactDecayTicks", fn := fun _ => fun
  | [d1, d2, d3] => { results := [.lit (.bool false)], args := [d1, d2, d3] }
  | _ => none }
def FnExactDecayTicksWrongFalsely : Prop := fnExactDecayTicksRow.holds Try.pinned (OpenSpec.ofChange fnExactDecayTicksWrong)

/- THE SECOND FORM. 'bulk': how many values and letters a reading holds, each counted each time it is reached (what is shared counts as often as it is met; a slice's spare places count too). A statement '..UptoSaid' is the law's where the arguments, and the package variables that the reading takes, are together of bulk at most 1048576: NARROWER than '..Said'. Prove '..Said' where nothing that the law and all that it calls make is longer than what came in: it says more and counts as full. Else prove '..UptoSaid'. A law counts once. -/
mutual
def uptoBulk {H : Type} : DataW H → Nat
  | .lit (.string bytes) => bytes.length + 1
  | .lit _ => 1
  | .nil => 1
  | .ptr d => uptoBulk d + 1
  | .slice elems spare => uptoBulkAll elems + uptoBulkAll spare + 1
  | .agg parts => uptoBulkAll parts + 1
  | .iface _ d => uptoBulk d + 1
  | .map entries => uptoBulkEntries entries + 1
  | .held _ => 1
def uptoBulkAll {H : Type} : List (DataW H) → Nat
  | [] => 0
  | d :: r => uptoBulk d + uptoBulkAll r
def uptoBulkEntries {H : Type} : List (Lit × DataW H) → Nat
  | [] => 0
  | x :: r => uptoBulkEntry x + uptoBulkEntries r
def uptoBulkEntry {H : Type} : Lit × DataW H → Nat
  | (.string bytes, d) => bytes.length + uptoBulk d + 1
  | (_, d) => uptoBulk d + 1
 end
def uptoSmall : (H : Type) → List (DataW H) → Bool := fun _ ds => decide (uptoBulkAll ds ≤ 1048576)
def OpenSpec.upto (s : _root_.Go.ChangeSpec) : _root_.Go.OpenSpec := { _root_.Go.OpenSpec.ofChange s with cond := some uptoSmall }

/-- 'laws.FnExactStableAmount', WHERE WHAT IT READS IS OF BULK AT MOST 1048576: true; the input reads as it did. -/
def fnExactStableAmountUptoRow : OpenClaim := { program := "ytgkmijnhhopacaa", sum := "4b2b957f0d5e43ba49592aa5a70871658727b7d402616493392859e58cf9f798", func := "loop.example/g00982/laws.FnExactStableAmount", spec := "fnExactStableAmount", apart := false, narrowed := true }
def FnExactStableAmountUptoSaid : Prop := fnExactStableAmountUptoRow.holds Try.pinned (OpenSpec.upto fnExactStableAmountSpec)

/-- 'laws.FnExactBorderOk', WHERE WHAT IT READS IS OF BULK AT MOST 1048576: true; the input reads as it did. -/
def fnExactBorderOkUptoRow : OpenClaim := { program := "ytgkmijnhhopacaa", sum := "4b2b957f0d5e43ba49592aa5a70871658727b7d402616493392859e58cf9f798", func := "loop.example/g00982/laws.FnExactBorderOk", spec := "fnExactBorderOk", apart := false, narrowed := true }
def FnExactBorderOkUptoSaid : Prop := fnExactBorderOkUptoRow.holds Try.pinned (OpenSpec.upto fnExactBorderOkSpec)

/-- 'laws.FnExactIsActive', WHERE WHAT IT READS IS OF BULK AT MOST 1048576: true; the input reads as it did. -/
def fnExactIsActiveUptoRow : OpenClaim := { program := "ytgkmijnhhopacaa", sum := "4b2b957f0d5e43ba49592aa5a70871658727b7d402616493392859e58cf9f798", func := "loop.example/g00982/laws.FnExactIsActive", spec := "fnExactIsActive", apart := false, narrowed := true }
def FnExactIsActiveUptoSaid : Prop := fnExactIsActiveUptoRow.holds Try.pinned (OpenSpec.upto fnExactIsActiveSpec)

/-- 'laws.FnExactLeafOut', WHERE WHAT IT READS IS OF BULK AT MOST 1048576: true; the input reads as it did. -/
def fnExactLeafOutUptoRow : OpenClaim := { program := "ytgkmijnhhopacaa", sum := "4b2b957f0d5e43ba49592aa5a70871658727b7d402616493392859e58cf9f798", func := "loop.example/g00982/laws.FnExactLeafOut", spec := "fnExactLeafOut", apart := false, narrowed := true }
def FnExactLeafOutUptoSaid : Prop := fnExactLeafOutUptoRow.holds Try.pinned (OpenSpec.upto fnExactLeafOutSpec)

/-- 'laws.FnExactLedgerAdd', WHERE WHAT IT READS IS OF BULK AT MOST 1048576: true; the input reads as it did. -/
def fnExactLedgerAddUptoRow : OpenClaim := { program := "ytgkmijnhhopacaa", sum := "4b2b957f0d5e43ba49592aa5a70871658727b7d402616493392859e58cf9f798", func := "loop.example/g00982/laws.FnExactLedgerAdd", spec := "fnExactLedgerAdd", apart := false, narrowed := true }
def FnExactLedgerAddUptoSaid : Prop := fnExactLedgerAddUptoRow.holds Try.pinned (OpenSpec.upto fnExactLedgerAddSpec)

/-- 'laws.FnExactDecayTicks', WHERE WHAT IT READS IS OF BULK AT MOST 1048576: true; the input reads as it did. -/
def fnExactDecayTicksUptoRow : OpenClaim := { program := "ytgkmijnhhopacaa", sum := "4b2b957f0d5e43ba49592aa5a70871658727b7d402616493392859e58cf9f798", func := "loop.example/g00982/laws.FnExactDecayTicks", spec := "fnExactDecayTicks", apart := false, narrowed := true }
def FnExactDecayTicksUptoSaid : Prop := fnExactDecayTicksUptoRow.holds Try.pinned (OpenSpec.upto fnExactDecayTicksSpec)

end Rows
end Go.Proofs.Ytgkmijnhhopacaa
