/- The law FnExactStableAmount's plain statement: for every whole number the two functions that the walk found answer alike. It has no further conditions. -/
import Derived.Test.YtgkmijnhhopacaaPFnExactStableAmountx1
namespace Go.Proofs.Ytgkmijnhhopacaa.Pure
open Go.RowKit Go.Proofs.Ytgkmijnhhopacaa.PFnExactStableAmount Go.Proofs.YtgkmijnhhopacaaW.PrintWords Go.Proofs.YtgkmijnhhopacaaW.PrintLast

/-- YOURS: ∀ (a0 : Int), (Lit.int .i64 a0).wf = true → laws_FnExactStableAmount.f a0 = some true
What it reaches (each with k first where it has rounds; `.mono`: more rounds tell the same; `.l0`, ..: its loops, with `.mono_l`): spec_l01In.f, spec_StableAmount.f, impl_within.f, impl_StableAmount.f, laws_FnExactStableAmount.f -/
theorem FnExactStableAmount : laws_FnExactStableAmount.Pure := by
  intro a0 _
  unfold laws_FnExactStableAmount.f spec_StableAmount.f impl_StableAmount.f spec_l01In.f impl_within.f
  by_cases h1 : a0 ≥ 1
  · by_cases h2 : a0 ≤ 1000
    · have h0 : a0 ≠ 0 := by omega
      simp [h1, h2, h0]
    · simp [h1, h2]
  · simp [h1]

end Go.Proofs.Ytgkmijnhhopacaa.Pure
