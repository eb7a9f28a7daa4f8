/- The law FnExactIsActive's plain statement: for every tick and level the two functions that the walk found answer alike. It has no further conditions. -/
import Derived.Test.YtgkmijnhhopacaaPFnExactIsActivex1
namespace Go.Proofs.Ytgkmijnhhopacaa.Pure
open Go.RowKit Go.Proofs.Ytgkmijnhhopacaa.PFnExactIsActive Go.Proofs.YtgkmijnhhopacaaW.PrintWords Go.Proofs.YtgkmijnhhopacaaW.PrintLast

/-- YOURS: ∀ (a0 : Int) (a1 : Int), (Lit.int .i64 a0).wf = true → (Lit.int .i64 a1).wf = true → laws_FnExactIsActive.f a0 a1 = some true
What it reaches (each with k first where it has rounds; `.mono`: more rounds tell the same; `.l0`, ..: its loops, with `.mono_l`): spec_l01In.f, spec_WidthOf.f, spec_IsActive.f, impl_within.f, impl_isLevel.f, impl_WidthOf.f, impl_IsActive.f, laws_FnExactIsActive.f -/
theorem FnExactIsActive : laws_FnExactIsActive.Pure := by
  intro a0 a1 _ _
  unfold laws_FnExactIsActive.f spec_IsActive.f impl_IsActive.f spec_WidthOf.f impl_isLevel.f impl_WidthOf.f spec_l01In.f impl_within.f impl_isLevel.f impl_within.f
  by_cases h1 : a1 ≥ 0
  · by_cases h2 : a1 ≤ 4
    · by_cases h3 : a0 ≥ 0
      · have hc : a1 = 0 ∨ a1 = 1 ∨ a1 = 2 ∨ a1 = 3 ∨ a1 = 4 := by omega
        have s0 : shr .i64 16 0 = 16 := by decide
        have s1 : shr .i64 16 1 = 8 := by decide
        have s2 : shr .i64 16 2 = 4 := by decide
        have s3 : shr .i64 16 3 = 2 := by decide
        have s4 : shr .i64 16 4 = 1 := by decide
        rcases hc with rfl | rfl | rfl | rfl | rfl <;> simp [h3, IntKind.wrap_u64, s0, s1, s2, s3, s4]
      · have hc : a1 = 0 ∨ a1 = 1 ∨ a1 = 2 ∨ a1 = 3 ∨ a1 = 4 := by omega
        have s0 : shr .i64 16 0 = 16 := by decide
        have s1 : shr .i64 16 1 = 8 := by decide
        have s2 : shr .i64 16 2 = 4 := by decide
        have s3 : shr .i64 16 3 = 2 := by decide
        have s4 : shr .i64 16 4 = 1 := by decide
        rcases hc with rfl | rfl | rfl | rfl | rfl <;> simp [h3, IntKind.wrap_u64, s0, s1, s2, s3, s4]
    · by_cases h3 : a0 ≥ 0 <;> simp [h1, h2, h3]
  · by_cases h3 : a0 ≥ 0 <;> simp [h1, h3]

end Go.Proofs.Ytgkmijnhhopacaa.Pure
