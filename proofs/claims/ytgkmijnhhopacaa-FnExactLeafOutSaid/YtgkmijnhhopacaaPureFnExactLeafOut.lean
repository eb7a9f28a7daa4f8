/- The law FnExactLeafOut's plain statement: for all four whole numbers the two functions that the walk found answer alike. It has no further conditions. -/
import Derived.Test.YtgkmijnhhopacaaPFnExactLeafOutx1
namespace Go.Proofs.Ytgkmijnhhopacaa.Pure
open Go.RowKit Go.Proofs.Ytgkmijnhhopacaa.PFnExactLeafOut Go.Proofs.YtgkmijnhhopacaaW.PrintWords Go.Proofs.YtgkmijnhhopacaaW.PrintLast

/-- YOURS: ∀ (a0 : Int) (a1 : Int) (a2 : Int) (a3 : Int), (Lit.int .i64 a0).wf = true → (Lit.int .i64 a1).wf = true → (Lit.int .i64 a2).wf = true → (Lit.int .i64 a3).wf = true → ∃ k, laws_FnExactLeafOut.f k a0 a1 a2 a3 = some true
What it reaches (each with k first where it has rounds; `.mono`: more rounds tell the same; `.l0`, ..: its loops, with `.mono_l`): spec_l01In.f, spec_ShareOut.f, spec_LeafOut.f, impl_within.f, impl_ShareOut.f, impl_LeafOut.f, laws_FnExactLeafOut.f -/
theorem FnExactLeafOut : laws_FnExactLeafOut.Pure := by
  intro a0 a1 a2 a3 _ _ _ _
  refine ⟨1, ?_⟩
  have e1 : ∀ a b c, spec_l01In.f a b c = some (decide (b ≤ a) && decide (a ≤ c)) := fun a b c => by unfold spec_l01In.f; by_cases h : a ≥ b <;> simp [h]
  have e2 : ∀ a b c, impl_within.f a b c = spec_l01In.f a b c := fun a b c => rfl
  have e3 : ∀ a b c, impl_ShareOut.f a b c = spec_ShareOut.f a b c := fun a b c => rfl
  have e4 : ∀ a b c, ∃ r, spec_ShareOut.f a b c = some r := fun a b c => by
    unfold spec_ShareOut.f
    simp only [e1, Option.bind_some]
    by_cases h : (decide (1 ≤ c) && decide (c ≤ 10000000)) = true
    · rw [if_pos h]
      have hz : ¬ c = 0 := by simp at h; omega
      rw [if_neg hz]
      by_cases h1 : (decide (0 ≤ b) && decide (b ≤ c)) = true
      · rw [if_pos h1]
        by_cases h2 : (decide (0 ≤ a) && decide (a ≤ wrap64 (1000 * c))) = true
        · rw [if_pos h2]; exact ⟨_, rfl⟩
        · rw [if_neg h2]; exact ⟨_, rfl⟩
      · rw [if_neg h1]; exact ⟨_, rfl⟩
    · rw [if_neg h]; exact ⟨_, rfl⟩
  have e5 : ∀ x0 x1 x2 x3 b, impl_LeafOut.j0 1 x0 x1 x2 x3 b = spec_LeafOut.j0 1 x0 x1 x2 x3 b := fun x0 x1 x2 x3 b => rfl
  have e6 : impl_LeafOut.f 1 a0 a1 a2 a3 = spec_LeafOut.f 1 a0 a1 a2 a3 := rfl
  have e7 : ∀ x0 x1 x2 x3 b, ∃ r, spec_LeafOut.j0 1 x0 x1 x2 x3 b = some r := fun x0 x1 x2 x3 b => by
    show ∃ r, (if b = true then (some (0, 0)) else ((spec_ShareOut.f x0 x2 x1).bind fun t108 => ((spec_ShareOut.f x0 (wrap64 (x2 + x3)) x1).bind fun t109 => (some (t108, wrap64 (t109 - t108)))))) = some r
    obtain ⟨r1, h1⟩ := e4 x0 x2 x1
    obtain ⟨r2, h2⟩ := e4 x0 (wrap64 (x2 + x3)) x1
    rw [h1, Option.bind_some, h2]
    by_cases hb : b = true
    · rw [if_pos hb]; exact ⟨_, rfl⟩
    · rw [if_neg hb]; exact ⟨_, rfl⟩
  have e8 : ∃ r, spec_LeafOut.f 1 a0 a1 a2 a3 = some r := by
    unfold spec_LeafOut.f
    simp only [e1, Option.bind_some]
    repeat' split
    all_goals exact e7 _ _ _ _ _
  obtain ⟨r, hr⟩ := e8
  unfold laws_FnExactLeafOut.f
  rw [e6, hr]
  simp

end Go.Proofs.Ytgkmijnhhopacaa.Pure
