/- The law FnExactDecayTicks's plain statement: for all three whole numbers the two loops end and answer alike. It has no further conditions. -/
import Derived.Test.YtgkmijnhhopacaaPFnExactDecayTicksx1
namespace Go.Proofs.Ytgkmijnhhopacaa.Pure
open Go.RowKit Go.Proofs.Ytgkmijnhhopacaa.PFnExactDecayTicks Go.Proofs.YtgkmijnhhopacaaW.PrintWords Go.Proofs.YtgkmijnhhopacaaW.PrintLast

/-- YOURS: ∀ (a0 : Int) (a1 : Int) (a2 : Int), (Lit.int .i64 a0).wf = true → (Lit.int .i64 a1).wf = true → (Lit.int .i64 a2).wf = true → ∃ k, laws_FnExactDecayTicks.f k a0 a1 a2 = some true
What it reaches (each with k first where it has rounds; `.mono`: more rounds tell the same; `.l0`, ..: its loops, with `.mono_l`): spec_l01In.f, spec_DecayTicks.f, impl_within.f, impl_isRate.f, impl_DecayTicks.f, laws_FnExactDecayTicks.f -/
theorem FnExactDecayTicks : laws_FnExactDecayTicks.Pure := by
  intro a0 a1 a2 _ _ _
  have e1 : ∀ a b c, spec_l01In.f a b c = some (decide (b ≤ a) && decide (a ≤ c)) := fun a b c => by unfold spec_l01In.f; by_cases h : a ≥ b <;> simp [h]
  have e2 : ∀ a b c, impl_within.f a b c = spec_l01In.f a b c := fun a b c => rfl
  have e3 : ∀ a, impl_isRate.f a = spec_l01In.f a 0 1000 := fun a => by unfold impl_isRate.f; rw [e2, e1]; rfl
  have e4 : ∀ k x0 x1 x2 x8, impl_DecayTicks.l0 k x0 x1 x2 x8 = spec_DecayTicks.l0 k x0 x1 x2 x8 := by
    intro k
    induction k with
    | zero => intro x0 x1 x2 x8; rfl
    | succ k ih => intro x0 x1 x2 x8; unfold impl_DecayTicks.l0 spec_DecayTicks.l0; simp only [ih]
  have e5 : ∀ k x0 x1 x2 b, impl_DecayTicks.j0 k x0 x1 x2 b = spec_DecayTicks.j0 k x0 x1 x2 b := by
    intro k x0 x1 x2 b
    cases k with
    | zero => rfl
    | succ k => unfold impl_DecayTicks.j0 spec_DecayTicks.j0; simp only [e4]
  have e6 : ∀ k, impl_DecayTicks.f k a0 a1 a2 = spec_DecayTicks.f k a0 a1 a2 := fun k => by
    unfold impl_DecayTicks.f spec_DecayTicks.f
    simp only [e2, e3, e5]
  have ends : ∀ (n : Nat) (x0 x1 x2 x8 : Int), x0.toNat ≤ n → 0 ≤ x0 → x0 ≤ 10000000000 → 0 ≤ x1 → x1 ≤ 1000 → 0 ≤ x2 → ∃ r, spec_DecayTicks.l0 (n + 1) x0 x1 x2 x8 = some r := by
    intro n
    induction n with
    | zero => intro x0 x1 x2 x8 h0 h1 h2 h3 h4 h5; unfold spec_DecayTicks.l0; rw [if_neg (by omega)]; exact ⟨_, rfl⟩
    | succ n ih =>
      intro x0 x1 x2 x8 h0 h1 h2 h3 h4 h5
      unfold spec_DecayTicks.l0
      by_cases hx : x0 > x2
      · rw [if_pos hx]
        have hp0 : 0 ≤ x0 * x1 := Int.mul_nonneg h1 h3
        have hp1 : x0 * x1 ≤ x0 * 1000 := Int.mul_le_mul_of_nonneg_left h4 h1
        have w1 : wrap64 (x0 * x1) = x0 * x1 := by unfold wrap64; omega
        have ht : Int.tdiv (x0 * x1) 1000 = x0 * x1 / 1000 := Int.tdiv_eq_ediv_of_nonneg hp0
        have w2 : wrap64 (x0 * x1 / 1000) = x0 * x1 / 1000 := by unfold wrap64; omega
        rw [w1, ht, w2]
        by_cases hz : x0 * x1 / 1000 = 0
        · rw [if_pos hz]; exact ⟨_, rfl⟩
        · rw [if_neg hz]
          have w3 : wrap64 (x0 - x0 * x1 / 1000) = x0 - x0 * x1 / 1000 := by unfold wrap64; omega
          rw [w3]
          exact ih _ _ _ _ (by omega) (by omega) (by omega) h3 h4 h5
      · rw [if_neg hx]; exact ⟨_, rfl⟩
  have fin : ∃ k r, spec_DecayTicks.f k a0 a1 a2 = some r := by
    unfold spec_DecayTicks.f
    simp only [e1, Option.bind_some]
    by_cases hA : (decide (0 ≤ a0) && decide (a0 ≤ 10000000000)) = true
    · by_cases hB : (decide (0 ≤ a2) && decide (a2 ≤ 10000000000)) = true
      · by_cases hC : (decide (0 ≤ a1) && decide (a1 ≤ 1000)) = true
        · obtain ⟨r, hr⟩ := ends a0.toNat a0 a1 a2 0 (Nat.le_refl _) (by simp at hA; omega) (by simp at hA; omega) (by simp at hC; omega) (by simp at hC; omega) (by simp at hB; omega)
          refine ⟨a0.toNat + 1 + 1, r, ?_⟩
          rw [if_pos hA, if_pos hB, hC]
          unfold spec_DecayTicks.j0
          simpa using hr
        · refine ⟨1, -1, ?_⟩
          rw [if_pos hA, if_pos hB, Bool.eq_false_iff.2 hC]
          simp [spec_DecayTicks.j0]
      · refine ⟨1, -1, ?_⟩
        rw [if_pos hA, if_neg hB]
        simp [spec_DecayTicks.j0]
    · refine ⟨1, -1, ?_⟩
      rw [if_neg hA]
      simp [spec_DecayTicks.j0]
  obtain ⟨k, r, hr⟩ := fin
  refine ⟨k, ?_⟩
  unfold laws_FnExactDecayTicks.f
  rw [e6, hr]
  simp

end Go.Proofs.Ytgkmijnhhopacaa.Pure
