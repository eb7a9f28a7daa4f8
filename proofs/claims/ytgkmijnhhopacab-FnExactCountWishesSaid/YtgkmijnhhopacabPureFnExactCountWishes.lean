/- The law FnExactCountWishes's plain statement: for every list of whole numbers and every wish the two counts end and answer alike, and the copies stay as they were. It has no further conditions. -/
import Derived.Test.YtgkmijnhhopacabPFnExactCountWishesx1
namespace Go.Proofs.Ytgkmijnhhopacab.Pure
open Go.RowKit Go.Proofs.Ytgkmijnhhopacab.PFnExactCountWishes Go.Proofs.YtgkmijnhhopacabW.PrintWords Go.Proofs.YtgkmijnhhopacabW.PrintLast

/-- YOURS: ∀ (l0 : List Int) (a1 : Int), l0.length ≤ maxLen → l0.length * 8 ≤ 140737488351232 → (∀ x ∈ l0, (Lit.int .i64 x).wf = true) → (Lit.int .i64 a1).wf = true → ∃ k, laws_FnExactCountWishes.f k l0 a1 = some true
What it reaches (each with k first where it has rounds; `.mono`: more rounds tell the same; `.l0`, ..: its loops, with `.mono_l`): spec_CountWishes.f, laws_toIntS.f, impl_CountWishes.f, laws_eqIntS.f, laws_FnExactCountWishes.f -/
theorem FnExactCountWishes : laws_FnExactCountWishes.Pure := by
  intro l0 a1 hl hl8 _ _
  have w : ∀ (i : Nat), i < l0.length → wrap64 ((i : Int) + 1) = ((i + 1 : Nat) : Int) := fun i hi => by unfold wrap64; omega
  by_cases hbig : (l0.length : Int) > 1048576
  · refine ⟨0, ?_⟩
    unfold laws_FnExactCountWishes.f
    rw [if_pos hbig]
  · have hlen : l0.length ≤ 1048576 := by omega
    have hrd : ∀ (l : List Int) (i : Nat), i < l.length → rd l (i : Int) = l.getD i 0 := fun l i _ => by unfold rd; simp
    -- the copy
    have copy : ∀ (m i : Nat) (x : List Int), i + m = l0.length → x.length = l0.length → (∀ j, j < i → x.getD j 0 = l0.getD j 0) → laws_toIntS.l0 (m + 1) l0 x i = some l0 := by
      intro m
      induction m with
      | zero =>
        intro i x hi hx hj
        unfold laws_toIntS.l0
        rw [if_neg (by omega)]
        congr 1
        refine List.ext_getElem hx fun j h1 h2 => ?_
        have := hj j (by omega)
        simpa [List.getD_eq_getElem?_getD, h1, h2] using this
      | succ m ih =>
        intro i x hi hx hj
        unfold laws_toIntS.l0
        rw [if_pos (by omega), if_pos (by omega), if_pos (by omega), w i (by omega), hrd l0 i (by omega)]
        refine ih (i + 1) _ (by omega) (by simp [hx]) fun j hj' => ?_
        by_cases hji : j = i
        · subst hji
          have : j < x.length := by omega
          simp [List.getD_eq_getElem?_getD, this]
        · have h3 := hj j (by omega)
          have : ((i : Int)).toNat ≠ j := by omega
          simp only [List.getD_eq_getElem?_getD] at h3 ⊢
          rw [List.getElem?_set_ne this, h3]
    have hcopy : laws_toIntS.f (l0.length + 1) l0 = some l0 := by
      unfold laws_toIntS.f
      rw [if_pos (by omega), if_pos (by omega)]
      exact copy l0.length 0 _ (by omega) (by simp) (fun j hj => by omega)
    -- the counts
    have cnt : ∀ (m i : Nat) (c : Int), i + m = l0.length → ∃ r, spec_CountWishes.l0 (m + 1) l0 a1 c i = some r ∧ impl_CountWishes.l0 (m + 1) a1 c l0 (l0.length : Int) i = some r := by
      intro m
      induction m with
      | zero =>
        intro i c hi
        unfold spec_CountWishes.l0 impl_CountWishes.l0
        rw [if_neg (by omega), if_neg (by omega)]
        exact ⟨_, rfl, rfl⟩
      | succ m ih =>
        intro i c hi
        unfold spec_CountWishes.l0 impl_CountWishes.l0
        have c1 : (i : Int) < (l0.length : Int) := by omega
        have c2 : (0 : Int) ≤ (i : Int) := by omega
        rw [if_pos c1, if_pos c2, if_pos c1, if_pos c2, if_pos c1, w i (by omega)]
        by_cases hr : rd l0 (i : Int) = a1
        · rw [if_pos hr, if_pos hr]; exact ih (i + 1) _ (by omega)
        · rw [if_neg hr, if_neg hr]; exact ih (i + 1) _ (by omega)
    have eqs : ∀ (m i : Nat), i + m = l0.length → laws_eqIntS.l0 (m + 1) l0 l0 i = some true := by
      intro m
      induction m with
      | zero => intro i hi; unfold laws_eqIntS.l0; rw [if_neg (by omega)]
      | succ m ih =>
        intro i hi
        unfold laws_eqIntS.l0
        have c1 : (i : Int) < (l0.length : Int) := by omega
        have c2 : (0 : Int) ≤ (i : Int) := by omega
        rw [if_pos c1, if_pos c2, if_pos c1, if_pos rfl, w i (by omega)]
        exact ih (i + 1) (by omega)
    obtain ⟨r, h1, h2⟩ := cnt l0.length 0 0 (by omega)
    refine ⟨l0.length + 1, ?_⟩
    unfold laws_FnExactCountWishes.f
    have h1' : spec_CountWishes.f (l0.length + 1) l0 a1 = some r := h1
    have h2' : impl_CountWishes.f (l0.length + 1) l0 a1 = some r := h2
    have h3' : laws_eqIntS.f (l0.length + 1) l0 l0 = some true := by unfold laws_eqIntS.f; rw [if_pos rfl]; exact eqs l0.length 0 (by omega)
    rw [if_neg hbig]
    simp only [hcopy, Option.bind_some, h1', h2', h3', if_true]

end Go.Proofs.Ytgkmijnhhopacab.Pure
