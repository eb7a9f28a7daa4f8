/- What functions of the program compute, said in the abstract logic; no conditions. -/
import Derived.Test.YtaalpmbopkbdiaaGreatGWish
import Derived.Test.YtaalpmbopkbdiaaGreatGMerge
import Derived.Test.YtaalpmbopkbdiaaGreatGCont

namespace Go.Proofs.YtaalpmbopkbdiaaGreat
open Go
set_option linter.unusedSimpArgs false
set_option linter.unusedVariables false
set_option maxRecDepth 100000
set_option maxHeartbeats 8000000
attribute [local go_sem] st0 AC thenA andC locLoadB KsSW_same KsSW_grow oldLoadB noBlkB KsSL_same KsOS_same KsOS_grow pv ev put upd dstOk cv cvc binI setB Value.oneCell' EndA resA resA1 List.mapM_cons List.mapM_nil Option.pure_def Option.bind_eq_bind noLocV noLoc1 noLoc noLocs plainV cellsA newVarA putCells condA lam0 inBlockA cur lenA rowA writeA dstA appendC appendZ mapPut mapGet avoidsB avoidB clearB Array.toList_append Op.operands Call.operands newSlot Nat.zero_add Nat.add_zero Nat.succ_ne_self Nat.lt_add_one Nat.zero_lt_succ true_and and_true true_or or_true false_or or_false and_self true_implies forall_const Bool.false_eq_true Bool.true_eq_false false_implies implies_true imp_self ne_eq not_false_eq_true not_true_eq_false false_and and_false List.getElem?_toArray List.getElem?_cons_succ List.getElem?_cons_zero Option.bind_some Option.map_some Bool.not_true Bool.not_false List.getD_cons_zero List.getD_cons_succ Option.some.injEq exists_eq_left' AV.bool.injEq List.map_cons List.map_nil List.all_cons List.all_nil Bool.and_self Bool.and_true Bool.true_and List.append_nil List.cons_append List.nil_append List.length_cons List.length_nil List.drop_zero List.take_zero List.drop_succ_cons List.take_succ_cons List.take_nil List.drop_nil List.not_mem_nil List.mem_cons List.contains_nil List.contains_cons Bool.or_self Bool.or_true Bool.true_or Bool.false_or Bool.or_false Bool.and_false Bool.false_and KsS_same KsS_grow skipV KsS_ext KsSW_ext KsOS_ext rep1 rep2 rep3 rep4 rep5 List.flatten_cons List.flatten_nil partsA isPtr fillA List.size_toArray ltT ltF leT leF ltTn ltFn leTn leFn eqTi eqFi wrapId toNat1 intGet boolGet memD app_get app_last app_lst app_set app_setL app_setF set_ne set_eq gt_iff_lt ge_iff_le decide_eq_true_eq len2 len3 get20 get21 drop2 put2 get30 get31 get32 drop3 put3 putI pairEta bneTi bneFi beqTi beqFi bne_eq_false_iff_eq beq_eq_false_iff_ne beq_iff_eq bne_iff_ne Int.toNat_natCast Nat.mul_one List.length_map Bool.not_eq_true Bool.not_eq_false Bool.decide_eq_true decide_true decide_false Bool.not_eq_true' Bool.not_eq_false' decide_eq_false_iff_not eq_self Decidable.not_not
attribute [local go_sem ↓] skipC exitC retC seqC blockC condC regC drawC drawStep AOpC AOpF AOpE AEff contE_at contC_at keepC_at keepW_at keepO_at keepL_at map_parts
attribute [local go_sem] reduceCtorEq Nat.reduceLT Nat.reduceEqDiff Nat.reduceAdd Nat.reduceMul Nat.reduceLeDiff Nat.reduceSub Nat.reduceBEq Nat.reduceBNe Nat.reduceBneDiff Nat.reduceBeqDiff
attribute [local go_sem ↓] reduceIte
/-- The places where the leaves of a mesh start. -/
theorem meshAt_pos : ∀ (l : List Id3) (a b : Int), meshAt a l = some b → ∃ P : Nat → Int, P 0 = a ∧ P l.length = b ∧ ∀ i, i < l.length → stI (l.getD i z3).1 (l.getD i z3).2.1 (l.getD i z3).2.2 = P i ∧ enI (l.getD i z3).1 (l.getD i z3).2.1 (l.getD i z3).2.2 = P (i + 1) ∧ P i < P (i + 1)
  | [], a, b, h => ⟨fun _ => a, rfl, by simp only [meshAt, Option.some.injEq] at h; exact h, fun i hi => absurd hi (Nat.not_lt_zero i)⟩
  | x :: l, a, b, h => by
    simp only [meshAt] at h
    split at h
    · rename_i hx
      obtain ⟨P, p0, p1, p2⟩ := meshAt_pos l _ _ h
      have hb := id_bd (r := x.1) (lv := x.2.1) (ix := x.2.2) hx.1
      refine ⟨fun k => match k with | 0 => a | k + 1 => P k, rfl, p1, fun i hi => ?_⟩
      cases i with
      | zero =>
        refine ⟨hx.2, p0.symm, ?_⟩
        show a < P 0
        rw [p0, enI, hx.2]; omega
      | succ i => exact p2 i (by simpa using hi)
    · cases h
theorem mesh_pos {r : Int} {l : List Id3} (h : meshB r l = true) : ∃ P : Nat → Int, P 0 = 0 ∧ P l.length = r * 16 ∧ ∀ i, i < l.length → stI (l.getD i z3).1 (l.getD i z3).2.1 (l.getD i z3).2.2 = P i ∧ enI (l.getD i z3).1 (l.getD i z3).2.1 (l.getD i z3).2.2 = P (i + 1) ∧ P i < P (i + 1) := by
  unfold meshB at h
  split at h
  · rename_i a ha
    simp only [Bool.and_eq_true, decide_eq_true_eq] at h
    obtain ⟨P, p0, p1, p2⟩ := meshAt_pos l _ _ ha
    exact ⟨P, p0, p1.trans h.2, p2⟩
  · cases h
theorem pos_lt {P : Nat → Int} {n : Nat} (h : ∀ i, i < n → P i < P (i + 1)) : ∀ j i : Nat, j ≤ n → i < j → P i < P j
  | 0, _, _, hi => absurd hi (Nat.not_lt_zero _)
  | j + 1, i, hj, hi => by
    have h1 := h j (by omega)
    by_cases e : i = j
    · subst e; exact h1
    · have := pos_lt h j i (by omega) (by omega)
      omega
/-- The place of a leaf. -/
def ixL (l : List Id3) (x : Id3) : Int := idxR l fun y => decide (y = x)
theorem ixL_pos {l : List Id3} {x : Id3} (h : 0 ≤ ixL l x) : ∃ k : Nat, ixL l x = k ∧ k < l.length ∧ l.getD k z3 = x := by
  unfold ixL idxR at h ⊢
  split at h
  · rename_i k hk
    rw [List.findIdx?_eq_some_iff_getElem] at hk
    obtain ⟨h1, h2, _⟩ := hk
    refine ⟨k, rfl, h1, ?_⟩
    rw [List.getD_eq_getElem?_getD, List.getElem?_eq_getElem h1]
    exact of_decide_eq_true h2
  · omega
theorem ixL_neg {l : List Id3} {x : Id3} (h : ¬ 0 ≤ ixL l x) {k : Nat} (hk : k < l.length) : l.getD k z3 ≠ x := by
  intro e
  unfold ixL idxR at h
  split at h
  · omega
  · rename_i hn
    rw [List.findIdx?_eq_none_iff] at hn
    have := hn _ (getD_mem (d := z3) hk)
    rw [decide_eq_false_iff_not] at this
    exact this e
end Go.Proofs.YtaalpmbopkbdiaaGreat
