/- What functions of the program compute, said in the abstract logic; no conditions. -/
import Derived.Test.YtaalpmbopkbdiaaGreatGBalc

namespace Go.Proofs.YtaalpmbopkbdiaaGreat
open Go
set_option linter.unusedSimpArgs false
set_option linter.unusedVariables false
set_option maxRecDepth 100000
set_option maxHeartbeats 8000000
attribute [local go_sem] st0 AC thenA andC locLoadB KsSW_same KsSW_grow oldLoadB noBlkB KsSL_same KsOS_same KsOS_grow pv ev put upd dstOk cv cvc binI setB Value.oneCell' EndA resA resA1 List.mapM_cons List.mapM_nil Option.pure_def Option.bind_eq_bind noLocV noLoc1 noLoc noLocs plainV cellsA newVarA putCells condA lam0 inBlockA cur lenA rowA writeA dstA appendC appendZ mapPut mapGet avoidsB avoidB clearB Array.toList_append Op.operands Call.operands newSlot Nat.zero_add Nat.add_zero Nat.succ_ne_self Nat.lt_add_one Nat.zero_lt_succ true_and and_true true_or or_true false_or or_false and_self true_implies forall_const Bool.false_eq_true Bool.true_eq_false false_implies implies_true imp_self ne_eq not_false_eq_true not_true_eq_false false_and and_false List.getElem?_toArray List.getElem?_cons_succ List.getElem?_cons_zero Option.bind_some Option.map_some Bool.not_true Bool.not_false List.getD_cons_zero List.getD_cons_succ Option.some.injEq exists_eq_left' AV.bool.injEq List.map_cons List.map_nil List.all_cons List.all_nil Bool.and_self Bool.and_true Bool.true_and List.append_nil List.cons_append List.nil_append List.length_cons List.length_nil List.drop_zero List.take_zero List.drop_succ_cons List.take_succ_cons List.take_nil List.drop_nil List.not_mem_nil List.mem_cons List.contains_nil List.contains_cons Bool.or_self Bool.or_true Bool.true_or Bool.false_or Bool.or_false Bool.and_false Bool.false_and KsS_same KsS_grow skipV KsS_ext KsSW_ext KsOS_ext rep1 rep2 rep3 rep4 rep5 List.flatten_cons List.flatten_nil partsA isPtr fillA List.size_toArray ltT ltF leT leF ltTn ltFn leTn leFn eqTi eqFi wrapId toNat1 intGet boolGet memD app_get app_last app_lst app_set app_setL app_setF set_ne set_eq gt_iff_lt ge_iff_le decide_eq_true_eq len2 len3 get20 get21 drop2 put2 get30 get31 get32 drop3 put3 putI pairEta bneTi bneFi beqTi beqFi bne_eq_false_iff_eq beq_eq_false_iff_ne beq_iff_eq bne_iff_ne Int.toNat_natCast Nat.mul_one List.length_map Bool.not_eq_true Bool.not_eq_false Bool.decide_eq_true decide_true decide_false Bool.not_eq_true' Bool.not_eq_false' decide_eq_false_iff_not eq_self Decidable.not_not
attribute [local go_sem ↓] skipC exitC retC seqC blockC condC regC drawC drawStep AOpC AOpF AOpE AEff contE_at contC_at keepC_at keepW_at keepO_at keepL_at map_parts
attribute [local go_sem] reduceCtorEq Nat.reduceLT Nat.reduceEqDiff Nat.reduceAdd Nat.reduceMul Nat.reduceLeDiff Nat.reduceSub Nat.reduceBEq Nat.reduceBNe Nat.reduceBneDiff Nat.reduceBeqDiff
attribute [local go_sem ↓] reduceIte
theorem unb_pos {l : List Id3} (h : 0 ≤ unbI l) : ∃ i : Nat, unbI l = i ∧ i + 1 < l.length ∧ gapB l i = true := by
  unfold unbI firstI at h ⊢
  cases hf : (List.range (l.length - 1)).find? (gapB l) with
  | none => rw [hf] at h; simp at h
  | some i =>
    have h1 := List.mem_of_find?_eq_some hf
    rw [List.mem_range] at h1
    exact ⟨i, rfl, by omega, List.find?_some hf⟩
theorem coar_ok {l : List Id3} (hlv : levs l) {i : Nat} (hi : i + 1 < l.length) (hg : gapB l i = true) : coarI l i < l.length ∧ (l.getD (coarI l i) z3).2.1 ≠ 4 := by
  have b1 := levs_at hlv (i := i) (by omega)
  have b2 := levs_at hlv (i := i + 1) hi
  simp only [gapB, Bool.or_eq_true, decide_eq_true_eq] at hg
  unfold lvD at hg
  by_cases hc : lvD l (i + 1) < lvD l i
  · have e : coarI l i = i + 1 := if_pos hc
    rw [e]
    unfold lvD at hc
    refine ⟨hi, fun h4 => ?_⟩
    unfold z3 at h4
    omega
  · have e : coarI l i = i := if_neg hc
    rw [e]
    unfold lvD at hc
    refine ⟨by omega, fun h4 => ?_⟩
    replace h4 : (l.getD i (0, 0, 0)).2.1 = 4 := h4
    rcases hg with hg | hg <;> omega
theorem split_len {l : List Id3} {i : Nat} (h : i < l.length) : (splitL l i).length = l.length + 1 := by simp [splitL]; omega

end Go.Proofs.YtaalpmbopkbdiaaGreat
