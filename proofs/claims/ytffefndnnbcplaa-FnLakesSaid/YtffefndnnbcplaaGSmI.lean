/- What functions of the program compute, said in the abstract logic; no conditions. -/
import Derived.Test.YtffefndnnbcplaaGState

namespace Go.Proofs.Ytffefndnnbcplaa
open Go
set_option linter.unusedSimpArgs false
set_option linter.unusedVariables false
set_option maxRecDepth 100000
set_option maxHeartbeats 8000000
attribute [local go_sem] st0 AC thenA andC locLoadB KsSW_same KsSW_grow oldLoadB KsOS_same KsOS_grow pv ev put upd dstOk cv cvc binI setB Value.oneCell' EndA resA resA1 List.mapM_cons List.mapM_nil Option.pure_def Option.bind_eq_bind noLocV noLoc1 noLoc noLocs plainV cellsA newVarA putCells condA lam0 inBlockA cur lenA rowA avoidsB avoidB clearB Array.toList_append Op.operands Call.operands newSlot Nat.zero_add Nat.add_zero Nat.succ_ne_self Nat.lt_add_one Nat.zero_lt_succ true_and and_true true_or or_true false_or or_false and_self true_implies forall_const Bool.false_eq_true Bool.true_eq_false false_implies implies_true imp_self ne_eq not_false_eq_true not_true_eq_false false_and and_false List.getElem?_toArray List.getElem?_cons_succ List.getElem?_cons_zero Option.bind_some Option.map_some Bool.not_true Bool.not_false List.getD_cons_zero List.getD_cons_succ Option.some.injEq exists_eq_left' AV.bool.injEq List.map_cons List.map_nil List.all_cons List.all_nil Bool.and_self Bool.and_true Bool.true_and List.append_nil List.cons_append List.nil_append List.length_cons List.length_nil List.drop_zero List.take_zero List.drop_succ_cons List.take_succ_cons List.take_nil List.drop_nil List.not_mem_nil List.mem_cons List.contains_nil List.contains_cons Bool.or_self Bool.or_true Bool.true_or Bool.false_or Bool.or_false Bool.and_false Bool.false_and KsS_same KsS_grow skipV KsS_ext KsSW_ext KsOS_ext rep1 rep2 rep3 rep4 rep5 List.flatten_cons List.flatten_nil partsA isPtr fillA List.size_toArray ltT ltF leT leF ltTn ltFn leTn leFn eqTi eqFi wrapId toNat1 intGet boolGet memD app_get app_last app_lst app_set app_setL app_setF set_ne set_eq gt_iff_lt ge_iff_le decide_eq_true_eq len2 len3 get20 get21 drop2 put2 get30 get31 get32 drop3 put3 putI pairEta bneTi bneFi beqTi beqFi bne_eq_false_iff_eq beq_eq_false_iff_ne beq_iff_eq bne_iff_ne Int.toNat_natCast Nat.mul_one List.length_map Bool.not_eq_true Bool.not_eq_false Bool.decide_eq_true decide_true decide_false Bool.not_eq_true' Bool.not_eq_false' decide_eq_false_iff_not eq_self Decidable.not_not

def SSmI : List AV → List Blk → (AV → List Blk → Prop) → Prop
  | [v, u], η, K => ∃ l m : List Int, IsI η v l ∧ IsI η u m ∧ l.length ≤ 1048576 ∧ K (.bool (decide (l = m))) η
  | _, _, _ => False
def invSm (η : List Blk) (l m : List Int) (v u : AV) (st : St) : Prop := ∃ i : Nat, (i ≤ l.length) ∧ (l.take i = m.take i) ∧ st.n = 26 ∧ st.τ 0 = v ∧ st.τ 1 = u ∧ st.τ 5 = .int .i64 i ∧ st.lam = lam0 ∧ st.η = η

/- laws.sameInts -/
def D52 : Draws := fun id => match id with | 6 => ([0, 0, 3, 7, 0, 0, 48, 112, 255], [], [], (.one 0 (.one 1 (.one 2 (.one 3 (.one 4 (.one 5 (.one 6 (.one 7 (.one 8 .nil)))))))))) | _ => ([], [], [], .nil)
theorem f52_ok {lo : Nat} {args : List AV} {η : List Blk} {K : AV → List Blk → Prop} (h : SSmI args η K) : AF Try.prog lo 52 args η K := by
  unfold SSmI at h
  split at h
  · obtain ⟨l, m, ⟨b, ver, rfl, hb⟩, ⟨d, wer, rfl, hd⟩, hl, hK⟩ := h
    refine AF_run noSp_ok D52 [] [.tmp 4] hm Try.func52 rfl (by decide) Try.ntmps52 rfl (by kernel_rfl) (Nat.le_of_ble_eq_true rfl) ?_; intro hlo
    by_cases hlen : l.length = m.length
    · repeat' (first | with_reducible refine iteI (fun _ => ?_) (fun _ => ?_) | ((first | unfold AOpsC | unfold AOpsD | skip); simp (maxSteps := 1000000) (disch := (first | omega | assumption | (simp only [List.length_append, List.length_cons, List.length_nil, List.length_set]; omega))) only [go_sem, ↓skipC, ↓exitC, ↓retC, ↓seqC, ↓blockC, ↓condC, ↓regC, ↓drawC, ↓drawStep, ↓AOpC, ↓AOpF, ↓AOpE, ↓AEff, ↓contE_at, ↓contC_at, ↓keepC_at, ↓keepW_at, ↓keepO_at, ↓map_parts, ↓reduceIte, reduceCtorEq, Nat.reduceLT, Nat.reduceEqDiff, Nat.reduceAdd, Nat.reduceMul, Nat.reduceLeDiff, Nat.reduceSub, Nat.reduceBEq, Nat.reduceBNe, Nat.reduceBneDiff, Nat.reduceBeqDiff, ag_28, ag_3, by_28, by_3, el_28, in_3, sz_28, sz_3, ze_28, ze_3, D52, hb, hd]))
      refine ⟨invSm η l m (.sl b ver 0 l.length) (.sl d wer 0 m.length), fun st => ctr l.length st 5, .inl ⟨0, Nat.zero_le _, rfl, rfl, (by first | (simp [upd]; done) | (simp [upd, *]; done) | rfl), (by first | (simp [upd]; done) | (simp [upd, *]; done) | rfl), (by first | (simp [upd]; done) | (simp [upd, *]; done) | rfl), rfl, rfl⟩, ?_⟩
      rintro ⟨n, τ, lam, η'⟩ ⟨i, g0, g1, hn, t0, t1, t5, hlam, hη⟩; simp only at hn t0 t1 t5 hlam hη; subst hn hlam hη
      by_cases hlt : i < l.length
      · by_cases hxy : l.getD i 0 = m.getD i 0
        · repeat' (first | with_reducible refine iteI (fun _ => ?_) (fun _ => ?_) | ((first | unfold AOpsC | unfold AOpsD | skip); simp (maxSteps := 1000000) (disch := (first | omega | assumption | (simp only [List.length_append, List.length_cons, List.length_nil, List.length_set]; omega))) only [go_sem, ↓skipC, ↓exitC, ↓retC, ↓seqC, ↓blockC, ↓condC, ↓regC, ↓drawC, ↓drawStep, ↓AOpC, ↓AOpF, ↓AOpE, ↓AEff, ↓contE_at, ↓contC_at, ↓keepC_at, ↓keepW_at, ↓keepO_at, ↓map_parts, ↓reduceIte, reduceCtorEq, Nat.reduceLT, Nat.reduceEqDiff, Nat.reduceAdd, Nat.reduceMul, Nat.reduceLeDiff, Nat.reduceSub, Nat.reduceBEq, Nat.reduceBNe, Nat.reduceBneDiff, Nat.reduceBeqDiff, ag_28, ag_3, by_28, by_3, el_28, in_3, sz_28, sz_3, ze_28, ze_3, D52, hb, hd, t0, t1, t5, hxy]))
          refine ⟨⟨i + 1, hlt, by rw [take1 (d := 0) hlt, take1 (d := 0) (by omega), g1, hxy], rfl, (by simp [upd, t0, t1, t5]), (by simp [upd, t0, t1, t5]), (by simp [upd, t0, t1, t5]), rfl, rfl⟩, (by simp [ctr, upd, t0, t1, t5]; omega)⟩
        · have hne : decide (l = m) = false := by
            rw [decide_eq_false_iff_not]; rintro rfl; exact hxy rfl
          rw [hne] at hK
          repeat' (first | with_reducible refine iteI (fun _ => ?_) (fun _ => ?_) | ((first | unfold AOpsC | unfold AOpsD | skip); simp (maxSteps := 1000000) (disch := (first | omega | assumption | (simp only [List.length_append, List.length_cons, List.length_nil, List.length_set]; omega))) only [go_sem, ↓skipC, ↓exitC, ↓retC, ↓seqC, ↓blockC, ↓condC, ↓regC, ↓drawC, ↓drawStep, ↓AOpC, ↓AOpF, ↓AOpE, ↓AEff, ↓contE_at, ↓contC_at, ↓keepC_at, ↓keepW_at, ↓keepO_at, ↓map_parts, ↓reduceIte, reduceCtorEq, Nat.reduceLT, Nat.reduceEqDiff, Nat.reduceAdd, Nat.reduceMul, Nat.reduceLeDiff, Nat.reduceSub, Nat.reduceBEq, Nat.reduceBNe, Nat.reduceBneDiff, Nat.reduceBeqDiff, ag_28, ag_3, by_28, by_3, el_28, in_3, sz_28, sz_3, ze_28, ze_3, D52, hb, hd, t0, t1, t5, hxy]))
          exact hK
      · repeat' (first | with_reducible refine iteI (fun _ => ?_) (fun _ => ?_) | ((first | unfold AOpsC | unfold AOpsD | skip); simp (maxSteps := 1000000) (disch := (first | omega | assumption | (simp only [List.length_append, List.length_cons, List.length_nil, List.length_set]; omega))) only [go_sem, ↓skipC, ↓exitC, ↓retC, ↓seqC, ↓blockC, ↓condC, ↓regC, ↓drawC, ↓drawStep, ↓AOpC, ↓AOpF, ↓AOpE, ↓AEff, ↓contE_at, ↓contC_at, ↓keepC_at, ↓keepW_at, ↓keepO_at, ↓map_parts, ↓reduceIte, reduceCtorEq, Nat.reduceLT, Nat.reduceEqDiff, Nat.reduceAdd, Nat.reduceMul, Nat.reduceLeDiff, Nat.reduceSub, Nat.reduceBEq, Nat.reduceBNe, Nat.reduceBneDiff, Nat.reduceBeqDiff, ag_28, ag_3, by_28, by_3, el_28, in_3, sz_28, sz_3, ze_28, ze_3, D52, hb, hd, t0, t1, t5]))
        have hlm : l = m := by
          rw [takeAll (by omega), takeAll (by omega)] at g1
          exact g1
        rw [show decide (l = m) = true from decide_eq_true hlm] at hK
        exact hK
    · have hne : decide (l = m) = false := by
        rw [decide_eq_false_iff_not]; rintro rfl; exact hlen rfl
      rw [hne] at hK
      repeat' (first | with_reducible refine iteI (fun _ => ?_) (fun _ => ?_) | ((first | unfold AOpsC | unfold AOpsD | skip); simp (maxSteps := 1000000) (disch := (first | omega | assumption | (simp only [List.length_append, List.length_cons, List.length_nil, List.length_set]; omega))) only [go_sem, ↓skipC, ↓exitC, ↓retC, ↓seqC, ↓blockC, ↓condC, ↓regC, ↓drawC, ↓drawStep, ↓AOpC, ↓AOpF, ↓AOpE, ↓AEff, ↓contE_at, ↓contC_at, ↓keepC_at, ↓keepW_at, ↓keepO_at, ↓map_parts, ↓reduceIte, reduceCtorEq, Nat.reduceLT, Nat.reduceEqDiff, Nat.reduceAdd, Nat.reduceMul, Nat.reduceLeDiff, Nat.reduceSub, Nat.reduceBEq, Nat.reduceBNe, Nat.reduceBneDiff, Nat.reduceBeqDiff, ag_28, ag_3, by_28, by_3, el_28, in_3, sz_28, sz_3, ze_28, ze_3, D52, hb, hd]))
      exact hK
  · exact h.elim

/- spec.SameMesh -/
end Go.Proofs.Ytffefndnnbcplaa
