/- What functions of the program compute, said in the abstract logic; no conditions. -/
import Derived.Test.YtffefndnnbcplaaGDrawS
import Derived.Test.YtffefndnnbcplaaGBordP

namespace Go.Proofs.Ytffefndnnbcplaa
open Go
set_option linter.unusedSimpArgs false
set_option linter.unusedVariables false
set_option maxRecDepth 100000
set_option maxHeartbeats 8000000
attribute [local go_sem] st0 AC thenA andC locLoadB KsSW_same KsSW_grow pv ev put upd dstOk cv cvc binI setB Value.oneCell' EndA resA resA1 List.mapM_cons List.mapM_nil Option.pure_def Option.bind_eq_bind noLocV noLoc1 noLoc noLocs plainV cellsA newVarA putCells condA lam0 inBlockA cur lenA rowA avoidsB avoidB clearB Array.toList_append Op.operands Call.operands newSlot Nat.zero_add Nat.add_zero Nat.succ_ne_self Nat.lt_add_one Nat.zero_lt_succ true_and and_true true_or or_true false_or or_false and_self true_implies forall_const Bool.false_eq_true Bool.true_eq_false false_implies implies_true imp_self ne_eq not_false_eq_true not_true_eq_false false_and and_false List.getElem?_toArray List.getElem?_cons_succ List.getElem?_cons_zero Option.bind_some Option.map_some Bool.not_true Bool.not_false List.getD_cons_zero List.getD_cons_succ Option.some.injEq exists_eq_left' AV.bool.injEq List.map_cons List.map_nil List.all_cons List.all_nil Bool.and_self Bool.and_true Bool.true_and List.append_nil List.cons_append List.nil_append List.length_cons List.length_nil List.drop_zero List.take_zero List.drop_succ_cons List.take_succ_cons List.take_nil List.drop_nil List.not_mem_nil List.mem_cons List.contains_nil List.contains_cons Bool.or_self Bool.or_true Bool.true_or Bool.false_or Bool.or_false Bool.and_false Bool.false_and KsS_same KsS_grow skipV KsS_ext KsSW_ext rep1 rep2 rep3 rep4 rep5 List.flatten_cons List.flatten_nil partsA isPtr fillA List.size_toArray ltT ltF leT leF ltTn ltFn leTn leFn eqTi eqFi wrapId toNat1 intGet boolGet memD app_get app_last app_lst app_set app_setL app_setF set_ne set_eq gt_iff_lt ge_iff_le decide_eq_true_eq len2 len3 get20 get21 drop2 put2 get30 get31 get32 drop3 put3 putI pairEta bneTi bneFi beqTi beqFi bne_eq_false_iff_eq beq_eq_false_iff_ne beq_iff_eq bne_iff_ne Int.toNat_natCast Nat.mul_one List.length_map Bool.not_eq_true Bool.not_eq_false Bool.decide_eq_true decide_true decide_false Bool.not_eq_true' Bool.not_eq_false' decide_eq_false_iff_not eq_self Decidable.not_not

def SBrD0 (lo : Nat) : List AV → List Blk → (AV → List Blk → Prop) → Prop
  | [.ptr c 0 0], η, K => ∃ (nb : Nat) (v : AV), lo ≤ nb ∧ nb ≤ c ∧ CurAt lo η c v ∧ ∀ H (y z w : Int), (0 ≤ y ∧ y ≤ 3000) → (0 ≤ z ∧ z ≤ 1000) → (0 ≤ w ∧ w ≤ 250) → CurAt lo H c v → FrN nb η H → K (.agg [.int .i64 y, .int .i64 z, .int .i64 w]) H
  | _, _, _ => False
def SBrD (lo : Nat) : List AV → List Blk → (AV → List Blk → Prop) → Prop
  | [v], η, K => ∃ g, Row8 5 η v g ∧ g.length ≤ maxLen ∧ ∀ H (y z w : Int), (0 ≤ y ∧ y ≤ 3000) → (0 ≤ z ∧ z ≤ 1000) → (0 ≤ w ∧ w ≤ 250) → Ext η H → K (.agg [.int .i64 y, .int .i64 z, .int .i64 w]) H
  | _, _, _ => False
theorem mul01 {x y X : Int} (hx : 0 ≤ x ∧ x < 2) (hy : 0 ≤ y ∧ y ≤ X) : 0 ≤ x * y ∧ x * y ≤ X := by
  have : x = 0 ∨ x = 1 := by omega
  rcases this with rfl | rfl <;> omega

/- spec.l13Border -/
def Sp113 (lo : Nat) : Spec := fun g args η K => match g with | 89 => SBelow lo args η K | _ => False
theorem Sp113_ok {lo : Nat} : Sound Try.prog lo (Sp113 lo) := by
  intro g args η K h
  unfold Sp113 at h
  split at h
  · exact f89_ok h
  · exact h.elim
theorem f113_ok {lo : Nat} {args : List AV} {η : List Blk} {K : AV → List Blk → Prop} (h : SBrD0 lo args η K) : AF Try.prog lo 113 args η K := by
  unfold SBrD0 at h
  split at h
  · obtain ⟨nb, v, k1, k2, k3, hK⟩ := h
    rename_i c
    have hF0 := FrN.refl nb η
    refine AF_run Sp113_ok D0 [] [.cell 2 52] hm Try.func113 rfl (by decide) Try.ntmps113 rfl (by kernel_rfl) (Nat.le_of_ble_eq_true rfl) ?_; intro hlo
    repeat' (first | with_reducible refine iteI (fun _ => ?_) (fun _ => ?_) | ((first | unfold AOpsC | unfold AOpsD | skip); simp (maxSteps := 1000000) (disch := (first | omega | assumption | (simp only [List.length_append, List.length_cons, List.length_nil, List.length_set]; omega))) only [go_sem, ↓skipC, ↓exitC, ↓retC, ↓seqC, ↓blockC, ↓condC, ↓regC, ↓drawC, ↓drawStep, ↓AOpC, ↓AOpF, ↓AOpE, ↓AEff, ↓contE_at, ↓contC_at, ↓keepC_at, ↓keepW_at, ↓map_parts, ↓reduceIte, reduceCtorEq, Nat.reduceLT, Nat.reduceEqDiff, Nat.reduceAdd, Nat.reduceMul, Nat.reduceLeDiff, Nat.reduceSub, Nat.reduceBEq, Nat.reduceBNe, Nat.reduceBneDiff, Nat.reduceBeqDiff, ag_52, by_52, nf_52, pl_52, ps_52, sz_52, ze_52, Sp113]))
    unfold SBelow
    refine ⟨v, k3, by omega, fun x1 i1 e1 a1 b1 _ hc1 => ?_⟩
    replace b1 := b1 (by omega)
    have hF1 := hF0.set k2 (curB v i1 e1)
    generalize η.set c (curB v i1 e1) = H1 at *
    repeat' (first | with_reducible refine iteI (fun _ => ?_) (fun _ => ?_) | ((first | unfold AOpsC | unfold AOpsD | skip); simp (maxSteps := 1000000) (disch := (first | omega | assumption | (simp only [List.length_append, List.length_cons, List.length_nil, List.length_set]; omega))) only [go_sem, ↓skipC, ↓exitC, ↓retC, ↓seqC, ↓blockC, ↓condC, ↓regC, ↓drawC, ↓drawStep, ↓AOpC, ↓AOpF, ↓AOpE, ↓AEff, ↓contE_at, ↓contC_at, ↓keepC_at, ↓keepW_at, ↓map_parts, ↓reduceIte, reduceCtorEq, Nat.reduceLT, Nat.reduceEqDiff, Nat.reduceAdd, Nat.reduceMul, Nat.reduceLeDiff, Nat.reduceSub, Nat.reduceBEq, Nat.reduceBNe, Nat.reduceBneDiff, Nat.reduceBeqDiff, ag_52, by_52, nf_52, pl_52, ps_52, sz_52, ze_52, Sp113]))
    unfold SBelow
    refine ⟨v, hc1, by omega, fun x2 i2 e2 a2 b2 _ hc2 => ?_⟩
    replace b2 := b2 (by omega)
    have hF2 := hF1.set k2 (curB v i2 e2)
    generalize H1.set c (curB v i2 e2) = H2 at *
    have p1 := mul01 (X := 3000) ⟨a1, b1⟩ (y := x2) ⟨a2, by omega⟩
    repeat' (first | with_reducible refine iteI (fun _ => ?_) (fun _ => ?_) | ((first | unfold AOpsC | unfold AOpsD | skip); simp (maxSteps := 1000000) (disch := (first | omega | assumption | (simp only [List.length_append, List.length_cons, List.length_nil, List.length_set]; omega))) only [go_sem, ↓skipC, ↓exitC, ↓retC, ↓seqC, ↓blockC, ↓condC, ↓regC, ↓drawC, ↓drawStep, ↓AOpC, ↓AOpF, ↓AOpE, ↓AEff, ↓contE_at, ↓contC_at, ↓keepC_at, ↓keepW_at, ↓map_parts, ↓reduceIte, reduceCtorEq, Nat.reduceLT, Nat.reduceEqDiff, Nat.reduceAdd, Nat.reduceMul, Nat.reduceLeDiff, Nat.reduceSub, Nat.reduceBEq, Nat.reduceBNe, Nat.reduceBneDiff, Nat.reduceBeqDiff, ag_52, by_52, nf_52, pl_52, ps_52, sz_52, ze_52, Sp113]))
    unfold SBelow
    refine ⟨v, hc2, by omega, fun x3 i3 e3 a3 b3 _ hc3 => ?_⟩
    replace b3 := b3 (by omega)
    have hF3 := hF2.set k2 (curB v i3 e3)
    generalize H2.set c (curB v i3 e3) = H3 at *
    repeat' (first | with_reducible refine iteI (fun _ => ?_) (fun _ => ?_) | ((first | unfold AOpsC | unfold AOpsD | skip); simp (maxSteps := 1000000) (disch := (first | omega | assumption | (simp only [List.length_append, List.length_cons, List.length_nil, List.length_set]; omega))) only [go_sem, ↓skipC, ↓exitC, ↓retC, ↓seqC, ↓blockC, ↓condC, ↓regC, ↓drawC, ↓drawStep, ↓AOpC, ↓AOpF, ↓AOpE, ↓AEff, ↓contE_at, ↓contC_at, ↓keepC_at, ↓keepW_at, ↓map_parts, ↓reduceIte, reduceCtorEq, Nat.reduceLT, Nat.reduceEqDiff, Nat.reduceAdd, Nat.reduceMul, Nat.reduceLeDiff, Nat.reduceSub, Nat.reduceBEq, Nat.reduceBNe, Nat.reduceBneDiff, Nat.reduceBeqDiff, ag_52, by_52, nf_52, pl_52, ps_52, sz_52, ze_52, Sp113]))
    unfold SBelow
    refine ⟨v, hc3, by omega, fun x4 i4 e4 a4 b4 _ hc4 => ?_⟩
    replace b4 := b4 (by omega)
    have hF4 := hF3.set k2 (curB v i4 e4)
    generalize H3.set c (curB v i4 e4) = H4 at *
    repeat' (first | with_reducible refine iteI (fun _ => ?_) (fun _ => ?_) | ((first | unfold AOpsC | unfold AOpsD | skip); simp (maxSteps := 1000000) (disch := (first | omega | assumption | (simp only [List.length_append, List.length_cons, List.length_nil, List.length_set]; omega))) only [go_sem, ↓skipC, ↓exitC, ↓retC, ↓seqC, ↓blockC, ↓condC, ↓regC, ↓drawC, ↓drawStep, ↓AOpC, ↓AOpF, ↓AOpE, ↓AEff, ↓contE_at, ↓contC_at, ↓keepC_at, ↓keepW_at, ↓map_parts, ↓reduceIte, reduceCtorEq, Nat.reduceLT, Nat.reduceEqDiff, Nat.reduceAdd, Nat.reduceMul, Nat.reduceLeDiff, Nat.reduceSub, Nat.reduceBEq, Nat.reduceBNe, Nat.reduceBneDiff, Nat.reduceBeqDiff, ag_52, by_52, nf_52, pl_52, ps_52, sz_52, ze_52, Sp113]))
    unfold SBelow
    refine ⟨v, hc4, by omega, fun x5 i5 e5 a5 b5 _ hc5 => ?_⟩
    replace b5 := b5 (by omega)
    have hF5 := hF4.set k2 (curB v i5 e5)
    generalize H4.set c (curB v i5 e5) = H5 at *
    have p2 := mul01 (X := 250) ⟨a4, b4⟩ (y := x5) ⟨a5, by omega⟩
    repeat' (first | with_reducible refine iteI (fun _ => ?_) (fun _ => ?_) | ((first | unfold AOpsC | unfold AOpsD | skip); simp (maxSteps := 1000000) (disch := (first | omega | assumption | (simp only [List.length_append, List.length_cons, List.length_nil, List.length_set]; omega))) only [go_sem, ↓skipC, ↓exitC, ↓retC, ↓seqC, ↓blockC, ↓condC, ↓regC, ↓drawC, ↓drawStep, ↓AOpC, ↓AOpF, ↓AOpE, ↓AEff, ↓contE_at, ↓contC_at, ↓keepC_at, ↓keepW_at, ↓map_parts, ↓reduceIte, reduceCtorEq, Nat.reduceLT, Nat.reduceEqDiff, Nat.reduceAdd, Nat.reduceMul, Nat.reduceLeDiff, Nat.reduceSub, Nat.reduceBEq, Nat.reduceBNe, Nat.reduceBneDiff, Nat.reduceBeqDiff, ag_52, by_52, nf_52, pl_52, ps_52, sz_52, ze_52, Sp113]))
    exact hK _ _ _ _ p1 ⟨a3, by omega⟩ p2 hc5 hF5
  · exact h.elim

/- spec.DrawBorder -/
def Sp41 (lo : Nat) : Spec := fun g args η K => match g with | 88 => SNew lo args η K | 113 => SBrD0 lo args η K | _ => False
theorem Sp41_ok {lo : Nat} : Sound Try.prog lo (Sp41 lo) := by
  intro g args η K h
  unfold Sp41 at h
  split at h
  · exact f88_ok h
  · exact f113_ok h
  · exact h.elim
theorem f41_ok {lo : Nat} {args : List AV} {η : List Blk} {K : AV → List Blk → Prop} (h : SBrD lo args η K) : AF Try.prog lo 41 args η K := by
  unfold SBrD at h
  split at h
  · obtain ⟨g, hr, hml, hK⟩ := h
    rename_i v
    have hn := (noLoc8 hr).1
    refine AF_run Sp41_ok D0 [] [.cell 2 52] hm Try.func41 rfl (by decide) Try.ntmps41 rfl (by kernel_rfl) (Nat.le_of_ble_eq_true rfl) ?_; intro hlo
    repeat' (first | with_reducible refine iteI (fun _ => ?_) (fun _ => ?_) | ((first | unfold AOpsC | unfold AOpsD | skip); simp (maxSteps := 1000000) (disch := (first | omega | assumption | (simp only [List.length_append, List.length_cons, List.length_nil, List.length_set]; omega))) only [go_sem, ↓skipC, ↓exitC, ↓retC, ↓seqC, ↓blockC, ↓condC, ↓regC, ↓drawC, ↓drawStep, ↓AOpC, ↓AOpF, ↓AOpE, ↓AEff, ↓contE_at, ↓contC_at, ↓keepC_at, ↓keepW_at, ↓map_parts, ↓reduceIte, reduceCtorEq, Nat.reduceLT, Nat.reduceEqDiff, Nat.reduceAdd, Nat.reduceMul, Nat.reduceLeDiff, Nat.reduceSub, Nat.reduceBEq, Nat.reduceBNe, Nat.reduceBneDiff, Nat.reduceBeqDiff, ag_52, by_52, nf_52, pl_52, ps_52, sz_52, ze_52, Sp41, SNew, ↓hn]))
    refine ⟨g, hr, hml, fun h0 => ?_⟩
    repeat' (first | with_reducible refine iteI (fun _ => ?_) (fun _ => ?_) | ((first | unfold AOpsC | unfold AOpsD | skip); simp (maxSteps := 1000000) (disch := (first | omega | assumption | (simp only [List.length_append, List.length_cons, List.length_nil, List.length_set]; omega))) only [go_sem, ↓skipC, ↓exitC, ↓retC, ↓seqC, ↓blockC, ↓condC, ↓regC, ↓drawC, ↓drawStep, ↓AOpC, ↓AOpF, ↓AOpE, ↓AEff, ↓contE_at, ↓contC_at, ↓keepC_at, ↓keepW_at, ↓map_parts, ↓reduceIte, reduceCtorEq, Nat.reduceLT, Nat.reduceEqDiff, Nat.reduceAdd, Nat.reduceMul, Nat.reduceLeDiff, Nat.reduceSub, Nat.reduceBEq, Nat.reduceBNe, Nat.reduceBneDiff, Nat.reduceBeqDiff, ag_52, by_52, nf_52, pl_52, ps_52, sz_52, ze_52, Sp41, SNew]))
    unfold SBrD0
    refine ⟨η.length, v, hlo, Nat.le_refl _, ⟨hlo, g, 0, h0, hr.app _, hml, by omega, by omega, by simp⟩, fun H y z w hy hz hw hc hF => ?_⟩
    repeat' (first | with_reducible refine iteI (fun _ => ?_) (fun _ => ?_) | ((first | unfold AOpsC | unfold AOpsD | skip); simp (maxSteps := 1000000) (disch := (first | omega | assumption | (simp only [List.length_append, List.length_cons, List.length_nil, List.length_set]; omega))) only [go_sem, ↓skipC, ↓exitC, ↓retC, ↓seqC, ↓blockC, ↓condC, ↓regC, ↓drawC, ↓drawStep, ↓AOpC, ↓AOpF, ↓AOpE, ↓AEff, ↓contE_at, ↓contC_at, ↓keepC_at, ↓keepW_at, ↓map_parts, ↓reduceIte, reduceCtorEq, Nat.reduceLT, Nat.reduceEqDiff, Nat.reduceAdd, Nat.reduceMul, Nat.reduceLeDiff, Nat.reduceSub, Nat.reduceBEq, Nat.reduceBNe, Nat.reduceBneDiff, Nat.reduceBeqDiff, ag_52, by_52, nf_52, pl_52, ps_52, sz_52, ze_52, Sp41, SNew]))
    exact hK H y z w hy hz hw hF.ext0
  · exact h.elim

end Go.Proofs.Ytffefndnnbcplaa
