/- What functions of the program compute, said in the abstract logic; no conditions. -/
import Derived.Test.YtkkpbjijakamhaaGBase
import Derived.Test.YtkkpbjijakamhaaGIn
import Derived.Test.YtkkpbjijakamhaaGIds
import Derived.Test.YtkkpbjijakamhaaGRes
import Derived.Test.YtkkpbjijakamhaaGInts
import Derived.Test.YtkkpbjijakamhaaGIdx
import Derived.Test.YtkkpbjijakamhaaGMesh
import Derived.Test.YtkkpbjijakamhaaGBal
import Derived.Test.YtkkpbjijakamhaaGState
import Derived.Test.YtkkpbjijakamhaaGStTo
import Derived.Test.YtkkpbjijakamhaaGResS
import Derived.Test.YtkkpbjijakamhaaGDiv
import Derived.Test.YtkkpbjijakamhaaGShare
import Derived.Test.YtkkpbjijakamhaaGFlux
import Derived.Test.YtkkpbjijakamhaaGFlux2
import Derived.Test.YtkkpbjijakamhaaGSteep

namespace Go.Proofs.Ytkkpbjijakamhaa
open Go
set_option linter.unusedSimpArgs false
set_option linter.unusedVariables false
set_option maxRecDepth 100000
set_option maxHeartbeats 8000000
attribute [local go_sem] st0 AC thenA pv ev put upd dstOk cv cvc binI setB Value.oneCell' EndA resA resA1 List.mapM_cons List.mapM_nil Option.pure_def Option.bind_eq_bind noLocV noLoc1 noLoc noLocs plainV cellsA newVarA putCells condA lam0 inBlockA cur lenA rowA avoidsB avoidB clearB Array.toList_append Op.operands Call.operands newSlot Nat.zero_add Nat.add_zero Nat.succ_ne_self Nat.lt_add_one Nat.zero_lt_succ true_and and_true true_or or_true false_or or_false and_self true_implies forall_const Bool.false_eq_true Bool.true_eq_false false_implies implies_true imp_self ne_eq not_false_eq_true not_true_eq_false false_and and_false List.getElem?_toArray List.getElem?_cons_succ List.getElem?_cons_zero Option.bind_some Option.map_some Bool.not_true Bool.not_false List.getD_cons_zero List.getD_cons_succ Option.some.injEq exists_eq_left' AV.bool.injEq List.map_cons List.map_nil List.all_cons List.all_nil Bool.and_self Bool.and_true Bool.true_and List.append_nil List.cons_append List.nil_append List.length_cons List.length_nil List.drop_zero List.take_zero List.drop_succ_cons List.take_succ_cons List.take_nil List.drop_nil List.not_mem_nil List.mem_cons List.contains_nil List.contains_cons Bool.or_self Bool.or_true Bool.true_or Bool.false_or Bool.or_false Bool.and_false Bool.false_and KsS_same KsS_grow skipV KsS_ext rep1 rep2 rep3 rep4 rep5 List.flatten_cons List.flatten_nil partsA isPtr fillA List.size_toArray ltT ltF leT leF ltTn ltFn leTn leFn eqTi eqFi wrapId toNat1 intGet boolGet memD app_get app_last app_lst app_set app_setL app_setF set_ne set_eq gt_iff_lt ge_iff_le decide_eq_true_eq len2 len3 get20 get21 drop2 put2 get30 get31 get32 drop3 put3 putI pairEta bneTi bneFi beqTi beqFi bne_eq_false_iff_eq beq_eq_false_iff_ne beq_iff_eq bne_iff_ne Int.toNat_natCast Nat.mul_one List.length_map Bool.not_eq_true Bool.not_eq_false Bool.decide_eq_true decide_true decide_false Bool.not_eq_true' Bool.not_eq_false' decide_eq_false_iff_not eq_self Decidable.not_not

def SSzStG : List AV → List Blk → (AV → List Blk → Prop) → Prop
  | [.agg [.int .i64 r, v, a, b, c], .int .i64 n], η, K => 0 ≤ n ∧ n ≤ 1048576 ∧ ∃ (l : List Id3) (ms ts bs : List Int), ROWS4 η v a b c l ms ts bs ∧ len4 maxLen l ms ts bs ∧ K (.int .i64 (if (l.length : Int) + ms.length + ts.length + bs.length ≤ n then n - ((l.length : Int) + ms.length + ts.length + bs.length) else -1)) η
  | _, _, _ => False

/- laws.szState -/
def Sp53G (lo : Nat) : Spec := fun g args η K => match g with | 125 => SSzMesh args η K | 126 => SSzI args η K | _ => False
theorem Sp53G_ok {lo : Nat} : Sound Try.prog lo (Sp53G lo) := by
  intro g args η K h
  unfold Sp53G at h
  split at h
  · exact f125_ok h
  · exact f126_ok h
  · exact h.elim
theorem f53G_ok {lo : Nat} {args : List AV} {η : List Blk} {K : AV → List Blk → Prop} (h : SSzStG args η K) : AF Try.prog lo 53 args η K := by
  unfold SSzStG at h
  split at h
  · obtain ⟨c0, c1, l, ms, ts, bs, hr, ⟨n1, n2, n3, n4⟩, hK⟩ := h
    rename_i n
    obtain ⟨q1, q2, q3, q4⟩ := hr.noLoc
    obtain ⟨p1, p2, p3, p4⟩ := hr.noLoc1
    obtain ⟨hr1, hr2, hr3, hr4⟩ := hr
    have hml : maxLen = 9223372036854775807 := rfl
    refine AF_run Sp53G_ok D0 [] [.tmp 4] hm Try.func53 rfl (by decide) Try.ntmps53 rfl (by kernel_rfl) (Nat.le_of_ble_eq_true rfl) ?_; intro hlo
    repeat' (first | with_reducible refine iteI (fun _ => ?_) (fun _ => ?_) | ((first | unfold AOpsC | unfold AOpsD | skip); simp (maxSteps := 1000000) (disch := (first | omega | assumption | (simp only [List.length_append, List.length_cons, List.length_nil, List.length_set]; omega))) only [go_sem, ↓skipC, ↓exitC, ↓retC, ↓seqC, ↓blockC, ↓condC, ↓regC, ↓drawC, ↓drawStep, ↓AOpC, ↓AOpF, ↓AOpE, ↓AEff, ↓contE_at, ↓contC_at, ↓keepC_at, ↓map_parts, ↓reduceIte, reduceCtorEq, Nat.reduceLT, Nat.reduceEqDiff, Nat.reduceAdd, Nat.reduceMul, Nat.reduceLeDiff, Nat.reduceSub, Nat.reduceBEq, Nat.reduceBNe, Nat.reduceBneDiff, Nat.reduceBeqDiff, ag_28, ag_3, ag_61, ag_63, by_28, by_3, by_61, by_63, el_28, fi_63_0, fi_63_1, fi_63_2, fi_63_3, in_3, nf_61, nf_63, pl_61, pl_63, ps_61, ps_63, sz_28, sz_3, sz_61, sz_63, ze_28, ze_3, ze_61, ze_63, Sp53G, ↓q1, ↓q2, ↓q3, ↓q4, ↓p1, ↓p2, ↓p3, ↓p4]))
    unfold SSzMesh
    refine ⟨l, hr1, n1, by omega, by omega, ?_⟩
    by_cases e1 : (l.length : Int) ≤ n
    case neg =>
      rw [szI_neg e1]
      rw [if_neg (by omega)] at hK
      repeat' (first | with_reducible refine iteI (fun _ => ?_) (fun _ => ?_) | ((first | unfold AOpsC | unfold AOpsD | skip); simp (maxSteps := 1000000) (disch := (first | omega | assumption | (simp only [List.length_append, List.length_cons, List.length_nil, List.length_set]; omega))) only [go_sem, ↓skipC, ↓exitC, ↓retC, ↓seqC, ↓blockC, ↓condC, ↓regC, ↓drawC, ↓drawStep, ↓AOpC, ↓AOpF, ↓AOpE, ↓AEff, ↓contE_at, ↓contC_at, ↓keepC_at, ↓map_parts, ↓reduceIte, reduceCtorEq, Nat.reduceLT, Nat.reduceEqDiff, Nat.reduceAdd, Nat.reduceMul, Nat.reduceLeDiff, Nat.reduceSub, Nat.reduceBEq, Nat.reduceBNe, Nat.reduceBneDiff, Nat.reduceBeqDiff, ag_28, ag_3, ag_61, ag_63, by_28, by_3, by_61, by_63, el_28, fi_63_0, fi_63_1, fi_63_2, fi_63_3, in_3, nf_61, nf_63, pl_61, pl_63, ps_61, ps_63, sz_28, sz_3, sz_61, sz_63, ze_28, ze_3, ze_61, ze_63, Sp53G]))
      exact hK
    rw [szI_pos e1]
    repeat' (first | with_reducible refine iteI (fun _ => ?_) (fun _ => ?_) | ((first | unfold AOpsC | unfold AOpsD | skip); simp (maxSteps := 1000000) (disch := (first | omega | assumption | (simp only [List.length_append, List.length_cons, List.length_nil, List.length_set]; omega))) only [go_sem, ↓skipC, ↓exitC, ↓retC, ↓seqC, ↓blockC, ↓condC, ↓regC, ↓drawC, ↓drawStep, ↓AOpC, ↓AOpF, ↓AOpE, ↓AEff, ↓contE_at, ↓contC_at, ↓keepC_at, ↓map_parts, ↓reduceIte, reduceCtorEq, Nat.reduceLT, Nat.reduceEqDiff, Nat.reduceAdd, Nat.reduceMul, Nat.reduceLeDiff, Nat.reduceSub, Nat.reduceBEq, Nat.reduceBNe, Nat.reduceBneDiff, Nat.reduceBeqDiff, ag_28, ag_3, ag_61, ag_63, by_28, by_3, by_61, by_63, el_28, fi_63_0, fi_63_1, fi_63_2, fi_63_3, in_3, nf_61, nf_63, pl_61, pl_63, ps_61, ps_63, sz_28, sz_3, sz_61, sz_63, ze_28, ze_3, ze_61, ze_63, Sp53G, ↓q1, ↓q2, ↓q3, ↓q4, ↓p1, ↓p2, ↓p3, ↓p4]))
    unfold SSzI
    refine ⟨ms, hr2, n2, by omega, by omega, ?_⟩
    by_cases e2 : (ms.length : Int) ≤ n - l.length
    case neg =>
      rw [szI_neg e2]
      rw [if_neg (by omega)] at hK
      repeat' (first | with_reducible refine iteI (fun _ => ?_) (fun _ => ?_) | ((first | unfold AOpsC | unfold AOpsD | skip); simp (maxSteps := 1000000) (disch := (first | omega | assumption | (simp only [List.length_append, List.length_cons, List.length_nil, List.length_set]; omega))) only [go_sem, ↓skipC, ↓exitC, ↓retC, ↓seqC, ↓blockC, ↓condC, ↓regC, ↓drawC, ↓drawStep, ↓AOpC, ↓AOpF, ↓AOpE, ↓AEff, ↓contE_at, ↓contC_at, ↓keepC_at, ↓map_parts, ↓reduceIte, reduceCtorEq, Nat.reduceLT, Nat.reduceEqDiff, Nat.reduceAdd, Nat.reduceMul, Nat.reduceLeDiff, Nat.reduceSub, Nat.reduceBEq, Nat.reduceBNe, Nat.reduceBneDiff, Nat.reduceBeqDiff, ag_28, ag_3, ag_61, ag_63, by_28, by_3, by_61, by_63, el_28, fi_63_0, fi_63_1, fi_63_2, fi_63_3, in_3, nf_61, nf_63, pl_61, pl_63, ps_61, ps_63, sz_28, sz_3, sz_61, sz_63, ze_28, ze_3, ze_61, ze_63, Sp53G]))
      exact hK
    rw [szI_pos e2]
    repeat' (first | with_reducible refine iteI (fun _ => ?_) (fun _ => ?_) | ((first | unfold AOpsC | unfold AOpsD | skip); simp (maxSteps := 1000000) (disch := (first | omega | assumption | (simp only [List.length_append, List.length_cons, List.length_nil, List.length_set]; omega))) only [go_sem, ↓skipC, ↓exitC, ↓retC, ↓seqC, ↓blockC, ↓condC, ↓regC, ↓drawC, ↓drawStep, ↓AOpC, ↓AOpF, ↓AOpE, ↓AEff, ↓contE_at, ↓contC_at, ↓keepC_at, ↓map_parts, ↓reduceIte, reduceCtorEq, Nat.reduceLT, Nat.reduceEqDiff, Nat.reduceAdd, Nat.reduceMul, Nat.reduceLeDiff, Nat.reduceSub, Nat.reduceBEq, Nat.reduceBNe, Nat.reduceBneDiff, Nat.reduceBeqDiff, ag_28, ag_3, ag_61, ag_63, by_28, by_3, by_61, by_63, el_28, fi_63_0, fi_63_1, fi_63_2, fi_63_3, in_3, nf_61, nf_63, pl_61, pl_63, ps_61, ps_63, sz_28, sz_3, sz_61, sz_63, ze_28, ze_3, ze_61, ze_63, Sp53G, ↓q1, ↓q2, ↓q3, ↓q4, ↓p1, ↓p2, ↓p3, ↓p4]))
    unfold SSzI
    refine ⟨ts, hr3, n3, by omega, by omega, ?_⟩
    by_cases e3 : (ts.length : Int) ≤ n - l.length - ms.length
    case neg =>
      rw [szI_neg e3]
      rw [if_neg (by omega)] at hK
      repeat' (first | with_reducible refine iteI (fun _ => ?_) (fun _ => ?_) | ((first | unfold AOpsC | unfold AOpsD | skip); simp (maxSteps := 1000000) (disch := (first | omega | assumption | (simp only [List.length_append, List.length_cons, List.length_nil, List.length_set]; omega))) only [go_sem, ↓skipC, ↓exitC, ↓retC, ↓seqC, ↓blockC, ↓condC, ↓regC, ↓drawC, ↓drawStep, ↓AOpC, ↓AOpF, ↓AOpE, ↓AEff, ↓contE_at, ↓contC_at, ↓keepC_at, ↓map_parts, ↓reduceIte, reduceCtorEq, Nat.reduceLT, Nat.reduceEqDiff, Nat.reduceAdd, Nat.reduceMul, Nat.reduceLeDiff, Nat.reduceSub, Nat.reduceBEq, Nat.reduceBNe, Nat.reduceBneDiff, Nat.reduceBeqDiff, ag_28, ag_3, ag_61, ag_63, by_28, by_3, by_61, by_63, el_28, fi_63_0, fi_63_1, fi_63_2, fi_63_3, in_3, nf_61, nf_63, pl_61, pl_63, ps_61, ps_63, sz_28, sz_3, sz_61, sz_63, ze_28, ze_3, ze_61, ze_63, Sp53G]))
      exact hK
    rw [szI_pos e3]
    repeat' (first | with_reducible refine iteI (fun _ => ?_) (fun _ => ?_) | ((first | unfold AOpsC | unfold AOpsD | skip); simp (maxSteps := 1000000) (disch := (first | omega | assumption | (simp only [List.length_append, List.length_cons, List.length_nil, List.length_set]; omega))) only [go_sem, ↓skipC, ↓exitC, ↓retC, ↓seqC, ↓blockC, ↓condC, ↓regC, ↓drawC, ↓drawStep, ↓AOpC, ↓AOpF, ↓AOpE, ↓AEff, ↓contE_at, ↓contC_at, ↓keepC_at, ↓map_parts, ↓reduceIte, reduceCtorEq, Nat.reduceLT, Nat.reduceEqDiff, Nat.reduceAdd, Nat.reduceMul, Nat.reduceLeDiff, Nat.reduceSub, Nat.reduceBEq, Nat.reduceBNe, Nat.reduceBneDiff, Nat.reduceBeqDiff, ag_28, ag_3, ag_61, ag_63, by_28, by_3, by_61, by_63, el_28, fi_63_0, fi_63_1, fi_63_2, fi_63_3, in_3, nf_61, nf_63, pl_61, pl_63, ps_61, ps_63, sz_28, sz_3, sz_61, sz_63, ze_28, ze_3, ze_61, ze_63, Sp53G, ↓q1, ↓q2, ↓q3, ↓q4, ↓p1, ↓p2, ↓p3, ↓p4]))
    unfold SSzI
    refine ⟨bs, hr4, n4, by omega, by omega, ?_⟩
    by_cases e4 : (bs.length : Int) ≤ n - l.length - ms.length - ts.length
    case neg =>
      rw [szI_neg e4]
      rw [if_neg (by omega)] at hK
      repeat' (first | with_reducible refine iteI (fun _ => ?_) (fun _ => ?_) | ((first | unfold AOpsC | unfold AOpsD | skip); simp (maxSteps := 1000000) (disch := (first | omega | assumption | (simp only [List.length_append, List.length_cons, List.length_nil, List.length_set]; omega))) only [go_sem, ↓skipC, ↓exitC, ↓retC, ↓seqC, ↓blockC, ↓condC, ↓regC, ↓drawC, ↓drawStep, ↓AOpC, ↓AOpF, ↓AOpE, ↓AEff, ↓contE_at, ↓contC_at, ↓keepC_at, ↓map_parts, ↓reduceIte, reduceCtorEq, Nat.reduceLT, Nat.reduceEqDiff, Nat.reduceAdd, Nat.reduceMul, Nat.reduceLeDiff, Nat.reduceSub, Nat.reduceBEq, Nat.reduceBNe, Nat.reduceBneDiff, Nat.reduceBeqDiff, ag_28, ag_3, ag_61, ag_63, by_28, by_3, by_61, by_63, el_28, fi_63_0, fi_63_1, fi_63_2, fi_63_3, in_3, nf_61, nf_63, pl_61, pl_63, ps_61, ps_63, sz_28, sz_3, sz_61, sz_63, ze_28, ze_3, ze_61, ze_63, Sp53G]))
      exact hK
    rw [szI_pos e4]
    rw [if_pos (by omega)] at hK
    repeat' (first | with_reducible refine iteI (fun _ => ?_) (fun _ => ?_) | ((first | unfold AOpsC | unfold AOpsD | skip); simp (maxSteps := 1000000) (disch := (first | omega | assumption | (simp only [List.length_append, List.length_cons, List.length_nil, List.length_set]; omega))) only [go_sem, ↓skipC, ↓exitC, ↓retC, ↓seqC, ↓blockC, ↓condC, ↓regC, ↓drawC, ↓drawStep, ↓AOpC, ↓AOpF, ↓AOpE, ↓AEff, ↓contE_at, ↓contC_at, ↓keepC_at, ↓map_parts, ↓reduceIte, reduceCtorEq, Nat.reduceLT, Nat.reduceEqDiff, Nat.reduceAdd, Nat.reduceMul, Nat.reduceLeDiff, Nat.reduceSub, Nat.reduceBEq, Nat.reduceBNe, Nat.reduceBneDiff, Nat.reduceBeqDiff, ag_28, ag_3, ag_61, ag_63, by_28, by_3, by_61, by_63, el_28, fi_63_0, fi_63_1, fi_63_2, fi_63_3, in_3, nf_61, nf_63, pl_61, pl_63, ps_61, ps_63, sz_28, sz_3, sz_61, sz_63, ze_28, ze_3, ze_61, ze_63, Sp53G, ↓q1, ↓q2, ↓q3, ↓q4, ↓p1, ↓p2, ↓p3, ↓p4]))
    exact KI hK (by omega)
  · exact h.elim

def SToLed : List AV → List Blk → (AV → List Blk → Prop) → Prop
  | [.agg [.int .i64 a, .int .i64 b, .int .i64 c, .int .i64 d]], η, K => K (.agg [.int .i64 a, .int .i64 b, .int .i64 c, .int .i64 d]) η
  | _, _, _ => False

/- laws.toLedger -/
theorem f56_ok {lo : Nat} {args : List AV} {η : List Blk} {K : AV → List Blk → Prop} (h : SToLed args η K) : AF Try.prog lo 56 args η K := by
  unfold SToLed at h
  split at h
  · refine AF_run noSp_ok D0 [] [.cell 2 48] hm Try.func56 rfl (by decide) Try.ntmps56 rfl (by kernel_rfl) (Nat.le_of_ble_eq_true rfl) ?_; intro hlo
    repeat' (first | with_reducible refine iteI (fun _ => ?_) (fun _ => ?_) | ((first | unfold AOpsC | unfold AOpsD | skip); simp (maxSteps := 1000000) (disch := (first | omega | assumption | (simp only [List.length_append, List.length_cons, List.length_nil, List.length_set]; omega))) only [go_sem, ↓skipC, ↓exitC, ↓retC, ↓seqC, ↓blockC, ↓condC, ↓regC, ↓drawC, ↓drawStep, ↓AOpC, ↓AOpF, ↓AOpE, ↓AEff, ↓contE_at, ↓contC_at, ↓keepC_at, ↓map_parts, ↓reduceIte, reduceCtorEq, Nat.reduceLT, Nat.reduceEqDiff, Nat.reduceAdd, Nat.reduceMul, Nat.reduceLeDiff, Nat.reduceSub, Nat.reduceBEq, Nat.reduceBNe, Nat.reduceBneDiff, Nat.reduceBeqDiff, ag_3, ag_48, ag_64, by_3, by_48, by_64, fi_48_0, fi_48_1, fi_48_2, fi_48_3, fi_64_0, fi_64_1, fi_64_2, fi_64_3, in_3, nf_48, nf_64, pl_48, pl_64, ps_48, ps_64, sz_3, sz_48, sz_64, ze_3, ze_48, ze_64]))
    exact h
  · exact h.elim

def SLaw : List AV → List Blk → (AV → List Blk → Prop) → Prop
  | [.agg [.int .i64 r0, v0, va0, vb0, vc0], .agg [.int .i64 r1, v1, va1, vb1, vc1], .agg [.int .i64 y2, .int .i64 z2, .int .i64 w2, .int .i64 u2]], η, K => ∃ (l0 : List (Int × Int × Int)) (ms0 : List Int) (ts0 : List Int) (bs0 : List Int) (l1 : List (Int × Int × Int)) (ms1 : List Int) (ts1 : List Int) (bs1 : List Int), (ROWS4 η v0 va0 vb0 vc0 l0 ms0 ts0 bs0 ∧ ROWS4 η v1 va1 vb1 vc1 l1 ms1 ts1 bs1) ∧ (len4 maxLen l0 ms0 ts0 bs0 ∧ len4 maxLen l1 ms1 ts1 bs1) ∧ ∀ H, K (.bool true) H
  | _, _, _ => False

/- laws.FnExactLedgerHolds -/
def Sp10 (lo : Nat) : Spec := fun g args η K => match g with | 48 => SLh args η K | 53 => SSzStG args η K | 54 => SLh args η K | 55 => SToStN args η K | 56 => SToLed args η K | 57 => SEqState args η K | _ => False
theorem Sp10_ok {lo : Nat} : Sound Try.prog lo (Sp10 lo) := by
  intro g args η K h
  unfold Sp10 at h
  split at h
  · exact f48_ok h
  · exact f53G_ok h
  · exact f54_ok h
  · exact f55N_ok h
  · exact f56_ok h
  · exact f57_ok h
  · exact h.elim
def D10 : Draws := fun id => match id with | 8 => ([0, 1, 0, 7, 0, 31, 63, 127], [1, 3], [], [0, 2, 4, 1, 3, 5, 6, 7]) | 11 => ([0, 0, 0, 4, 15, 31], [3], [], [0, 1, 2, 3, 4, 5]) | 14 => ([0, 0, 2, 7, 15], [2], [], [0, 1, 2, 3, 4]) | 16 => ([0, 0, 2, 7, 15], [2], [], [0, 1, 2, 3, 4]) | _ => ([], [], [], [])
theorem f10_ok {lo : Nat} {args : List AV} {η : List Blk} {K : AV → List Blk → Prop} (h : SLaw args η K) : AF Try.prog lo 10 args η K := by
  unfold SLaw at h
  split at h
  · obtain ⟨l0, ms0, ts0, bs0, l1, ms1, ts1, bs1, ⟨hr0, hr1⟩, ⟨hn0, hn1⟩, hK⟩ := h
    rename_i r0 v0 va0 vb0 vc0 r1 v1 va1 vb1 vc1 y2 z2 w2 u2
    have hml : maxLen = 9223372036854775807 := rfl
    obtain ⟨qa0, qb0, qc0, qd0⟩ := hr0.noLoc
    obtain ⟨pa0, pb0, pc0, pd0⟩ := hr0.noLoc1
    obtain ⟨hna0, hnb0, hnc0, hnd0⟩ := hn0
    obtain ⟨qa1, qb1, qc1, qd1⟩ := hr1.noLoc
    obtain ⟨pa1, pb1, pc1, pd1⟩ := hr1.noLoc1
    obtain ⟨hna1, hnb1, hnc1, hnd1⟩ := hn1
    refine AF_run Sp10_ok D10 [] [.tmp 6] hm Try.func10 rfl (by decide) Try.ntmps10 rfl (by kernel_rfl) (Nat.le_of_ble_eq_true rfl) ?_; intro hlo
    repeat' (first | with_reducible refine iteI (fun _ => ?_) (fun _ => ?_) | ((first | unfold AOpsC | unfold AOpsD | skip); simp (maxSteps := 1000000) (disch := (first | omega | assumption | (simp only [List.length_append, List.length_cons, List.length_nil, List.length_set]; omega))) only [go_sem, ↓skipC, ↓exitC, ↓retC, ↓seqC, ↓blockC, ↓condC, ↓regC, ↓drawC, ↓drawStep, ↓AOpC, ↓AOpF, ↓AOpE, ↓AEff, ↓contE_at, ↓contC_at, ↓keepC_at, ↓map_parts, ↓reduceIte, reduceCtorEq, Nat.reduceLT, Nat.reduceEqDiff, Nat.reduceAdd, Nat.reduceMul, Nat.reduceLeDiff, Nat.reduceSub, Nat.reduceBEq, Nat.reduceBNe, Nat.reduceBneDiff, Nat.reduceBeqDiff, ag_39, ag_63, ag_64, bo_4, by_39, by_63, by_64, nf_39, nf_63, nf_64, pl_39, pl_63, pl_64, ps_39, ps_63, ps_64, sz_39, sz_63, sz_64, ze_39, ze_63, ze_64, Sp10, SToLed, D10, ↓qa0, ↓qb0, ↓qc0, ↓qd0, ↓pa0, ↓pb0, ↓pc0, ↓pd0, ↓qa1, ↓qb1, ↓qc1, ↓qd1, ↓pa1, ↓pb1, ↓pc1, ↓pd1]))
    unfold SSzStG
    refine ⟨by omega, by omega, l0, ms0, ts0, bs0, hr0, ⟨hna0, hnb0, hnc0, hnd0⟩, ?_⟩
    by_cases hsz0 : ((l0.length : Int) + (ms0.length : Int) + (ts0.length : Int) + (bs0.length : Int)) ≤ 1048576
    case neg =>
      rw [if_neg hsz0]
      repeat' (first | with_reducible refine iteI (fun _ => ?_) (fun _ => ?_) | ((first | unfold AOpsC | unfold AOpsD | skip); simp (maxSteps := 1000000) (disch := (first | omega | assumption | (simp only [List.length_append, List.length_cons, List.length_nil, List.length_set]; omega))) only [go_sem, ↓skipC, ↓exitC, ↓retC, ↓seqC, ↓blockC, ↓condC, ↓regC, ↓drawC, ↓drawStep, ↓AOpC, ↓AOpF, ↓AOpE, ↓AEff, ↓contE_at, ↓contC_at, ↓keepC_at, ↓map_parts, ↓reduceIte, reduceCtorEq, Nat.reduceLT, Nat.reduceEqDiff, Nat.reduceAdd, Nat.reduceMul, Nat.reduceLeDiff, Nat.reduceSub, Nat.reduceBEq, Nat.reduceBNe, Nat.reduceBneDiff, Nat.reduceBeqDiff, ag_39, ag_63, ag_64, bo_4, by_39, by_63, by_64, nf_39, nf_63, nf_64, pl_39, pl_63, pl_64, ps_39, ps_63, ps_64, sz_39, sz_63, sz_64, ze_39, ze_63, ze_64, Sp10, SToLed, D10]))
      exact hK _
    rw [if_pos hsz0]
    have ma0 : l0.length ≤ 1048576 := by omega
    have mb0 : ms0.length ≤ 1048576 := by omega
    have mc0 : ts0.length ≤ 1048576 := by omega
    have md0 : bs0.length ≤ 1048576 := by omega
    have m0 : len4 1048576 l0 ms0 ts0 bs0 := ⟨ma0, mb0, mc0, md0⟩
    repeat' (first | with_reducible refine iteI (fun _ => ?_) (fun _ => ?_) | ((first | unfold AOpsC | unfold AOpsD | skip); simp (maxSteps := 1000000) (disch := (first | omega | assumption | (simp only [List.length_append, List.length_cons, List.length_nil, List.length_set]; omega))) only [go_sem, ↓skipC, ↓exitC, ↓retC, ↓seqC, ↓blockC, ↓condC, ↓regC, ↓drawC, ↓drawStep, ↓AOpC, ↓AOpF, ↓AOpE, ↓AEff, ↓contE_at, ↓contC_at, ↓keepC_at, ↓map_parts, ↓reduceIte, reduceCtorEq, Nat.reduceLT, Nat.reduceEqDiff, Nat.reduceAdd, Nat.reduceMul, Nat.reduceLeDiff, Nat.reduceSub, Nat.reduceBEq, Nat.reduceBNe, Nat.reduceBneDiff, Nat.reduceBeqDiff, ag_39, ag_63, ag_64, bo_4, by_39, by_63, by_64, nf_39, nf_63, nf_64, pl_39, pl_63, pl_64, ps_39, ps_63, ps_64, sz_39, sz_63, sz_64, ze_39, ze_63, ze_64, Sp10, SToLed, D10, ↓qa0, ↓qb0, ↓qc0, ↓qd0, ↓pa0, ↓pb0, ↓pc0, ↓pd0, ↓qa1, ↓qb1, ↓qc1, ↓qd1, ↓pa1, ↓pb1, ↓pc1, ↓pd1]))
    unfold SSzStG
    refine ⟨by omega, by omega, l1, ms1, ts1, bs1, hr1, ⟨hna1, hnb1, hnc1, hnd1⟩, ?_⟩
    by_cases hsz1 : ((l1.length : Int) + (ms1.length : Int) + (ts1.length : Int) + (bs1.length : Int)) ≤ 1048576 - ((l0.length : Int) + (ms0.length : Int) + (ts0.length : Int) + (bs0.length : Int))
    case neg =>
      rw [if_neg hsz1]
      repeat' (first | with_reducible refine iteI (fun _ => ?_) (fun _ => ?_) | ((first | unfold AOpsC | unfold AOpsD | skip); simp (maxSteps := 1000000) (disch := (first | omega | assumption | (simp only [List.length_append, List.length_cons, List.length_nil, List.length_set]; omega))) only [go_sem, ↓skipC, ↓exitC, ↓retC, ↓seqC, ↓blockC, ↓condC, ↓regC, ↓drawC, ↓drawStep, ↓AOpC, ↓AOpF, ↓AOpE, ↓AEff, ↓contE_at, ↓contC_at, ↓keepC_at, ↓map_parts, ↓reduceIte, reduceCtorEq, Nat.reduceLT, Nat.reduceEqDiff, Nat.reduceAdd, Nat.reduceMul, Nat.reduceLeDiff, Nat.reduceSub, Nat.reduceBEq, Nat.reduceBNe, Nat.reduceBneDiff, Nat.reduceBeqDiff, ag_39, ag_63, ag_64, bo_4, by_39, by_63, by_64, nf_39, nf_63, nf_64, pl_39, pl_63, pl_64, ps_39, ps_63, ps_64, sz_39, sz_63, sz_64, ze_39, ze_63, ze_64, Sp10, SToLed, D10]))
      exact hK _
    rw [if_pos hsz1]
    have ma1 : l1.length ≤ 1048576 := by omega
    have mb1 : ms1.length ≤ 1048576 := by omega
    have mc1 : ts1.length ≤ 1048576 := by omega
    have md1 : bs1.length ≤ 1048576 := by omega
    have m1 : len4 1048576 l1 ms1 ts1 bs1 := ⟨ma1, mb1, mc1, md1⟩
    repeat' (first | with_reducible refine iteI (fun _ => ?_) (fun _ => ?_) | ((first | unfold AOpsC | unfold AOpsD | skip); simp (maxSteps := 1000000) (disch := (first | omega | assumption | (simp only [List.length_append, List.length_cons, List.length_nil, List.length_set]; omega))) only [go_sem, ↓skipC, ↓exitC, ↓retC, ↓seqC, ↓blockC, ↓condC, ↓regC, ↓drawC, ↓drawStep, ↓AOpC, ↓AOpF, ↓AOpE, ↓AEff, ↓contE_at, ↓contC_at, ↓keepC_at, ↓map_parts, ↓reduceIte, reduceCtorEq, Nat.reduceLT, Nat.reduceEqDiff, Nat.reduceAdd, Nat.reduceMul, Nat.reduceLeDiff, Nat.reduceSub, Nat.reduceBEq, Nat.reduceBNe, Nat.reduceBneDiff, Nat.reduceBeqDiff, ag_39, ag_63, ag_64, bo_4, by_39, by_63, by_64, nf_39, nf_63, nf_64, pl_39, pl_63, pl_64, ps_39, ps_63, ps_64, sz_39, sz_63, sz_64, ze_39, ze_63, ze_64, Sp10, SToLed, D10, ↓qa0, ↓qb0, ↓qc0, ↓qd0, ↓pa0, ↓pb0, ↓pc0, ↓pd0, ↓qa1, ↓qb1, ↓qc1, ↓qd1, ↓pa1, ↓pb1, ↓pc1, ↓pd1]))
    have kp0 : Keep η.length η η := Keep.refl η
    unfold SToStN
    refine ⟨l0, ms0, ts0, bs0, hr0.keep kp0, m0, fun H1 bA0_0 bA0_1 bA0_2 bA0_3 gA0 xA0 => ?_⟩
    have kp1 := kp0.ext xA0
    have klkp1 := kp1.1
    have lekp1 := xA0.len
    have glA0 := fun c => gA0.lt (c := c)
    have gnA0 := fun c => gA0.low (c := c)
    repeat' (first | with_reducible refine iteI (fun _ => ?_) (fun _ => ?_) | ((first | unfold AOpsC | unfold AOpsD | skip); simp (maxSteps := 1000000) (disch := (first | omega | assumption | (simp only [List.length_append, List.length_cons, List.length_nil, List.length_set]; omega))) only [go_sem, ↓skipC, ↓exitC, ↓retC, ↓seqC, ↓blockC, ↓condC, ↓regC, ↓drawC, ↓drawStep, ↓AOpC, ↓AOpF, ↓AOpE, ↓AEff, ↓contE_at, ↓contC_at, ↓keepC_at, ↓map_parts, ↓reduceIte, reduceCtorEq, Nat.reduceLT, Nat.reduceEqDiff, Nat.reduceAdd, Nat.reduceMul, Nat.reduceLeDiff, Nat.reduceSub, Nat.reduceBEq, Nat.reduceBNe, Nat.reduceBneDiff, Nat.reduceBeqDiff, ag_39, ag_63, ag_64, bo_4, by_39, by_63, by_64, nf_39, nf_63, nf_64, pl_39, pl_63, pl_64, ps_39, ps_63, ps_64, sz_39, sz_63, sz_64, ze_39, ze_63, ze_64, Sp10, SToLed, D10, ↓qa0, ↓qb0, ↓qc0, ↓qd0, ↓pa0, ↓pb0, ↓pc0, ↓pd0, ↓qa1, ↓qb1, ↓qc1, ↓qd1, ↓pa1, ↓pb1, ↓pc1, ↓pd1]))
    unfold SToStN
    refine ⟨l1, ms1, ts1, bs1, hr1.keep kp1, m1, fun H2 bA1_0 bA1_1 bA1_2 bA1_3 gA1 xA1 => ?_⟩
    replace gA0 := gA0.ext xA1
    have kp2 := kp1.ext xA1
    have klkp2 := kp2.1
    have lekp2 := xA1.len
    have glA1 := fun c => gA1.lt (c := c)
    have gnA1 := fun c => gA1.low (c := c)
    repeat' (first | with_reducible refine iteI (fun _ => ?_) (fun _ => ?_) | ((first | unfold AOpsC | unfold AOpsD | skip); simp (maxSteps := 1000000) (disch := (first | omega | assumption | (simp only [List.length_append, List.length_cons, List.length_nil, List.length_set]; omega))) only [go_sem, ↓skipC, ↓exitC, ↓retC, ↓seqC, ↓blockC, ↓condC, ↓regC, ↓drawC, ↓drawStep, ↓AOpC, ↓AOpF, ↓AOpE, ↓AEff, ↓contE_at, ↓contC_at, ↓keepC_at, ↓map_parts, ↓reduceIte, reduceCtorEq, Nat.reduceLT, Nat.reduceEqDiff, Nat.reduceAdd, Nat.reduceMul, Nat.reduceLeDiff, Nat.reduceSub, Nat.reduceBEq, Nat.reduceBNe, Nat.reduceBneDiff, Nat.reduceBeqDiff, ag_39, ag_63, ag_64, bo_4, by_39, by_63, by_64, nf_39, nf_63, nf_64, pl_39, pl_63, pl_64, ps_39, ps_63, ps_64, sz_39, sz_63, sz_64, ze_39, ze_63, ze_64, Sp10, SToLed, D10, ↓qa0, ↓qb0, ↓qc0, ↓qd0, ↓pa0, ↓pb0, ↓pc0, ↓pd0, ↓qa1, ↓qb1, ↓qc1, ↓qd1, ↓pa1, ↓pb1, ↓pc1, ↓pd1]))
    have iA0 := gA0.is4
    have dA0_0 := iA0.1.dec3
    have oA0_0 : ok3 45 _ _ := ⟨_, iA0.1, ma0⟩
    have dA0_1 := iA0.2.1.dec
    have oA0_1 : okI _ _ := ⟨_, iA0.2.1, mb0⟩
    have dA0_2 := iA0.2.2.1.dec
    have oA0_2 : okI _ _ := ⟨_, iA0.2.2.1, mc0⟩
    have dA0_3 := iA0.2.2.2.dec
    have oA0_3 : okI _ _ := ⟨_, iA0.2.2.2, md0⟩
    have iA1 := gA1.is4
    have dA1_0 := iA1.1.dec3
    have oA1_0 : ok3 45 _ _ := ⟨_, iA1.1, ma1⟩
    have dA1_1 := iA1.2.1.dec
    have oA1_1 : okI _ _ := ⟨_, iA1.2.1, mb1⟩
    have dA1_2 := iA1.2.2.1.dec
    have oA1_2 : okI _ _ := ⟨_, iA1.2.2.1, mc1⟩
    have dA1_3 := iA1.2.2.2.dec
    have oA1_3 : okI _ _ := ⟨_, iA1.2.2.2, md1⟩
    unfold SLh
    simp only [dA0_0, oA0_0, dA0_1, oA0_1, dA0_2, oA0_2, dA0_3, oA0_3, dA1_0, oA1_0, dA1_1, oA1_1, dA1_2, oA1_2, dA1_3, oA1_3, true_and, and_self, and_true]
    repeat' (first | with_reducible refine iteI (fun _ => ?_) (fun _ => ?_) | ((first | unfold AOpsC | unfold AOpsD | skip); simp (maxSteps := 1000000) (disch := (first | omega | assumption | (simp only [List.length_append, List.length_cons, List.length_nil, List.length_set]; omega))) only [go_sem, ↓skipC, ↓exitC, ↓retC, ↓seqC, ↓blockC, ↓condC, ↓regC, ↓drawC, ↓drawStep, ↓AOpC, ↓AOpF, ↓AOpE, ↓AEff, ↓contE_at, ↓contC_at, ↓keepC_at, ↓map_parts, ↓reduceIte, reduceCtorEq, Nat.reduceLT, Nat.reduceEqDiff, Nat.reduceAdd, Nat.reduceMul, Nat.reduceLeDiff, Nat.reduceSub, Nat.reduceBEq, Nat.reduceBNe, Nat.reduceBneDiff, Nat.reduceBeqDiff, ag_39, ag_63, ag_64, bo_4, by_39, by_63, by_64, nf_39, nf_63, nf_64, pl_39, pl_63, pl_64, ps_39, ps_63, ps_64, sz_39, sz_63, sz_64, ze_39, ze_63, ze_64, Sp10, SToLed, D10, ↓qa0, ↓qb0, ↓qc0, ↓qd0, ↓pa0, ↓pb0, ↓pc0, ↓pd0, ↓qa1, ↓qb1, ↓qc1, ↓qd1, ↓pa1, ↓pb1, ↓pc1, ↓pd1]))
    unfold SToStN
    refine ⟨l0, ms0, ts0, bs0, hr0.keep kp2, m0, fun H3 bB0_0 bB0_1 bB0_2 bB0_3 gB0 xB0 => ?_⟩
    have kp3 := kp2.ext xB0
    have klkp3 := kp3.1
    have lekp3 := xB0.len
    have glB0 := fun c => gB0.lt (c := c)
    have gnB0 := fun c => gB0.low (c := c)
    repeat' (first | with_reducible refine iteI (fun _ => ?_) (fun _ => ?_) | ((first | unfold AOpsC | unfold AOpsD | skip); simp (maxSteps := 1000000) (disch := (first | omega | assumption | (simp only [List.length_append, List.length_cons, List.length_nil, List.length_set]; omega))) only [go_sem, ↓skipC, ↓exitC, ↓retC, ↓seqC, ↓blockC, ↓condC, ↓regC, ↓drawC, ↓drawStep, ↓AOpC, ↓AOpF, ↓AOpE, ↓AEff, ↓contE_at, ↓contC_at, ↓keepC_at, ↓map_parts, ↓reduceIte, reduceCtorEq, Nat.reduceLT, Nat.reduceEqDiff, Nat.reduceAdd, Nat.reduceMul, Nat.reduceLeDiff, Nat.reduceSub, Nat.reduceBEq, Nat.reduceBNe, Nat.reduceBneDiff, Nat.reduceBeqDiff, ag_39, ag_63, ag_64, bo_4, by_39, by_63, by_64, nf_39, nf_63, nf_64, pl_39, pl_63, pl_64, ps_39, ps_63, ps_64, sz_39, sz_63, sz_64, ze_39, ze_63, ze_64, Sp10, SToLed, D10, ↓qa0, ↓qb0, ↓qc0, ↓qd0, ↓pa0, ↓pb0, ↓pc0, ↓pd0, ↓qa1, ↓qb1, ↓qc1, ↓qd1, ↓pa1, ↓pb1, ↓pc1, ↓pd1]))
    unfold SToStN
    refine ⟨l1, ms1, ts1, bs1, hr1.keep kp3, m1, fun H4 bB1_0 bB1_1 bB1_2 bB1_3 gB1 xB1 => ?_⟩
    replace gB0 := gB0.ext xB1
    have kp4 := kp3.ext xB1
    have klkp4 := kp4.1
    have lekp4 := xB1.len
    have glB1 := fun c => gB1.lt (c := c)
    have gnB1 := fun c => gB1.low (c := c)
    repeat' (first | with_reducible refine iteI (fun _ => ?_) (fun _ => ?_) | ((first | unfold AOpsC | unfold AOpsD | skip); simp (maxSteps := 1000000) (disch := (first | omega | assumption | (simp only [List.length_append, List.length_cons, List.length_nil, List.length_set]; omega))) only [go_sem, ↓skipC, ↓exitC, ↓retC, ↓seqC, ↓blockC, ↓condC, ↓regC, ↓drawC, ↓drawStep, ↓AOpC, ↓AOpF, ↓AOpE, ↓AEff, ↓contE_at, ↓contC_at, ↓keepC_at, ↓map_parts, ↓reduceIte, reduceCtorEq, Nat.reduceLT, Nat.reduceEqDiff, Nat.reduceAdd, Nat.reduceMul, Nat.reduceLeDiff, Nat.reduceSub, Nat.reduceBEq, Nat.reduceBNe, Nat.reduceBneDiff, Nat.reduceBeqDiff, ag_39, ag_63, ag_64, bo_4, by_39, by_63, by_64, nf_39, nf_63, nf_64, pl_39, pl_63, pl_64, ps_39, ps_63, ps_64, sz_39, sz_63, sz_64, ze_39, ze_63, ze_64, Sp10, SToLed, D10, ↓qa0, ↓qb0, ↓qc0, ↓qd0, ↓pa0, ↓pb0, ↓pc0, ↓pd0, ↓qa1, ↓qb1, ↓qc1, ↓qd1, ↓pa1, ↓pb1, ↓pc1, ↓pd1]))
    have iB0 := gB0.is4
    have dB0_0 := iB0.1.dec3
    have oB0_0 : ok3 45 _ _ := ⟨_, iB0.1, ma0⟩
    have dB0_1 := iB0.2.1.dec
    have oB0_1 : okI _ _ := ⟨_, iB0.2.1, mb0⟩
    have dB0_2 := iB0.2.2.1.dec
    have oB0_2 : okI _ _ := ⟨_, iB0.2.2.1, mc0⟩
    have dB0_3 := iB0.2.2.2.dec
    have oB0_3 : okI _ _ := ⟨_, iB0.2.2.2, md0⟩
    have iB1 := gB1.is4
    have dB1_0 := iB1.1.dec3
    have oB1_0 : ok3 45 _ _ := ⟨_, iB1.1, ma1⟩
    have dB1_1 := iB1.2.1.dec
    have oB1_1 : okI _ _ := ⟨_, iB1.2.1, mb1⟩
    have dB1_2 := iB1.2.2.1.dec
    have oB1_2 : okI _ _ := ⟨_, iB1.2.2.1, mc1⟩
    have dB1_3 := iB1.2.2.2.dec
    have oB1_3 : okI _ _ := ⟨_, iB1.2.2.2, md1⟩
    unfold SLh
    simp only [dB0_0, oB0_0, dB0_1, oB0_1, dB0_2, oB0_2, dB0_3, oB0_3, dB1_0, oB1_0, dB1_1, oB1_1, dB1_2, oB1_2, dB1_3, oB1_3, true_and, and_self, and_true]
    repeat' (first | with_reducible refine iteI (fun _ => ?_) (fun _ => ?_) | ((first | unfold AOpsC | unfold AOpsD | skip); simp (maxSteps := 1000000) (disch := (first | omega | assumption | (simp only [List.length_append, List.length_cons, List.length_nil, List.length_set]; omega))) only [go_sem, ↓skipC, ↓exitC, ↓retC, ↓seqC, ↓blockC, ↓condC, ↓regC, ↓drawC, ↓drawStep, ↓AOpC, ↓AOpF, ↓AOpE, ↓AEff, ↓contE_at, ↓contC_at, ↓keepC_at, ↓map_parts, ↓reduceIte, reduceCtorEq, Nat.reduceLT, Nat.reduceEqDiff, Nat.reduceAdd, Nat.reduceMul, Nat.reduceLeDiff, Nat.reduceSub, Nat.reduceBEq, Nat.reduceBNe, Nat.reduceBneDiff, Nat.reduceBeqDiff, ag_39, ag_63, ag_64, bo_4, by_39, by_63, by_64, nf_39, nf_63, nf_64, pl_39, pl_63, pl_64, ps_39, ps_63, ps_64, sz_39, sz_63, sz_64, ze_39, ze_63, ze_64, Sp10, SToLed, D10, ↓qa0, ↓qb0, ↓qc0, ↓qd0, ↓pa0, ↓pb0, ↓pc0, ↓pd0, ↓qa1, ↓qb1, ↓qc1, ↓qd1, ↓pa1, ↓pb1, ↓pc1, ↓pd1]))
    unfold SToStN
    refine ⟨l0, ms0, ts0, bs0, hr0.keep kp4, m0, fun H5 bC00_0 bC00_1 bC00_2 bC00_3 gC00 xC00 => ?_⟩
    replace gB0 := gB0.ext xC00
    replace gB1 := gB1.ext xC00
    have kp5 := kp4.ext xC00
    have klkp5 := kp5.1
    have lekp5 := xC00.len
    have glC00 := fun c => gC00.lt (c := c)
    have gnC00 := fun c => gC00.low (c := c)
    repeat' (first | with_reducible refine iteI (fun _ => ?_) (fun _ => ?_) | ((first | unfold AOpsC | unfold AOpsD | skip); simp (maxSteps := 1000000) (disch := (first | omega | assumption | (simp only [List.length_append, List.length_cons, List.length_nil, List.length_set]; omega))) only [go_sem, ↓skipC, ↓exitC, ↓retC, ↓seqC, ↓blockC, ↓condC, ↓regC, ↓drawC, ↓drawStep, ↓AOpC, ↓AOpF, ↓AOpE, ↓AEff, ↓contE_at, ↓contC_at, ↓keepC_at, ↓map_parts, ↓reduceIte, reduceCtorEq, Nat.reduceLT, Nat.reduceEqDiff, Nat.reduceAdd, Nat.reduceMul, Nat.reduceLeDiff, Nat.reduceSub, Nat.reduceBEq, Nat.reduceBNe, Nat.reduceBneDiff, Nat.reduceBeqDiff, ag_39, ag_63, ag_64, bo_4, by_39, by_63, by_64, nf_39, nf_63, nf_64, pl_39, pl_63, pl_64, ps_39, ps_63, ps_64, sz_39, sz_63, sz_64, ze_39, ze_63, ze_64, Sp10, SToLed, D10, ↓qa0, ↓qb0, ↓qc0, ↓qd0, ↓pa0, ↓pb0, ↓pc0, ↓pd0, ↓qa1, ↓qb1, ↓qc1, ↓qd1, ↓pa1, ↓pb1, ↓pc1, ↓pd1]))
    unfold SEqState
    refine ⟨l0, ms0, ts0, bs0, l0, ms0, ts0, bs0, gB0.is4, gC00.is4, m0, ?_⟩
    repeat' (first | with_reducible refine iteI (fun _ => ?_) (fun _ => ?_) | ((first | unfold AOpsC | unfold AOpsD | skip); simp (maxSteps := 1000000) (disch := (first | omega | assumption | (simp only [List.length_append, List.length_cons, List.length_nil, List.length_set]; omega))) only [go_sem, ↓skipC, ↓exitC, ↓retC, ↓seqC, ↓blockC, ↓condC, ↓regC, ↓drawC, ↓drawStep, ↓AOpC, ↓AOpF, ↓AOpE, ↓AEff, ↓contE_at, ↓contC_at, ↓keepC_at, ↓map_parts, ↓reduceIte, reduceCtorEq, Nat.reduceLT, Nat.reduceEqDiff, Nat.reduceAdd, Nat.reduceMul, Nat.reduceLeDiff, Nat.reduceSub, Nat.reduceBEq, Nat.reduceBNe, Nat.reduceBneDiff, Nat.reduceBeqDiff, ag_39, ag_63, ag_64, bo_4, by_39, by_63, by_64, nf_39, nf_63, nf_64, pl_39, pl_63, pl_64, ps_39, ps_63, ps_64, sz_39, sz_63, sz_64, ze_39, ze_63, ze_64, Sp10, SToLed, D10, ↓qa0, ↓qb0, ↓qc0, ↓qd0, ↓pa0, ↓pb0, ↓pc0, ↓pd0, ↓qa1, ↓qb1, ↓qc1, ↓qd1, ↓pa1, ↓pb1, ↓pc1, ↓pd1]))
    unfold SToStN
    refine ⟨l1, ms1, ts1, bs1, hr1.keep kp5, m1, fun H6 bC11_0 bC11_1 bC11_2 bC11_3 gC11 xC11 => ?_⟩
    replace gB0 := gB0.ext xC11
    replace gB1 := gB1.ext xC11
    have kp6 := kp5.ext xC11
    have klkp6 := kp6.1
    have lekp6 := xC11.len
    have glC11 := fun c => gC11.lt (c := c)
    have gnC11 := fun c => gC11.low (c := c)
    repeat' (first | with_reducible refine iteI (fun _ => ?_) (fun _ => ?_) | ((first | unfold AOpsC | unfold AOpsD | skip); simp (maxSteps := 1000000) (disch := (first | omega | assumption | (simp only [List.length_append, List.length_cons, List.length_nil, List.length_set]; omega))) only [go_sem, ↓skipC, ↓exitC, ↓retC, ↓seqC, ↓blockC, ↓condC, ↓regC, ↓drawC, ↓drawStep, ↓AOpC, ↓AOpF, ↓AOpE, ↓AEff, ↓contE_at, ↓contC_at, ↓keepC_at, ↓map_parts, ↓reduceIte, reduceCtorEq, Nat.reduceLT, Nat.reduceEqDiff, Nat.reduceAdd, Nat.reduceMul, Nat.reduceLeDiff, Nat.reduceSub, Nat.reduceBEq, Nat.reduceBNe, Nat.reduceBneDiff, Nat.reduceBeqDiff, ag_39, ag_63, ag_64, bo_4, by_39, by_63, by_64, nf_39, nf_63, nf_64, pl_39, pl_63, pl_64, ps_39, ps_63, ps_64, sz_39, sz_63, sz_64, ze_39, ze_63, ze_64, Sp10, SToLed, D10, ↓qa0, ↓qb0, ↓qc0, ↓qd0, ↓pa0, ↓pb0, ↓pc0, ↓pd0, ↓qa1, ↓qb1, ↓qc1, ↓qd1, ↓pa1, ↓pb1, ↓pc1, ↓pd1]))
    unfold SEqState
    refine ⟨l1, ms1, ts1, bs1, l1, ms1, ts1, bs1, gB1.is4, gC11.is4, m1, ?_⟩
    repeat' (first | with_reducible refine iteI (fun _ => ?_) (fun _ => ?_) | ((first | unfold AOpsC | unfold AOpsD | skip); simp (maxSteps := 1000000) (disch := (first | omega | assumption | (simp only [List.length_append, List.length_cons, List.length_nil, List.length_set]; omega))) only [go_sem, ↓skipC, ↓exitC, ↓retC, ↓seqC, ↓blockC, ↓condC, ↓regC, ↓drawC, ↓drawStep, ↓AOpC, ↓AOpF, ↓AOpE, ↓AEff, ↓contE_at, ↓contC_at, ↓keepC_at, ↓map_parts, ↓reduceIte, reduceCtorEq, Nat.reduceLT, Nat.reduceEqDiff, Nat.reduceAdd, Nat.reduceMul, Nat.reduceLeDiff, Nat.reduceSub, Nat.reduceBEq, Nat.reduceBNe, Nat.reduceBneDiff, Nat.reduceBeqDiff, ag_39, ag_63, ag_64, bo_4, by_39, by_63, by_64, nf_39, nf_63, nf_64, pl_39, pl_63, pl_64, ps_39, ps_63, ps_64, sz_39, sz_63, sz_64, ze_39, ze_63, ze_64, Sp10, SToLed, D10, ↓qa0, ↓qb0, ↓qc0, ↓qd0, ↓pa0, ↓pb0, ↓pc0, ↓pd0, ↓qa1, ↓qb1, ↓qc1, ↓qd1, ↓pa1, ↓pb1, ↓pc1, ↓pd1]))
    exact hK _
  · exact h.elim

/- the law -/
theorem law_ok {blks : List Blk} {x0 x1 x2 x3 x4 x5 x6 x7 x8 x9 x10 x11 x12 x13 : AV} (s0 : AvSh blks (.int .i64) x0) (s1 : AvSh blks (.rows 134 3 .i64) x1) (s2 : AvSh blks (.rows 3 1 .i64) x2) (s3 : AvSh blks (.rows 3 1 .i64) x3) (s4 : AvSh blks (.rows 3 1 .i64) x4) (s5 : AvSh blks (.int .i64) x5) (s6 : AvSh blks (.rows 134 3 .i64) x6) (s7 : AvSh blks (.rows 3 1 .i64) x7) (s8 : AvSh blks (.rows 3 1 .i64) x8) (s9 : AvSh blks (.rows 3 1 .i64) x9) (s10 : AvSh blks (.int .i64) x10) (s11 : AvSh blks (.int .i64) x11) (s12 : AvSh blks (.int .i64) x12) (s13 : AvSh blks (.int .i64) x13) : AF Try.prog blks.length 10 [.agg [x0, x1, x2, x3, x4], .agg [x5, x6, x7, x8, x9], .agg [x10, x11, x12, x13]] blks fun v _ => v = .bool true := by
  obtain ⟨n0, rfl, _⟩ := s0
  obtain ⟨l0, ha0, na0⟩ := row3 s1
  obtain ⟨ms0, hb0, nb0⟩ := row1 s2
  obtain ⟨ts0, hc0, nc0⟩ := row1 s3
  obtain ⟨bs0, hd0, nd0⟩ := row1 s4
  obtain ⟨n5, rfl, _⟩ := s5
  obtain ⟨l1, ha1, na1⟩ := row3 s6
  obtain ⟨ms1, hb1, nb1⟩ := row1 s7
  obtain ⟨ts1, hc1, nc1⟩ := row1 s8
  obtain ⟨bs1, hd1, nd1⟩ := row1 s9
  obtain ⟨y2_0, rfl, _⟩ := s10
  obtain ⟨y2_1, rfl, _⟩ := s11
  obtain ⟨y2_2, rfl, _⟩ := s12
  obtain ⟨y2_3, rfl, _⟩ := s13
  exact f10_ok (show SLaw _ _ _ from ⟨l0, ms0, ts0, bs0, l1, ms1, ts1, bs1, ⟨⟨ha0, hb0, hc0, hd0⟩, ⟨ha1, hb1, hc1, hd1⟩⟩, ⟨⟨na0, nb0, nc0, nd0⟩, ⟨na1, nb1, nc1, nd1⟩⟩, fun _ => rfl⟩)

end Go.Proofs.Ytkkpbjijakamhaa
