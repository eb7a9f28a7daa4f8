/- What functions of the program compute, said in the abstract logic; no conditions. -/
import Derived.Test.YtaalpmbopkbdiaaGreatGRes
import Derived.Test.YtaalpmbopkbdiaaGreatGCost

namespace Go.Proofs.YtaalpmbopkbdiaaGreat
open Go
set_option linter.unusedSimpArgs false
set_option linter.unusedVariables false
set_option maxRecDepth 100000
set_option maxHeartbeats 8000000
attribute [local go_sem] st0 AC thenA andC locLoadB KsSW_same KsSW_grow oldLoadB noBlkB KsSL_same KsOS_same KsOS_grow pv ev put upd dstOk cv cvc binI setB Value.oneCell' EndA resA resA1 List.mapM_cons List.mapM_nil Option.pure_def Option.bind_eq_bind noLocV noLoc1 noLoc noLocs plainV cellsA newVarA putCells condA lam0 inBlockA cur lenA rowA writeA dstA appendC appendZ mapPut mapGet avoidsB avoidB clearB Array.toList_append Op.operands Call.operands newSlot Nat.zero_add Nat.add_zero Nat.succ_ne_self Nat.lt_add_one Nat.zero_lt_succ true_and and_true true_or or_true false_or or_false and_self true_implies forall_const Bool.false_eq_true Bool.true_eq_false false_implies implies_true imp_self ne_eq not_false_eq_true not_true_eq_false false_and and_false List.getElem?_toArray List.getElem?_cons_succ List.getElem?_cons_zero Option.bind_some Option.map_some Bool.not_true Bool.not_false List.getD_cons_zero List.getD_cons_succ Option.some.injEq exists_eq_left' AV.bool.injEq List.map_cons List.map_nil List.all_cons List.all_nil Bool.and_self Bool.and_true Bool.true_and List.append_nil List.cons_append List.nil_append List.length_cons List.length_nil List.drop_zero List.take_zero List.drop_succ_cons List.take_succ_cons List.take_nil List.drop_nil List.not_mem_nil List.mem_cons List.contains_nil List.contains_cons Bool.or_self Bool.or_true Bool.true_or Bool.false_or Bool.or_false Bool.and_false Bool.false_and KsS_same KsS_grow skipV KsS_ext KsSW_ext KsOS_ext rep1 rep2 rep3 rep4 rep5 List.flatten_cons List.flatten_nil partsA isPtr fillA List.size_toArray ltT ltF leT leF ltTn ltFn leTn leFn eqTi eqFi wrapId toNat1 intGet boolGet memD app_get app_last app_lst app_set app_setL app_setF set_ne set_eq gt_iff_lt ge_iff_le decide_eq_true_eq len2 len3 get20 get21 drop2 put2 get30 get31 get32 drop3 put3 putI pairEta bneTi bneFi beqTi beqFi bne_eq_false_iff_eq beq_eq_false_iff_ne beq_iff_eq bne_iff_ne Int.toNat_natCast Nat.mul_one List.length_map Bool.not_eq_true Bool.not_eq_false Bool.decide_eq_true decide_true decide_false Bool.not_eq_true' Bool.not_eq_false' decide_eq_false_iff_not eq_self Decidable.not_not
attribute [local go_sem ↓] skipC exitC retC seqC blockC condC regC drawC drawStep AOpC AOpF AOpE AEff contE_at contC_at keepC_at keepW_at keepO_at keepL_at map_parts
attribute [local go_sem] reduceCtorEq Nat.reduceLT Nat.reduceEqDiff Nat.reduceAdd Nat.reduceMul Nat.reduceLeDiff Nat.reduceSub Nat.reduceBEq Nat.reduceBNe Nat.reduceBneDiff Nat.reduceBeqDiff
attribute [local go_sem ↓] reduceIte
attribute [local go_sem] ag_25 ag_3 ag_30 ag_32 ag_69 by_25 by_3 by_30 by_32 by_69 el_25 el_30 en_3 fi_32_1 in_3 nf_32 nf_69 pl_32 pl_69 ps_32 ps_69 sz_25 sz_3 sz_30 sz_32 sz_69 ze_25 ze_3 ze_30 ze_32 ze_69

def actB (t lv : Int) : Bool := decide (0 ≤ t) && (inB lv 0 4 && decide (t.tmod (wdI lv) = 0))
def actN (l : List Id3) (t : Int) : Nat → List Int
  | 0 => []
  | i + 1 => if actB t (faceI l i) = true then actN l t i ++ [(i : Int)] else actN l t i
def actL (l : List Id3) (t : Int) : List Int := actN l t (l.length - 1)
theorem act_len (l : List Id3) (t : Int) : ∀ i, (actN l t i).length ≤ i
  | 0 => by simp [actN]
  | i + 1 => by
    have := act_len l t i
    rw [actN]
    split
    · simp; omega
    · omega
theorem act_mem (l : List Id3) (t : Int) : ∀ i x, x ∈ actN l t i → 0 ≤ x ∧ x < i
  | 0, x, h => by simp [actN] at h
  | i + 1, x, h => by
    rw [actN] at h
    split at h
    · rcases List.mem_append.1 h with h | h
      · have := act_mem l t i x h; omega
      · simp at h; omega
    · have := act_mem l t i x h; omega
def SIsAct : List AV → List Blk → (AV → List Blk → Prop) → Prop
  | [.int .i64 t, .int .i64 lv], η, K => K (.bool (actB t lv)) η
  | _, _, _ => False
/- spec.IsActive -/
def Sp134 (lo : Nat) : Spec := fun g args η K => match g with | 142 => SWd args η K | _ => False
theorem Sp134_ok {lo : Nat} : Sound Tryz.prog lo (Sp134 lo) := by
  intro g args η K h
  unfold Sp134 at h
  split at h
  · exact .inl (f142_ok h)
  · exact h.elim
theorem f134_ok {lo : Nat} {args : List AV} {η : List Blk} {K : AV → List Blk → Prop} (h : SIsAct args η K) : AF Tryz.prog lo 134 args η K := by
  unfold SIsAct at h
  split at h
  · rename_i t lv
    refine AF_run Sp134_ok D0 [] [.tmp 4] hm Tryz.func134 rfl (by decide) Tryz.ntmps134 rfl (by kernel_rfl) (Nat.le_of_ble_eq_true rfl) ?_; intro hlo
    by_cases hlv : 0 ≤ lv ∧ lv ≤ 4
    case neg =>
      have e1 : inB lv 0 4 = false := by simp [inB]; omega
      have e2 : wdI lv = 0 := if_neg hlv
      by_cases h0 : 0 ≤ t
      · repeat' (first | with_reducible refine iteI (fun _ => ?_) (fun _ => ?_) | ((first | unfold AOpsC | unfold AOpsD | skip); simp (maxSteps := 1000000) (disch := (first | omega | assumption | (simp only [List.length_append, List.length_cons, List.length_nil, List.length_set]; omega))) only [go_sem, Sp134, SWd, e1, e2]))
        exact KB h (by simp [actB, e1])
      · repeat' (first | with_reducible refine iteI (fun _ => ?_) (fun _ => ?_) | ((first | unfold AOpsC | unfold AOpsD | skip); simp (maxSteps := 1000000) (disch := (first | omega | assumption | (simp only [List.length_append, List.length_cons, List.length_nil, List.length_set]; omega))) only [go_sem, Sp134, SWd, e1, e2]))
        exact KB h (by simp [actB, e1])
    have e1 : inB lv 0 4 = true := by simp [inB]; omega
    have e2 : 1 ≤ wdI lv := by rcases lv5 hlv with rfl | rfl | rfl | rfl | rfl <;> decide
    have e3 : ¬ wdI lv = 0 := by omega
    by_cases h0 : 0 ≤ t
    case neg =>
      repeat' (first | with_reducible refine iteI (fun _ => ?_) (fun _ => ?_) | ((first | unfold AOpsC | unfold AOpsD | skip); simp (maxSteps := 1000000) (disch := (first | omega | assumption | (simp only [List.length_append, List.length_cons, List.length_nil, List.length_set]; omega))) only [go_sem, Sp134, SWd, e1]))
      exact KB h (by simp [actB, h0])
    by_cases h3 : t.tmod (wdI lv) = 0
    · repeat' (first | with_reducible refine iteI (fun _ => ?_) (fun _ => ?_) | ((first | unfold AOpsC | unfold AOpsD | skip); simp (maxSteps := 1000000) (disch := (first | omega | assumption | (simp only [List.length_append, List.length_cons, List.length_nil, List.length_set]; omega))) only [go_sem, Sp134, SWd, e1, e3, h3]))
      exact KB h (by simp [actB, h0, e1, h3])
    · repeat' (first | with_reducible refine iteI (fun _ => ?_) (fun _ => ?_) | ((first | unfold AOpsC | unfold AOpsD | skip); simp (maxSteps := 1000000) (disch := (first | omega | assumption | (simp only [List.length_append, List.length_cons, List.length_nil, List.length_set]; omega))) only [go_sem, Sp134, SWd, e1, e3, h3]))
      exact KB h (by simp [actB, h0, e1, h3])
  · exact h.elim

/- impl.IsActive -/
def Sp161 (lo : Nat) : Spec := fun g args η K => match g with | 144 => SLev args η K | 145 => SWd args η K | _ => False
theorem Sp161_ok {lo : Nat} : Sound Tryz.prog lo (Sp161 lo) := by
  intro g args η K h
  unfold Sp161 at h
  split at h
  · exact .inl (f144_ok h)
  · exact .inl (f145_ok h)
  · exact h.elim
theorem f161_ok {lo : Nat} {args : List AV} {η : List Blk} {K : AV → List Blk → Prop} (h : SIsAct args η K) : AF Tryz.prog lo 161 args η K := by
  unfold SIsAct at h
  split at h
  · rename_i t lv
    refine AF_run Sp161_ok D0 [] [.tmp 4] hm Tryz.func161 rfl (by decide) Tryz.ntmps161 rfl (by kernel_rfl) (Nat.le_of_ble_eq_true rfl) ?_; intro hlo
    by_cases hlv : 0 ≤ lv ∧ lv ≤ 4
    case neg =>
      have e1 : inB lv 0 4 = false := by simp [inB]; omega
      have e2 : wdI lv = 0 := if_neg hlv
      by_cases h0 : 0 ≤ t
      · repeat' (first | with_reducible refine iteI (fun _ => ?_) (fun _ => ?_) | ((first | unfold AOpsC | unfold AOpsD | skip); simp (maxSteps := 1000000) (disch := (first | omega | assumption | (simp only [List.length_append, List.length_cons, List.length_nil, List.length_set]; omega))) only [go_sem, Sp161, SLev, SWd, e1, e2]))
        exact KB h (by simp [actB, e1])
      · repeat' (first | with_reducible refine iteI (fun _ => ?_) (fun _ => ?_) | ((first | unfold AOpsC | unfold AOpsD | skip); simp (maxSteps := 1000000) (disch := (first | omega | assumption | (simp only [List.length_append, List.length_cons, List.length_nil, List.length_set]; omega))) only [go_sem, Sp161, SLev, SWd, e1, e2]))
        exact KB h (by simp [actB, e1])
    have e1 : inB lv 0 4 = true := by simp [inB]; omega
    have e2 : 1 ≤ wdI lv := by rcases lv5 hlv with rfl | rfl | rfl | rfl | rfl <;> decide
    have e3 : ¬ wdI lv = 0 := by omega
    by_cases h0 : 0 ≤ t
    case neg =>
      repeat' (first | with_reducible refine iteI (fun _ => ?_) (fun _ => ?_) | ((first | unfold AOpsC | unfold AOpsD | skip); simp (maxSteps := 1000000) (disch := (first | omega | assumption | (simp only [List.length_append, List.length_cons, List.length_nil, List.length_set]; omega))) only [go_sem, Sp161, SLev, SWd, e1]))
      exact KB h (by simp [actB, h0])
    by_cases h3 : t.tmod (wdI lv) = 0
    · repeat' (first | with_reducible refine iteI (fun _ => ?_) (fun _ => ?_) | ((first | unfold AOpsC | unfold AOpsD | skip); simp (maxSteps := 1000000) (disch := (first | omega | assumption | (simp only [List.length_append, List.length_cons, List.length_nil, List.length_set]; omega))) only [go_sem, Sp161, SLev, SWd, e1, e3, h3]))
      exact KB h (by simp [actB, h0, e1, h3])
    · repeat' (first | with_reducible refine iteI (fun _ => ?_) (fun _ => ?_) | ((first | unfold AOpsC | unfold AOpsD | skip); simp (maxSteps := 1000000) (disch := (first | omega | assumption | (simp only [List.length_append, List.length_cons, List.length_nil, List.length_set]; omega))) only [go_sem, Sp161, SLev, SWd, e1, e3, h3]))
      exact KB h (by simp [actB, h0, e1, h3])
  · exact h.elim

/- (impl.Mesh).active -/
end Go.Proofs.YtaalpmbopkbdiaaGreat
