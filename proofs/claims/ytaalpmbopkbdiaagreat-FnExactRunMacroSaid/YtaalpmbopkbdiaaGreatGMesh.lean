/- What functions of the program compute, said in the abstract logic; no conditions. -/
import Derived.Test.YtaalpmbopkbdiaaGreatGIn

namespace Go.Proofs.YtaalpmbopkbdiaaGreat
open Go
set_option linter.unusedSimpArgs false
set_option linter.unusedVariables false
set_option maxRecDepth 100000
set_option maxHeartbeats 8000000
attribute [local go_sem] st0 AC thenA andC locLoadB KsSW_same KsSW_grow oldLoadB noBlkB KsSL_same KsOS_same KsOS_grow pv ev put upd dstOk cv cvc binI setB Value.oneCell' EndA resA resA1 List.mapM_cons List.mapM_nil Option.pure_def Option.bind_eq_bind noLocV noLoc1 noLoc noLocs plainV cellsA newVarA putCells condA lam0 inBlockA cur lenA rowA writeA dstA appendC appendZ mapPut mapGet avoidsB avoidB clearB Array.toList_append Op.operands Call.operands newSlot Nat.zero_add Nat.add_zero Nat.succ_ne_self Nat.lt_add_one Nat.zero_lt_succ true_and and_true true_or or_true false_or or_false and_self true_implies forall_const Bool.false_eq_true Bool.true_eq_false false_implies implies_true imp_self ne_eq not_false_eq_true not_true_eq_false false_and and_false List.getElem?_toArray List.getElem?_cons_succ List.getElem?_cons_zero Option.bind_some Option.map_some Bool.not_true Bool.not_false List.getD_cons_zero List.getD_cons_succ Option.some.injEq exists_eq_left' AV.bool.injEq List.map_cons List.map_nil List.all_cons List.all_nil Bool.and_self Bool.and_true Bool.true_and List.append_nil List.cons_append List.nil_append List.length_cons List.length_nil List.drop_zero List.take_zero List.drop_succ_cons List.take_succ_cons List.take_nil List.drop_nil List.not_mem_nil List.mem_cons List.contains_nil List.contains_cons Bool.or_self Bool.or_true Bool.true_or Bool.false_or Bool.or_false Bool.and_false Bool.false_and KsS_same KsS_grow skipV KsS_ext KsSW_ext KsOS_ext rep1 rep2 rep3 rep4 rep5 List.flatten_cons List.flatten_nil partsA isPtr fillA List.size_toArray ltT ltF leT leF ltTn ltFn leTn leFn eqTi eqFi wrapId toNat1 intGet boolGet memD app_get app_last app_lst app_set app_setL app_setF set_ne set_eq gt_iff_lt ge_iff_le decide_eq_true_eq len2 len3 get20 get21 drop2 put2 get30 get31 get32 drop3 put3 putI pairEta bneTi bneFi beqTi beqFi bne_eq_false_iff_eq beq_eq_false_iff_ne beq_iff_eq bne_iff_ne Int.toNat_natCast Nat.mul_one List.length_map Bool.not_eq_true Bool.not_eq_false Bool.decide_eq_true decide_true decide_false Bool.not_eq_true' Bool.not_eq_false' decide_eq_false_iff_not eq_self Decidable.not_not
attribute [local go_sem ↓] skipC exitC retC seqC blockC condC regC drawC drawStep AOpC AOpF AOpE AEff contE_at contC_at keepC_at keepW_at keepO_at keepL_at map_parts
attribute [local go_sem] reduceCtorEq Nat.reduceLT Nat.reduceEqDiff Nat.reduceAdd Nat.reduceMul Nat.reduceLeDiff Nat.reduceSub Nat.reduceBEq Nat.reduceBNe Nat.reduceBneDiff Nat.reduceBeqDiff
attribute [local go_sem ↓] reduceIte
attribute [local go_sem] ag_3 ag_30 ag_32 ag_69 by_3 by_30 by_32 by_69 el_30 en_3 fi_32_0 fi_32_1 fi_69_0 fi_69_1 fi_69_2 in_112 in_3 nf_32 nf_69 pl_32 pl_69 ps_32 ps_69 sz_3 sz_30 sz_32 sz_69 ze_3 ze_30 ze_32 ze_69

abbrev Id3 := Int × Int × Int
def z3 : Id3 := (0, 0, 0)
def idB (r lv ix : Int) : Bool := inB r 0 7 && (inB lv 0 4 && (decide (0 ≤ ix) && decide (ix < 2 ^ lv.toNat)))
def wdI (lv : Int) : Int := if 0 ≤ lv ∧ lv ≤ 4 then 16 / 2 ^ lv.toNat else 0
def stI (r lv ix : Int) : Int := if idB r lv ix = true then r * 16 + ix * wdI lv else -1
def enI (r lv ix : Int) : Int := stI r lv ix + wdI lv
theorem lv5 {lv : Int} (h : 0 ≤ lv ∧ lv ≤ 4) : lv = 0 ∨ lv = 1 ∨ lv = 2 ∨ lv = 3 ∨ lv = 4 := by omega
theorem wd_bd (lv : Int) : 0 ≤ wdI lv ∧ wdI lv ≤ 16 := by
  unfold wdI
  split
  · rcases lv5 ‹_› with rfl | rfl | rfl | rfl | rfl <;> decide
  · omega
theorem id_bd {r lv ix : Int} (h : idB r lv ix = true) : 0 ≤ r ∧ r ≤ 7 ∧ 0 ≤ lv ∧ lv ≤ 4 ∧ 0 ≤ ix ∧ 0 ≤ ix * wdI lv ∧ ix * wdI lv ≤ 16 - wdI lv ∧ 1 ≤ wdI lv ∧ ix ≤ 15 := by
  simp only [idB, inB, Bool.and_eq_true, decide_eq_true_eq] at h
  obtain ⟨⟨h1, h2⟩, ⟨h3, h4⟩, h5, h6⟩ := h
  rcases lv5 ⟨h3, h4⟩ with rfl | rfl | rfl | rfl | rfl <;> simp [wdI] at h6 ⊢ <;> omega
theorem st_bd (r lv ix : Int) : -1 ≤ stI r lv ix ∧ stI r lv ix ≤ 128 := by
  unfold stI
  split
  · have := id_bd ‹_›
    have := wd_bd lv
    omega
  · omega
def SId : List AV → List Blk → (AV → List Blk → Prop) → Prop
  | [.agg [.int .i64 r, .int .i64 lv, .int .i64 ix]], η, K => K (.bool (idB r lv ix)) η
  | _, _, _ => False
def SLev : List AV → List Blk → (AV → List Blk → Prop) → Prop
  | [.int .i64 lv], η, K => K (.bool (inB lv 0 4)) η
  | _, _, _ => False
def SWd : List AV → List Blk → (AV → List Blk → Prop) → Prop
  | [.int .i64 lv], η, K => K (.int .i64 (wdI lv)) η
  | _, _, _ => False
def SSt : List AV → List Blk → (AV → List Blk → Prop) → Prop
  | [.agg [.int .i64 r, .int .i64 lv, .int .i64 ix]], η, K => K (.int .i64 (stI r lv ix)) η
  | _, _, _ => False
def SEn : List AV → List Blk → (AV → List Blk → Prop) → Prop
  | [.agg [.int .i64 r, .int .i64 lv, .int .i64 ix]], η, K => K (.int .i64 (enI r lv ix)) η
  | _, _, _ => False

/- impl.isLevel -/
def Sp144 (lo : Nat) : Spec := fun g args η K => match g with | 59 => SIn args η K | _ => False
theorem Sp144_ok {lo : Nat} : Sound Tryz.prog lo (Sp144 lo) := by
  intro g args η K h
  unfold Sp144 at h
  split at h
  · exact .inl (f59_ok h)
  · exact h.elim
theorem f144_ok {lo : Nat} {args : List AV} {η : List Blk} {K : AV → List Blk → Prop} (h : SLev args η K) : AF Tryz.prog lo 144 args η K := by
  unfold SLev at h
  split at h
  · refine AF_run Sp144_ok D0 [] [.tmp 2] hm Tryz.func144 rfl (by decide) Tryz.ntmps144 rfl (by kernel_rfl) (Nat.le_of_ble_eq_true rfl) ?_; intro hlo
    repeat' (first | with_reducible refine iteI (fun _ => ?_) (fun _ => ?_) | ((first | unfold AOpsC | unfold AOpsD | skip); simp (maxSteps := 1000000) (disch := (first | omega | assumption | (simp only [List.length_append, List.length_cons, List.length_nil, List.length_set]; omega))) only [go_sem, Sp144, SIn]))
    exact h
  · exact h.elim

/- spec.WidthOf -/
def Sp142 (lo : Nat) : Spec := fun g args η K => match g with | 55 => SIn args η K | _ => False
theorem Sp142_ok {lo : Nat} : Sound Tryz.prog lo (Sp142 lo) := by
  intro g args η K h
  unfold Sp142 at h
  split at h
  · exact .inl (f55_ok h)
  · exact h.elim
theorem f142_ok {lo : Nat} {args : List AV} {η : List Blk} {K : AV → List Blk → Prop} (h : SWd args η K) : AF Tryz.prog lo 142 args η K := by
  unfold SWd at h
  split at h
  · rename_i lv
    refine AF_run Sp142_ok D0 [] [.tmp 2] hm Tryz.func142 rfl (by decide) Tryz.ntmps142 rfl (by kernel_rfl) (Nat.le_of_ble_eq_true rfl) ?_; intro hlo
    by_cases hlv : 0 ≤ lv ∧ lv ≤ 4
    · have h2 : inB lv 0 4 = true := by simp [inB]; omega
      rcases lv5 hlv with rfl | rfl | rfl | rfl | rfl
      all_goals
        repeat' (first | with_reducible refine iteI (fun _ => ?_) (fun _ => ?_) | ((first | unfold AOpsC | unfold AOpsD | skip); simp (maxSteps := 1000000) (disch := (first | omega | assumption | (simp only [List.length_append, List.length_cons, List.length_nil, List.length_set]; omega))) only [go_sem, Sp142, SIn, h2, Int.reduceToNat, Nat.min_eq_left, Int.reducePow, IntKind.bits, Int.reduceMul, Int.reduceSub, Int.reduceAdd, Int.reduceFDiv, wrapU, Int.one_mul]))
        refine KI h ?_
        decide
    · have h2 : inB lv 0 4 = false := by simp [inB]; omega
      repeat' (first | with_reducible refine iteI (fun _ => ?_) (fun _ => ?_) | ((first | unfold AOpsC | unfold AOpsD | skip); simp (maxSteps := 1000000) (disch := (first | omega | assumption | (simp only [List.length_append, List.length_cons, List.length_nil, List.length_set]; omega))) only [go_sem, Sp142, SIn, h2]))
      exact KI h (if_neg hlv)
  · exact h.elim

/- impl.WidthOf -/
def Sp145 (lo : Nat) : Spec := fun g args η K => match g with | 144 => SLev args η K | _ => False
theorem Sp145_ok {lo : Nat} : Sound Tryz.prog lo (Sp145 lo) := by
  intro g args η K h
  unfold Sp145 at h
  split at h
  · exact .inl (f144_ok h)
  · exact h.elim
theorem f145_ok {lo : Nat} {args : List AV} {η : List Blk} {K : AV → List Blk → Prop} (h : SWd args η K) : AF Tryz.prog lo 145 args η K := by
  unfold SWd at h
  split at h
  · rename_i lv
    refine AF_run Sp145_ok D0 [] [.tmp 2] hm Tryz.func145 rfl (by decide) Tryz.ntmps145 rfl (by kernel_rfl) (Nat.le_of_ble_eq_true rfl) ?_; intro hlo
    by_cases hlv : 0 ≤ lv ∧ lv ≤ 4
    · have h2 : inB lv 0 4 = true := by simp [inB]; omega
      rcases lv5 hlv with rfl | rfl | rfl | rfl | rfl
      all_goals
        repeat' (first | with_reducible refine iteI (fun _ => ?_) (fun _ => ?_) | ((first | unfold AOpsC | unfold AOpsD | skip); simp (maxSteps := 1000000) (disch := (first | omega | assumption | (simp only [List.length_append, List.length_cons, List.length_nil, List.length_set]; omega))) only [go_sem, Sp145, SLev, h2, Int.reduceToNat, Nat.min_eq_left, Int.reducePow, IntKind.bits, Int.reduceMul, Int.reduceSub, Int.reduceAdd, Int.reduceFDiv, wrapU, Int.one_mul]))
        refine KI h ?_
        decide
    · have h2 : inB lv 0 4 = false := by simp [inB]; omega
      repeat' (first | with_reducible refine iteI (fun _ => ?_) (fun _ => ?_) | ((first | unfold AOpsC | unfold AOpsD | skip); simp (maxSteps := 1000000) (disch := (first | omega | assumption | (simp only [List.length_append, List.length_cons, List.length_nil, List.length_set]; omega))) only [go_sem, Sp145, SLev, h2]))
      exact KI h (if_neg hlv)
  · exact h.elim

/- spec.IdOk -/
def Sp107 (lo : Nat) : Spec := fun g args η K => match g with | 55 => SIn args η K | _ => False
theorem Sp107_ok {lo : Nat} : Sound Tryz.prog lo (Sp107 lo) := by
  intro g args η K h
  unfold Sp107 at h
  split at h
  · exact .inl (f55_ok h)
  · exact h.elim
theorem f107_ok {lo : Nat} {args : List AV} {η : List Blk} {K : AV → List Blk → Prop} (h : SId args η K) : AF Tryz.prog lo 107 args η K := by
  unfold SId at h
  split at h
  · rename_i r lv ix
    refine AF_run Sp107_ok D0 [] [.tmp 2] hm Tryz.func107 rfl (by decide) Tryz.ntmps107 rfl (by kernel_rfl) (Nat.le_of_ble_eq_true rfl) ?_; intro hlo
    cases h1 : inB r 0 7
    · repeat' (first | with_reducible refine iteI (fun _ => ?_) (fun _ => ?_) | ((first | unfold AOpsC | unfold AOpsD | skip); simp (maxSteps := 1000000) (disch := (first | omega | assumption | (simp only [List.length_append, List.length_cons, List.length_nil, List.length_set]; omega))) only [go_sem, Sp107, SIn, h1]))
      exact KB h (by simp [idB, h1])
    · by_cases hlv : 0 ≤ lv ∧ lv ≤ 4
      · have h2 : inB lv 0 4 = true := by simp [inB]; omega
        rcases lv5 hlv with rfl | rfl | rfl | rfl | rfl
        · have e : idB r 0 ix = inB ix 0 0 := by
            simp only [idB, h1, h2, Bool.true_and]
            rw [Bool.eq_iff_iff]
            simp [inB]
            try omega
          rw [e] at h
          cases h3 : inB ix 0 0
          · rw [h3] at h
            have h3' := inF h3
            by_cases h4 : 0 ≤ ix
            · repeat' (first | with_reducible refine iteI (fun _ => ?_) (fun _ => ?_) | ((first | unfold AOpsC | unfold AOpsD | skip); simp (maxSteps := 1000000) (disch := (first | omega | assumption | (simp only [List.length_append, List.length_cons, List.length_nil, List.length_set]; omega))) only [go_sem, Sp107, SIn, h1, h2, h3, Int.reduceToNat, Nat.min_eq_left, Int.reducePow, IntKind.bits, Int.reduceMul, Int.reduceSub, Int.reduceAdd, Int.reduceFDiv, wrapU, Int.one_mul]))
              exact h
            · repeat' (first | with_reducible refine iteI (fun _ => ?_) (fun _ => ?_) | ((first | unfold AOpsC | unfold AOpsD | skip); simp (maxSteps := 1000000) (disch := (first | omega | assumption | (simp only [List.length_append, List.length_cons, List.length_nil, List.length_set]; omega))) only [go_sem, Sp107, SIn, h1, h2, h3, Int.reduceToNat, Nat.min_eq_left, Int.reducePow, IntKind.bits, Int.reduceMul, Int.reduceSub, Int.reduceAdd, Int.reduceFDiv, wrapU, Int.one_mul]))
              exact h
          · rw [h3] at h
            have h3' := inT h3
            repeat' (first | with_reducible refine iteI (fun _ => ?_) (fun _ => ?_) | ((first | unfold AOpsC | unfold AOpsD | skip); simp (maxSteps := 1000000) (disch := (first | omega | assumption | (simp only [List.length_append, List.length_cons, List.length_nil, List.length_set]; omega))) only [go_sem, Sp107, SIn, h1, h2, h3, Int.reduceToNat, Nat.min_eq_left, Int.reducePow, IntKind.bits, Int.reduceMul, Int.reduceSub, Int.reduceAdd, Int.reduceFDiv, wrapU, Int.one_mul]))
            exact h
        · have e : idB r 1 ix = inB ix 0 1 := by
            simp only [idB, h1, h2, Bool.true_and]
            rw [Bool.eq_iff_iff]
            simp [inB]
            try omega
          rw [e] at h
          cases h3 : inB ix 0 1
          · rw [h3] at h
            have h3' := inF h3
            by_cases h4 : 0 ≤ ix
            · repeat' (first | with_reducible refine iteI (fun _ => ?_) (fun _ => ?_) | ((first | unfold AOpsC | unfold AOpsD | skip); simp (maxSteps := 1000000) (disch := (first | omega | assumption | (simp only [List.length_append, List.length_cons, List.length_nil, List.length_set]; omega))) only [go_sem, Sp107, SIn, h1, h2, h3, Int.reduceToNat, Nat.min_eq_left, Int.reducePow, IntKind.bits, Int.reduceMul, Int.reduceSub, Int.reduceAdd, Int.reduceFDiv, wrapU, Int.one_mul]))
              exact h
            · repeat' (first | with_reducible refine iteI (fun _ => ?_) (fun _ => ?_) | ((first | unfold AOpsC | unfold AOpsD | skip); simp (maxSteps := 1000000) (disch := (first | omega | assumption | (simp only [List.length_append, List.length_cons, List.length_nil, List.length_set]; omega))) only [go_sem, Sp107, SIn, h1, h2, h3, Int.reduceToNat, Nat.min_eq_left, Int.reducePow, IntKind.bits, Int.reduceMul, Int.reduceSub, Int.reduceAdd, Int.reduceFDiv, wrapU, Int.one_mul]))
              exact h
          · rw [h3] at h
            have h3' := inT h3
            repeat' (first | with_reducible refine iteI (fun _ => ?_) (fun _ => ?_) | ((first | unfold AOpsC | unfold AOpsD | skip); simp (maxSteps := 1000000) (disch := (first | omega | assumption | (simp only [List.length_append, List.length_cons, List.length_nil, List.length_set]; omega))) only [go_sem, Sp107, SIn, h1, h2, h3, Int.reduceToNat, Nat.min_eq_left, Int.reducePow, IntKind.bits, Int.reduceMul, Int.reduceSub, Int.reduceAdd, Int.reduceFDiv, wrapU, Int.one_mul]))
            exact h
        · have e : idB r 2 ix = inB ix 0 3 := by
            simp only [idB, h1, h2, Bool.true_and]
            rw [Bool.eq_iff_iff]
            simp [inB]
            try omega
          rw [e] at h
          cases h3 : inB ix 0 3
          · rw [h3] at h
            have h3' := inF h3
            by_cases h4 : 0 ≤ ix
            · repeat' (first | with_reducible refine iteI (fun _ => ?_) (fun _ => ?_) | ((first | unfold AOpsC | unfold AOpsD | skip); simp (maxSteps := 1000000) (disch := (first | omega | assumption | (simp only [List.length_append, List.length_cons, List.length_nil, List.length_set]; omega))) only [go_sem, Sp107, SIn, h1, h2, h3, Int.reduceToNat, Nat.min_eq_left, Int.reducePow, IntKind.bits, Int.reduceMul, Int.reduceSub, Int.reduceAdd, Int.reduceFDiv, wrapU, Int.one_mul]))
              exact h
            · repeat' (first | with_reducible refine iteI (fun _ => ?_) (fun _ => ?_) | ((first | unfold AOpsC | unfold AOpsD | skip); simp (maxSteps := 1000000) (disch := (first | omega | assumption | (simp only [List.length_append, List.length_cons, List.length_nil, List.length_set]; omega))) only [go_sem, Sp107, SIn, h1, h2, h3, Int.reduceToNat, Nat.min_eq_left, Int.reducePow, IntKind.bits, Int.reduceMul, Int.reduceSub, Int.reduceAdd, Int.reduceFDiv, wrapU, Int.one_mul]))
              exact h
          · rw [h3] at h
            have h3' := inT h3
            repeat' (first | with_reducible refine iteI (fun _ => ?_) (fun _ => ?_) | ((first | unfold AOpsC | unfold AOpsD | skip); simp (maxSteps := 1000000) (disch := (first | omega | assumption | (simp only [List.length_append, List.length_cons, List.length_nil, List.length_set]; omega))) only [go_sem, Sp107, SIn, h1, h2, h3, Int.reduceToNat, Nat.min_eq_left, Int.reducePow, IntKind.bits, Int.reduceMul, Int.reduceSub, Int.reduceAdd, Int.reduceFDiv, wrapU, Int.one_mul]))
            exact h
        · have e : idB r 3 ix = inB ix 0 7 := by
            simp only [idB, h1, h2, Bool.true_and]
            rw [Bool.eq_iff_iff]
            simp [inB]
            try omega
          rw [e] at h
          cases h3 : inB ix 0 7
          · rw [h3] at h
            have h3' := inF h3
            by_cases h4 : 0 ≤ ix
            · repeat' (first | with_reducible refine iteI (fun _ => ?_) (fun _ => ?_) | ((first | unfold AOpsC | unfold AOpsD | skip); simp (maxSteps := 1000000) (disch := (first | omega | assumption | (simp only [List.length_append, List.length_cons, List.length_nil, List.length_set]; omega))) only [go_sem, Sp107, SIn, h1, h2, h3, Int.reduceToNat, Nat.min_eq_left, Int.reducePow, IntKind.bits, Int.reduceMul, Int.reduceSub, Int.reduceAdd, Int.reduceFDiv, wrapU, Int.one_mul]))
              exact h
            · repeat' (first | with_reducible refine iteI (fun _ => ?_) (fun _ => ?_) | ((first | unfold AOpsC | unfold AOpsD | skip); simp (maxSteps := 1000000) (disch := (first | omega | assumption | (simp only [List.length_append, List.length_cons, List.length_nil, List.length_set]; omega))) only [go_sem, Sp107, SIn, h1, h2, h3, Int.reduceToNat, Nat.min_eq_left, Int.reducePow, IntKind.bits, Int.reduceMul, Int.reduceSub, Int.reduceAdd, Int.reduceFDiv, wrapU, Int.one_mul]))
              exact h
          · rw [h3] at h
            have h3' := inT h3
            repeat' (first | with_reducible refine iteI (fun _ => ?_) (fun _ => ?_) | ((first | unfold AOpsC | unfold AOpsD | skip); simp (maxSteps := 1000000) (disch := (first | omega | assumption | (simp only [List.length_append, List.length_cons, List.length_nil, List.length_set]; omega))) only [go_sem, Sp107, SIn, h1, h2, h3, Int.reduceToNat, Nat.min_eq_left, Int.reducePow, IntKind.bits, Int.reduceMul, Int.reduceSub, Int.reduceAdd, Int.reduceFDiv, wrapU, Int.one_mul]))
            exact h
        · have e : idB r 4 ix = inB ix 0 15 := by
            simp only [idB, h1, h2, Bool.true_and]
            rw [Bool.eq_iff_iff]
            simp [inB]
            try omega
          rw [e] at h
          cases h3 : inB ix 0 15
          · rw [h3] at h
            have h3' := inF h3
            by_cases h4 : 0 ≤ ix
            · repeat' (first | with_reducible refine iteI (fun _ => ?_) (fun _ => ?_) | ((first | unfold AOpsC | unfold AOpsD | skip); simp (maxSteps := 1000000) (disch := (first | omega | assumption | (simp only [List.length_append, List.length_cons, List.length_nil, List.length_set]; omega))) only [go_sem, Sp107, SIn, h1, h2, h3, Int.reduceToNat, Nat.min_eq_left, Int.reducePow, IntKind.bits, Int.reduceMul, Int.reduceSub, Int.reduceAdd, Int.reduceFDiv, wrapU, Int.one_mul]))
              exact h
            · repeat' (first | with_reducible refine iteI (fun _ => ?_) (fun _ => ?_) | ((first | unfold AOpsC | unfold AOpsD | skip); simp (maxSteps := 1000000) (disch := (first | omega | assumption | (simp only [List.length_append, List.length_cons, List.length_nil, List.length_set]; omega))) only [go_sem, Sp107, SIn, h1, h2, h3, Int.reduceToNat, Nat.min_eq_left, Int.reducePow, IntKind.bits, Int.reduceMul, Int.reduceSub, Int.reduceAdd, Int.reduceFDiv, wrapU, Int.one_mul]))
              exact h
          · rw [h3] at h
            have h3' := inT h3
            repeat' (first | with_reducible refine iteI (fun _ => ?_) (fun _ => ?_) | ((first | unfold AOpsC | unfold AOpsD | skip); simp (maxSteps := 1000000) (disch := (first | omega | assumption | (simp only [List.length_append, List.length_cons, List.length_nil, List.length_set]; omega))) only [go_sem, Sp107, SIn, h1, h2, h3, Int.reduceToNat, Nat.min_eq_left, Int.reducePow, IntKind.bits, Int.reduceMul, Int.reduceSub, Int.reduceAdd, Int.reduceFDiv, wrapU, Int.one_mul]))
            exact h
      · have h2 : inB lv 0 4 = false := by simp [inB]; omega
        repeat' (first | with_reducible refine iteI (fun _ => ?_) (fun _ => ?_) | ((first | unfold AOpsC | unfold AOpsD | skip); simp (maxSteps := 1000000) (disch := (first | omega | assumption | (simp only [List.length_append, List.length_cons, List.length_nil, List.length_set]; omega))) only [go_sem, Sp107, SIn, h1, h2]))
        exact KB h (by simp [idB, h2])
  · exact h.elim

/- impl.IdOk -/
def Sp116 (lo : Nat) : Spec := fun g args η K => match g with | 59 => SIn args η K | 144 => SLev args η K | _ => False
theorem Sp116_ok {lo : Nat} : Sound Tryz.prog lo (Sp116 lo) := by
  intro g args η K h
  unfold Sp116 at h
  split at h
  · exact .inl (f59_ok h)
  · exact .inl (f144_ok h)
  · exact h.elim
def Dr116 : Draws := fun id => match id with | 1 => ([0, 1, 3, 7, 15, 31, 63, 127, 255, 511, 1023, 511, 2559, 6655, 14847, 32767, 65535, 131071], [], [], (.one 0 (.one 1 (.one 2 (.one 3 (.one 4 (.one 5 (.one 6 (.one 7 (.one 8 (.one 9 (.one 10 (.one 11 (.one 12 (.one 13 (.one 14 (.one 15 (.one 16 (.one 17 .nil))))))))))))))))))) | _ => ([], [], [], .nil)
theorem f116_ok {lo : Nat} {args : List AV} {η : List Blk} {K : AV → List Blk → Prop} (h : SId args η K) : AF Tryz.prog lo 116 args η K := by
  unfold SId at h
  split at h
  · rename_i r lv ix
    refine AF_run Sp116_ok Dr116 [] [.tmp 2] hm Tryz.func116 rfl (by decide) Tryz.ntmps116 rfl (by kernel_rfl) (Nat.le_of_ble_eq_true rfl) ?_; intro hlo
    cases h1 : inB r 0 7
    · repeat' (first | with_reducible refine iteI (fun _ => ?_) (fun _ => ?_) | ((first | unfold AOpsC | unfold AOpsD | skip); simp (maxSteps := 1000000) (disch := (first | omega | assumption | (simp only [List.length_append, List.length_cons, List.length_nil, List.length_set]; omega))) only [go_sem, Sp116, SIn, SLev, Dr116, h1]))
      exact KB h (by simp [idB, h1])
    · by_cases hlv : 0 ≤ lv ∧ lv ≤ 4
      · have h2 : inB lv 0 4 = true := by simp [inB]; omega
        rcases lv5 hlv with rfl | rfl | rfl | rfl | rfl
        · have e : idB r 0 ix = inB ix 0 0 := by
            simp only [idB, h1, h2, Bool.true_and]
            rw [Bool.eq_iff_iff]
            simp [inB]
            try omega
          rw [e] at h
          cases h3 : inB ix 0 0
          · rw [h3] at h
            have h3' := inF h3
            by_cases h4 : 0 ≤ ix
            · repeat' (first | with_reducible refine iteI (fun _ => ?_) (fun _ => ?_) | ((first | unfold AOpsC | unfold AOpsD | skip); simp (maxSteps := 1000000) (disch := (first | omega | assumption | (simp only [List.length_append, List.length_cons, List.length_nil, List.length_set]; omega))) only [go_sem, Sp116, SIn, SLev, Dr116, h1, h2, h3, Int.reduceToNat, Nat.min_eq_left, Int.reducePow, IntKind.bits, Int.reduceMul, Int.reduceSub, Int.reduceAdd, Int.reduceFDiv, wrapU, Int.one_mul]))
              exact h
            · repeat' (first | with_reducible refine iteI (fun _ => ?_) (fun _ => ?_) | ((first | unfold AOpsC | unfold AOpsD | skip); simp (maxSteps := 1000000) (disch := (first | omega | assumption | (simp only [List.length_append, List.length_cons, List.length_nil, List.length_set]; omega))) only [go_sem, Sp116, SIn, SLev, Dr116, h1, h2, h3, Int.reduceToNat, Nat.min_eq_left, Int.reducePow, IntKind.bits, Int.reduceMul, Int.reduceSub, Int.reduceAdd, Int.reduceFDiv, wrapU, Int.one_mul]))
              exact h
          · rw [h3] at h
            have h3' := inT h3
            repeat' (first | with_reducible refine iteI (fun _ => ?_) (fun _ => ?_) | ((first | unfold AOpsC | unfold AOpsD | skip); simp (maxSteps := 1000000) (disch := (first | omega | assumption | (simp only [List.length_append, List.length_cons, List.length_nil, List.length_set]; omega))) only [go_sem, Sp116, SIn, SLev, Dr116, h1, h2, h3, Int.reduceToNat, Nat.min_eq_left, Int.reducePow, IntKind.bits, Int.reduceMul, Int.reduceSub, Int.reduceAdd, Int.reduceFDiv, wrapU, Int.one_mul]))
            exact h
        · have e : idB r 1 ix = inB ix 0 1 := by
            simp only [idB, h1, h2, Bool.true_and]
            rw [Bool.eq_iff_iff]
            simp [inB]
            try omega
          rw [e] at h
          cases h3 : inB ix 0 1
          · rw [h3] at h
            have h3' := inF h3
            by_cases h4 : 0 ≤ ix
            · repeat' (first | with_reducible refine iteI (fun _ => ?_) (fun _ => ?_) | ((first | unfold AOpsC | unfold AOpsD | skip); simp (maxSteps := 1000000) (disch := (first | omega | assumption | (simp only [List.length_append, List.length_cons, List.length_nil, List.length_set]; omega))) only [go_sem, Sp116, SIn, SLev, Dr116, h1, h2, h3, Int.reduceToNat, Nat.min_eq_left, Int.reducePow, IntKind.bits, Int.reduceMul, Int.reduceSub, Int.reduceAdd, Int.reduceFDiv, wrapU, Int.one_mul]))
              exact h
            · repeat' (first | with_reducible refine iteI (fun _ => ?_) (fun _ => ?_) | ((first | unfold AOpsC | unfold AOpsD | skip); simp (maxSteps := 1000000) (disch := (first | omega | assumption | (simp only [List.length_append, List.length_cons, List.length_nil, List.length_set]; omega))) only [go_sem, Sp116, SIn, SLev, Dr116, h1, h2, h3, Int.reduceToNat, Nat.min_eq_left, Int.reducePow, IntKind.bits, Int.reduceMul, Int.reduceSub, Int.reduceAdd, Int.reduceFDiv, wrapU, Int.one_mul]))
              exact h
          · rw [h3] at h
            have h3' := inT h3
            repeat' (first | with_reducible refine iteI (fun _ => ?_) (fun _ => ?_) | ((first | unfold AOpsC | unfold AOpsD | skip); simp (maxSteps := 1000000) (disch := (first | omega | assumption | (simp only [List.length_append, List.length_cons, List.length_nil, List.length_set]; omega))) only [go_sem, Sp116, SIn, SLev, Dr116, h1, h2, h3, Int.reduceToNat, Nat.min_eq_left, Int.reducePow, IntKind.bits, Int.reduceMul, Int.reduceSub, Int.reduceAdd, Int.reduceFDiv, wrapU, Int.one_mul]))
            exact h
        · have e : idB r 2 ix = inB ix 0 3 := by
            simp only [idB, h1, h2, Bool.true_and]
            rw [Bool.eq_iff_iff]
            simp [inB]
            try omega
          rw [e] at h
          cases h3 : inB ix 0 3
          · rw [h3] at h
            have h3' := inF h3
            by_cases h4 : 0 ≤ ix
            · repeat' (first | with_reducible refine iteI (fun _ => ?_) (fun _ => ?_) | ((first | unfold AOpsC | unfold AOpsD | skip); simp (maxSteps := 1000000) (disch := (first | omega | assumption | (simp only [List.length_append, List.length_cons, List.length_nil, List.length_set]; omega))) only [go_sem, Sp116, SIn, SLev, Dr116, h1, h2, h3, Int.reduceToNat, Nat.min_eq_left, Int.reducePow, IntKind.bits, Int.reduceMul, Int.reduceSub, Int.reduceAdd, Int.reduceFDiv, wrapU, Int.one_mul]))
              exact h
            · repeat' (first | with_reducible refine iteI (fun _ => ?_) (fun _ => ?_) | ((first | unfold AOpsC | unfold AOpsD | skip); simp (maxSteps := 1000000) (disch := (first | omega | assumption | (simp only [List.length_append, List.length_cons, List.length_nil, List.length_set]; omega))) only [go_sem, Sp116, SIn, SLev, Dr116, h1, h2, h3, Int.reduceToNat, Nat.min_eq_left, Int.reducePow, IntKind.bits, Int.reduceMul, Int.reduceSub, Int.reduceAdd, Int.reduceFDiv, wrapU, Int.one_mul]))
              exact h
          · rw [h3] at h
            have h3' := inT h3
            repeat' (first | with_reducible refine iteI (fun _ => ?_) (fun _ => ?_) | ((first | unfold AOpsC | unfold AOpsD | skip); simp (maxSteps := 1000000) (disch := (first | omega | assumption | (simp only [List.length_append, List.length_cons, List.length_nil, List.length_set]; omega))) only [go_sem, Sp116, SIn, SLev, Dr116, h1, h2, h3, Int.reduceToNat, Nat.min_eq_left, Int.reducePow, IntKind.bits, Int.reduceMul, Int.reduceSub, Int.reduceAdd, Int.reduceFDiv, wrapU, Int.one_mul]))
            exact h
        · have e : idB r 3 ix = inB ix 0 7 := by
            simp only [idB, h1, h2, Bool.true_and]
            rw [Bool.eq_iff_iff]
            simp [inB]
            try omega
          rw [e] at h
          cases h3 : inB ix 0 7
          · rw [h3] at h
            have h3' := inF h3
            by_cases h4 : 0 ≤ ix
            · repeat' (first | with_reducible refine iteI (fun _ => ?_) (fun _ => ?_) | ((first | unfold AOpsC | unfold AOpsD | skip); simp (maxSteps := 1000000) (disch := (first | omega | assumption | (simp only [List.length_append, List.length_cons, List.length_nil, List.length_set]; omega))) only [go_sem, Sp116, SIn, SLev, Dr116, h1, h2, h3, Int.reduceToNat, Nat.min_eq_left, Int.reducePow, IntKind.bits, Int.reduceMul, Int.reduceSub, Int.reduceAdd, Int.reduceFDiv, wrapU, Int.one_mul]))
              exact h
            · repeat' (first | with_reducible refine iteI (fun _ => ?_) (fun _ => ?_) | ((first | unfold AOpsC | unfold AOpsD | skip); simp (maxSteps := 1000000) (disch := (first | omega | assumption | (simp only [List.length_append, List.length_cons, List.length_nil, List.length_set]; omega))) only [go_sem, Sp116, SIn, SLev, Dr116, h1, h2, h3, Int.reduceToNat, Nat.min_eq_left, Int.reducePow, IntKind.bits, Int.reduceMul, Int.reduceSub, Int.reduceAdd, Int.reduceFDiv, wrapU, Int.one_mul]))
              exact h
          · rw [h3] at h
            have h3' := inT h3
            repeat' (first | with_reducible refine iteI (fun _ => ?_) (fun _ => ?_) | ((first | unfold AOpsC | unfold AOpsD | skip); simp (maxSteps := 1000000) (disch := (first | omega | assumption | (simp only [List.length_append, List.length_cons, List.length_nil, List.length_set]; omega))) only [go_sem, Sp116, SIn, SLev, Dr116, h1, h2, h3, Int.reduceToNat, Nat.min_eq_left, Int.reducePow, IntKind.bits, Int.reduceMul, Int.reduceSub, Int.reduceAdd, Int.reduceFDiv, wrapU, Int.one_mul]))
            exact h
        · have e : idB r 4 ix = inB ix 0 15 := by
            simp only [idB, h1, h2, Bool.true_and]
            rw [Bool.eq_iff_iff]
            simp [inB]
            try omega
          rw [e] at h
          cases h3 : inB ix 0 15
          · rw [h3] at h
            have h3' := inF h3
            by_cases h4 : 0 ≤ ix
            · repeat' (first | with_reducible refine iteI (fun _ => ?_) (fun _ => ?_) | ((first | unfold AOpsC | unfold AOpsD | skip); simp (maxSteps := 1000000) (disch := (first | omega | assumption | (simp only [List.length_append, List.length_cons, List.length_nil, List.length_set]; omega))) only [go_sem, Sp116, SIn, SLev, Dr116, h1, h2, h3, Int.reduceToNat, Nat.min_eq_left, Int.reducePow, IntKind.bits, Int.reduceMul, Int.reduceSub, Int.reduceAdd, Int.reduceFDiv, wrapU, Int.one_mul]))
              exact h
            · repeat' (first | with_reducible refine iteI (fun _ => ?_) (fun _ => ?_) | ((first | unfold AOpsC | unfold AOpsD | skip); simp (maxSteps := 1000000) (disch := (first | omega | assumption | (simp only [List.length_append, List.length_cons, List.length_nil, List.length_set]; omega))) only [go_sem, Sp116, SIn, SLev, Dr116, h1, h2, h3, Int.reduceToNat, Nat.min_eq_left, Int.reducePow, IntKind.bits, Int.reduceMul, Int.reduceSub, Int.reduceAdd, Int.reduceFDiv, wrapU, Int.one_mul]))
              exact h
          · rw [h3] at h
            have h3' := inT h3
            repeat' (first | with_reducible refine iteI (fun _ => ?_) (fun _ => ?_) | ((first | unfold AOpsC | unfold AOpsD | skip); simp (maxSteps := 1000000) (disch := (first | omega | assumption | (simp only [List.length_append, List.length_cons, List.length_nil, List.length_set]; omega))) only [go_sem, Sp116, SIn, SLev, Dr116, h1, h2, h3, Int.reduceToNat, Nat.min_eq_left, Int.reducePow, IntKind.bits, Int.reduceMul, Int.reduceSub, Int.reduceAdd, Int.reduceFDiv, wrapU, Int.one_mul]))
            exact h
      · have h2 : inB lv 0 4 = false := by simp [inB]; omega
        repeat' (first | with_reducible refine iteI (fun _ => ?_) (fun _ => ?_) | ((first | unfold AOpsC | unfold AOpsD | skip); simp (maxSteps := 1000000) (disch := (first | omega | assumption | (simp only [List.length_append, List.length_cons, List.length_nil, List.length_set]; omega))) only [go_sem, Sp116, SIn, SLev, Dr116, h1, h2]))
        exact KB h (by simp [idB, h2])
  · exact h.elim

/- spec.StartOf -/
def Sp108 (lo : Nat) : Spec := fun g args η K => match g with | 107 => SId args η K | 142 => SWd args η K | _ => False
theorem Sp108_ok {lo : Nat} : Sound Tryz.prog lo (Sp108 lo) := by
  intro g args η K h
  unfold Sp108 at h
  split at h
  · exact .inl (f107_ok h)
  · exact .inl (f142_ok h)
  · exact h.elim
def Dr108 : Draws := fun id => match id with | 3 => ([0, 1, 3, 0, 8, 0, 32, 96, 248, 511, 1023], [7], [], (.one 0 (.one 1 (.one 2 (.one 3 (.one 4 (.one 5 (.one 6 (.one 7 (.one 8 (.one 9 (.one 10 .nil)))))))))))) | _ => ([], [], [], .nil)
theorem f108_ok {lo : Nat} {args : List AV} {η : List Blk} {K : AV → List Blk → Prop} (h : SSt args η K) : AF Tryz.prog lo 108 args η K := by
  unfold SSt at h
  split at h
  · rename_i r lv ix
    refine AF_run Sp108_ok Dr108 [] [.tmp 2] hm Tryz.func108 rfl (by decide) Tryz.ntmps108 rfl (by kernel_rfl) (Nat.le_of_ble_eq_true rfl) ?_; intro hlo
    cases h1 : idB r lv ix
    · repeat' (first | with_reducible refine iteI (fun _ => ?_) (fun _ => ?_) | ((first | unfold AOpsC | unfold AOpsD | skip); simp (maxSteps := 1000000) (disch := (first | omega | assumption | (simp only [List.length_append, List.length_cons, List.length_nil, List.length_set]; omega))) only [go_sem, Sp108, SId, SWd, Dr108, h1]))
      exact KI h (by simp [stI, h1])
    · have hb := id_bd h1
      repeat' (first | with_reducible refine iteI (fun _ => ?_) (fun _ => ?_) | ((first | unfold AOpsC | unfold AOpsD | skip); simp (maxSteps := 1000000) (disch := (first | omega | assumption | (simp only [List.length_append, List.length_cons, List.length_nil, List.length_set]; omega))) only [go_sem, Sp108, SId, SWd, Dr108, h1]))
      exact KI h (by simp [stI, h1])
  · exact h.elim

/- impl.StartOf -/
def Sp117 (lo : Nat) : Spec := fun g args η K => match g with | 116 => SId args η K | 145 => SWd args η K | _ => False
theorem Sp117_ok {lo : Nat} : Sound Tryz.prog lo (Sp117 lo) := by
  intro g args η K h
  unfold Sp117 at h
  split at h
  · exact .inl (f116_ok h)
  · exact .inl (f145_ok h)
  · exact h.elim
def Dr117 : Draws := fun id => match id with | 3 => ([0, 1, 3, 0, 8, 0, 32, 96, 248, 511, 1023], [7], [], (.one 0 (.one 1 (.one 2 (.one 3 (.one 4 (.one 5 (.one 6 (.one 7 (.one 8 (.one 9 (.one 10 .nil)))))))))))) | _ => ([], [], [], .nil)
theorem f117_ok {lo : Nat} {args : List AV} {η : List Blk} {K : AV → List Blk → Prop} (h : SSt args η K) : AF Tryz.prog lo 117 args η K := by
  unfold SSt at h
  split at h
  · rename_i r lv ix
    refine AF_run Sp117_ok Dr117 [] [.tmp 2] hm Tryz.func117 rfl (by decide) Tryz.ntmps117 rfl (by kernel_rfl) (Nat.le_of_ble_eq_true rfl) ?_; intro hlo
    cases h1 : idB r lv ix
    · repeat' (first | with_reducible refine iteI (fun _ => ?_) (fun _ => ?_) | ((first | unfold AOpsC | unfold AOpsD | skip); simp (maxSteps := 1000000) (disch := (first | omega | assumption | (simp only [List.length_append, List.length_cons, List.length_nil, List.length_set]; omega))) only [go_sem, Sp117, SId, SWd, Dr117, h1]))
      exact KI h (by simp [stI, h1])
    · have hb := id_bd h1
      repeat' (first | with_reducible refine iteI (fun _ => ?_) (fun _ => ?_) | ((first | unfold AOpsC | unfold AOpsD | skip); simp (maxSteps := 1000000) (disch := (first | omega | assumption | (simp only [List.length_append, List.length_cons, List.length_nil, List.length_set]; omega))) only [go_sem, Sp117, SId, SWd, Dr117, h1]))
      exact KI h (by simp [stI, h1])
  · exact h.elim

/- spec.l04End -/
def Sp109 (lo : Nat) : Spec := fun g args η K => match g with | 108 => SSt args η K | 142 => SWd args η K | _ => False
theorem Sp109_ok {lo : Nat} : Sound Tryz.prog lo (Sp109 lo) := by
  intro g args η K h
  unfold Sp109 at h
  split at h
  · exact .inl (f108_ok h)
  · exact .inl (f142_ok h)
  · exact h.elim
def Dr109 : Draws := fun id => match id with | 1 => ([0, 1, 0, 4, 15, 31, 63], [1], [], (.one 0 (.one 2 (.one 3 (.one 1 (.one 4 (.one 5 (.one 6 .nil)))))))) | _ => ([], [], [], .nil)
theorem f109_ok {lo : Nat} {args : List AV} {η : List Blk} {K : AV → List Blk → Prop} (h : SEn args η K) : AF Tryz.prog lo 109 args η K := by
  unfold SEn at h
  split at h
  · rename_i r lv ix
    have b1 := st_bd r lv ix
    have b2 := wd_bd lv
    refine AF_run Sp109_ok Dr109 [] [.tmp 2] hm Tryz.func109 rfl (by decide) Tryz.ntmps109 rfl (by kernel_rfl) (Nat.le_of_ble_eq_true rfl) ?_; intro hlo
    repeat' (first | with_reducible refine iteI (fun _ => ?_) (fun _ => ?_) | ((first | unfold AOpsC | unfold AOpsD | skip); simp (maxSteps := 1000000) (disch := (first | omega | assumption | (simp only [List.length_append, List.length_cons, List.length_nil, List.length_set]; omega))) only [go_sem, Sp109, SSt, SWd, Dr109]))
    exact h
  · exact h.elim

/- impl.endOf -/
def Sp118 (lo : Nat) : Spec := fun g args η K => match g with | 117 => SSt args η K | 145 => SWd args η K | _ => False
theorem Sp118_ok {lo : Nat} : Sound Tryz.prog lo (Sp118 lo) := by
  intro g args η K h
  unfold Sp118 at h
  split at h
  · exact .inl (f117_ok h)
  · exact .inl (f145_ok h)
  · exact h.elim
def Dr118 : Draws := fun id => match id with | 1 => ([0, 1, 0, 4, 15, 31, 63], [1], [], (.one 0 (.one 2 (.one 3 (.one 1 (.one 4 (.one 5 (.one 6 .nil)))))))) | _ => ([], [], [], .nil)
theorem f118_ok {lo : Nat} {args : List AV} {η : List Blk} {K : AV → List Blk → Prop} (h : SEn args η K) : AF Tryz.prog lo 118 args η K := by
  unfold SEn at h
  split at h
  · rename_i r lv ix
    have b1 := st_bd r lv ix
    have b2 := wd_bd lv
    refine AF_run Sp118_ok Dr118 [] [.tmp 2] hm Tryz.func118 rfl (by decide) Tryz.ntmps118 rfl (by kernel_rfl) (Nat.le_of_ble_eq_true rfl) ?_; intro hlo
    repeat' (first | with_reducible refine iteI (fun _ => ?_) (fun _ => ?_) | ((first | unfold AOpsC | unfold AOpsD | skip); simp (maxSteps := 1000000) (disch := (first | omega | assumption | (simp only [List.length_append, List.length_cons, List.length_nil, List.length_set]; omega))) only [go_sem, Sp118, SSt, SWd, Dr118]))
    exact h
  · exact h.elim

def idT (x : Id3) : Bool := idB x.1 x.2.1 x.2.2
def meshAt : Int → List Id3 → Option Int
  | a, [] => some a
  | a, x :: l => if idT x = true ∧ stI x.1 x.2.1 x.2.2 = a then meshAt (enI x.1 x.2.1 x.2.2) l else none
theorem meshAt_app (x : Id3) : ∀ (l : List Id3) (a : Int), meshAt a (l ++ [x]) = (meshAt a l).bind fun b => if idT x = true ∧ stI x.1 x.2.1 x.2.2 = b then some (enI x.1 x.2.1 x.2.2) else none
  | [], a => by simp only [List.nil_append, meshAt, Option.bind_some]
  | y :: l, a => by
    simp only [List.cons_append, meshAt]
    split
    · exact meshAt_app x l _
    · rfl
theorem meshAt_none : ∀ (l m : List Id3) (a : Int), meshAt a l = none → meshAt a (l ++ m) = none
  | [], m, a, h => by simp [meshAt] at h
  | y :: l, m, a, h => by
    simp only [List.cons_append, meshAt] at h ⊢
    split
    · rename_i hc; rw [if_pos hc] at h; exact meshAt_none l m _ h
    · rfl
theorem meshAt_step {l : List Id3} {i : Nat} {a : Int} (hi : i < l.length) (h : meshAt 0 (l.take i) = some a) :
    meshAt 0 (l.take (i + 1)) = if idT (l.getD i z3) = true ∧ stI (l.getD i z3).1 (l.getD i z3).2.1 (l.getD i z3).2.2 = a then some (enI (l.getD i z3).1 (l.getD i z3).2.1 (l.getD i z3).2.2) else none := by
  rw [take1 (d := z3) hi, meshAt_app, h]; rfl
theorem meshAt_bad {l : List Id3} {i : Nat} (h : meshAt 0 (l.take i) = none) : meshAt 0 l = none := by
  have := meshAt_none (l.take i) (l.drop i) 0 h
  rwa [List.take_append_drop] at this
def meshB (r : Int) (l : List Id3) : Bool := match meshAt 0 l with
  | some a => inB r 1 8 && decide (a = r * 16)
  | none => false
def SMesh : List AV → List Blk → (AV → List Blk → Prop) → Prop
  | [.agg [.int .i64 r, v]], η, K => ok3 69 η v ∧ K (.bool (meshB r (dec3 69 η v))) η
  | _, _, _ => False

def invspecMeshOk (η : List Blk) (r : Int) (l : List Id3) (v : AV) (st : St) : Prop := ∃ i : Nat, ∃ a : Int, (i ≤ l.length) ∧ (meshAt 0 (l.take i) = some a) ∧ st.n = 45 ∧ st.τ 1 = .loc 1 1 0 ∧ st.τ 3 = .int .i64 a ∧ st.τ 4 = .int .i64 i ∧ st.lam 1 = ⟨1, [.int .i64 r, v]⟩ ∧ st.η = η

/- spec.MeshOk -/
def Sp65 (lo : Nat) : Spec := fun g args η K => match g with | 55 => SIn args η K | 107 => SId args η K | 108 => SSt args η K | 109 => SEn args η K | _ => False
theorem Sp65_ok {lo : Nat} : Sound Tryz.prog lo (Sp65 lo) := by
  intro g args η K h
  unfold Sp65 at h
  split at h
  · exact .inl (f55_ok h)
  · exact .inl (f107_ok h)
  · exact .inl (f108_ok h)
  · exact .inl (f109_ok h)
  · exact h.elim
theorem f65_ok {lo : Nat} {args : List AV} {η : List Blk} {K : AV → List Blk → Prop} (h : SMesh args η K) : AF Tryz.prog lo 65 args η K := by
  unfold SMesh at h
  split at h
  · obtain ⟨⟨l, hr, hl⟩, hK⟩ := h
    rw [hr.dec3] at hK
    obtain ⟨b, ver, rfl, hb⟩ := hr
    rename_i r
    refine AF_run Sp65_ok D0 [] [.tmp 2] hm Tryz.func65 rfl (by decide) Tryz.ntmps65 rfl (by kernel_rfl) (Nat.le_of_ble_eq_true rfl) ?_; intro hlo
    repeat' (first | with_reducible refine iteI (fun _ => ?_) (fun _ => ?_) | ((first | unfold AOpsC | unfold AOpsD | skip); simp (maxSteps := 1000000) (disch := (first | omega | assumption | (simp only [List.length_append, List.length_cons, List.length_nil, List.length_set]; omega))) only [go_sem, Sp65, SIn, SId, SSt, SEn, hb]))
    refine ⟨invspecMeshOk η r l (.sl b ver 0 l.length), fun st => ctr l.length st 4, .inl ⟨0, 0, Nat.zero_le _, rfl, rfl, (by first | (simp [upd]; done) | (simp [upd, *]; done) | rfl), (by first | (simp [upd]; done) | (simp [upd, *]; done) | rfl), (by first | (simp [upd]; done) | (simp [upd, *]; done) | rfl), (by first | (simp [upd]; done) | (simp [upd, *]; done) | rfl), rfl⟩, ?_⟩
    rintro ⟨n, τ, lam, η'⟩ ⟨i, a, g0, g1, hn, t1, t3, t4, l1, hη⟩; simp only at hn t1 t3 t4 l1 hη; subst hn hη
    by_cases hlt : i < l.length
    · have hst := meshAt_step hlt g1
      have bad : meshAt 0 (l.take (i + 1)) = none → K (.bool false) η' := fun e => KB hK (by rw [meshB, meshAt_bad e])
      by_cases hc : idT (l.getD i z3) = true ∧ stI (l.getD i z3).1 (l.getD i z3).2.1 (l.getD i z3).2.2 = a
      · rw [if_pos hc] at hst
        obtain ⟨h1, h2⟩ := hc
        simp only [idT, z3] at h1 h2 hst
        repeat' (first | with_reducible refine iteI (fun _ => ?_) (fun _ => ?_) | ((first | unfold AOpsC | unfold AOpsD | skip); simp (maxSteps := 1000000) (disch := (first | omega | assumption | (simp only [List.length_append, List.length_cons, List.length_nil, List.length_set]; omega))) only [go_sem, Sp65, SIn, SId, SSt, SEn, hb, t1, t3, t4, l1, h1, h2]))
        refine ⟨⟨i + 1, _, hlt, hst, rfl, (by simp [upd, t1, t3, t4]), (by simp [upd, t1, t3, t4]), (by simp [upd, t1, t3, t4]), (by simp [upd, l1]), rfl⟩, (by simp [ctr, upd, t1, t3, t4]; omega)⟩
      · rw [if_neg hc] at hst
        cases h1 : idT (l.getD i z3)
        · simp only [idT, z3] at h1
          repeat' (first | with_reducible refine iteI (fun _ => ?_) (fun _ => ?_) | ((first | unfold AOpsC | unfold AOpsD | skip); simp (maxSteps := 1000000) (disch := (first | omega | assumption | (simp only [List.length_append, List.length_cons, List.length_nil, List.length_set]; omega))) only [go_sem, Sp65, SIn, SId, SSt, SEn, hb, t1, t3, t4, l1, h1]))
          exact bad hst
        · have h2 : ¬ stI (l.getD i z3).1 (l.getD i z3).2.1 (l.getD i z3).2.2 = a := fun e => hc ⟨h1, e⟩
          simp only [idT, z3] at h1 h2
          repeat' (first | with_reducible refine iteI (fun _ => ?_) (fun _ => ?_) | ((first | unfold AOpsC | unfold AOpsD | skip); simp (maxSteps := 1000000) (disch := (first | omega | assumption | (simp only [List.length_append, List.length_cons, List.length_nil, List.length_set]; omega))) only [go_sem, Sp65, SIn, SId, SSt, SEn, hb, t1, t3, t4, l1, h1, h2]))
          exact bad hst
    · rw [takeAll (by omega)] at g1
      have e : meshB r l = (inB r 1 8 && decide (a = r * 16)) := by rw [meshB, g1]
      rw [e] at hK
      by_cases hr : 1 ≤ r ∧ r ≤ 8
      · have h1 : inB r 1 8 = true := by simp [inB]; omega
        rw [h1, Bool.true_and] at hK
        repeat' (first | with_reducible refine iteI (fun _ => ?_) (fun _ => ?_) | ((first | unfold AOpsC | unfold AOpsD | skip); simp (maxSteps := 1000000) (disch := (first | omega | assumption | (simp only [List.length_append, List.length_cons, List.length_nil, List.length_set]; omega))) only [go_sem, Sp65, SIn, SId, SSt, SEn, hb, t1, t3, t4, l1, h1]))
        exact hK
      · have h1 : inB r 1 8 = false := by simp [inB]; omega
        rw [h1, Bool.false_and] at hK
        repeat' (first | with_reducible refine iteI (fun _ => ?_) (fun _ => ?_) | ((first | unfold AOpsC | unfold AOpsD | skip); simp (maxSteps := 1000000) (disch := (first | omega | assumption | (simp only [List.length_append, List.length_cons, List.length_nil, List.length_set]; omega))) only [go_sem, Sp65, SIn, SId, SSt, SEn, hb, t1, t3, t4, l1, h1]))
        exact hK
  · exact h.elim

def invimplMeshOk (η : List Blk) (r : Int) (l : List Id3) (v : AV) (st : St) : Prop := ∃ i : Nat, ∃ a : Int, (i ≤ l.length) ∧ (meshAt 0 (l.take i) = some a) ∧ st.n = 35 ∧ st.τ 1 = .loc 1 1 0 ∧ st.τ 3 = .int .i64 a ∧ st.τ 7 = v ∧ st.τ 8 = .int .i64 l.length ∧ st.τ 9 = .int .i64 i ∧ st.lam 1 = ⟨1, [.int .i64 r, v]⟩ ∧ st.η = η

/- impl.MeshOk -/
def Sp76 (lo : Nat) : Spec := fun g args η K => match g with | 59 => SIn args η K | 116 => SId args η K | 117 => SSt args η K | 118 => SEn args η K | _ => False
theorem Sp76_ok {lo : Nat} : Sound Tryz.prog lo (Sp76 lo) := by
  intro g args η K h
  unfold Sp76 at h
  split at h
  · exact .inl (f59_ok h)
  · exact .inl (f116_ok h)
  · exact .inl (f117_ok h)
  · exact .inl (f118_ok h)
  · exact h.elim
theorem f76_ok {lo : Nat} {args : List AV} {η : List Blk} {K : AV → List Blk → Prop} (h : SMesh args η K) : AF Tryz.prog lo 76 args η K := by
  unfold SMesh at h
  split at h
  · obtain ⟨⟨l, hr, hl⟩, hK⟩ := h
    rw [hr.dec3] at hK
    obtain ⟨b, ver, rfl, hb⟩ := hr
    rename_i r
    refine AF_run Sp76_ok D0 [] [.tmp 2] hm Tryz.func76 rfl (by decide) Tryz.ntmps76 rfl (by kernel_rfl) (Nat.le_of_ble_eq_true rfl) ?_; intro hlo
    repeat' (first | with_reducible refine iteI (fun _ => ?_) (fun _ => ?_) | ((first | unfold AOpsC | unfold AOpsD | skip); simp (maxSteps := 1000000) (disch := (first | omega | assumption | (simp only [List.length_append, List.length_cons, List.length_nil, List.length_set]; omega))) only [go_sem, Sp76, SIn, SId, SSt, SEn, hb]))
    refine ⟨invimplMeshOk η r l (.sl b ver 0 l.length), fun st => ctr l.length st 9, .inl ⟨0, 0, Nat.zero_le _, rfl, rfl, (by first | (simp [upd]; done) | (simp [upd, *]; done) | rfl), (by first | (simp [upd]; done) | (simp [upd, *]; done) | rfl), (by first | (simp [upd]; done) | (simp [upd, *]; done) | rfl), (by first | (simp [upd]; done) | (simp [upd, *]; done) | rfl), (by first | (simp [upd]; done) | (simp [upd, *]; done) | rfl), (by first | (simp [upd]; done) | (simp [upd, *]; done) | rfl), rfl⟩, ?_⟩
    rintro ⟨n, τ, lam, η'⟩ ⟨i, a, g0, g1, hn, t1, t3, t7, t8, t9, l1, hη⟩; simp only at hn t1 t3 t7 t8 t9 l1 hη; subst hn hη
    by_cases hlt : i < l.length
    · have hst := meshAt_step hlt g1
      have bad : meshAt 0 (l.take (i + 1)) = none → K (.bool false) η' := fun e => KB hK (by rw [meshB, meshAt_bad e])
      by_cases hc : idT (l.getD i z3) = true ∧ stI (l.getD i z3).1 (l.getD i z3).2.1 (l.getD i z3).2.2 = a
      · rw [if_pos hc] at hst
        obtain ⟨h1, h2⟩ := hc
        simp only [idT, z3] at h1 h2 hst
        repeat' (first | with_reducible refine iteI (fun _ => ?_) (fun _ => ?_) | ((first | unfold AOpsC | unfold AOpsD | skip); simp (maxSteps := 1000000) (disch := (first | omega | assumption | (simp only [List.length_append, List.length_cons, List.length_nil, List.length_set]; omega))) only [go_sem, Sp76, SIn, SId, SSt, SEn, hb, t1, t3, t7, t8, t9, l1, h1, h2]))
        refine ⟨⟨i + 1, _, hlt, hst, rfl, (by simp [upd, t1, t3, t7, t8, t9]), (by simp [upd, t1, t3, t7, t8, t9]), (by simp [upd, t1, t3, t7, t8, t9]), (by simp [upd, t1, t3, t7, t8, t9]), (by simp [upd, t1, t3, t7, t8, t9]), (by simp [upd, l1]), rfl⟩, (by simp [ctr, upd, t1, t3, t7, t8, t9]; omega)⟩
      · rw [if_neg hc] at hst
        cases h1 : idT (l.getD i z3)
        · simp only [idT, z3] at h1
          repeat' (first | with_reducible refine iteI (fun _ => ?_) (fun _ => ?_) | ((first | unfold AOpsC | unfold AOpsD | skip); simp (maxSteps := 1000000) (disch := (first | omega | assumption | (simp only [List.length_append, List.length_cons, List.length_nil, List.length_set]; omega))) only [go_sem, Sp76, SIn, SId, SSt, SEn, hb, t1, t3, t7, t8, t9, l1, h1]))
          exact bad hst
        · have h2 : ¬ stI (l.getD i z3).1 (l.getD i z3).2.1 (l.getD i z3).2.2 = a := fun e => hc ⟨h1, e⟩
          simp only [idT, z3] at h1 h2
          repeat' (first | with_reducible refine iteI (fun _ => ?_) (fun _ => ?_) | ((first | unfold AOpsC | unfold AOpsD | skip); simp (maxSteps := 1000000) (disch := (first | omega | assumption | (simp only [List.length_append, List.length_cons, List.length_nil, List.length_set]; omega))) only [go_sem, Sp76, SIn, SId, SSt, SEn, hb, t1, t3, t7, t8, t9, l1, h1, h2]))
          exact bad hst
    · rw [takeAll (by omega)] at g1
      have e : meshB r l = (inB r 1 8 && decide (a = r * 16)) := by rw [meshB, g1]
      rw [e] at hK
      by_cases hr : 1 ≤ r ∧ r ≤ 8
      · have h1 : inB r 1 8 = true := by simp [inB]; omega
        rw [h1, Bool.true_and] at hK
        repeat' (first | with_reducible refine iteI (fun _ => ?_) (fun _ => ?_) | ((first | unfold AOpsC | unfold AOpsD | skip); simp (maxSteps := 1000000) (disch := (first | omega | assumption | (simp only [List.length_append, List.length_cons, List.length_nil, List.length_set]; omega))) only [go_sem, Sp76, SIn, SId, SSt, SEn, hb, t1, t3, t7, t8, t9, l1, h1]))
        exact hK
      · have h1 : inB r 1 8 = false := by simp [inB]; omega
        rw [h1, Bool.false_and] at hK
        repeat' (first | with_reducible refine iteI (fun _ => ?_) (fun _ => ?_) | ((first | unfold AOpsC | unfold AOpsD | skip); simp (maxSteps := 1000000) (disch := (first | omega | assumption | (simp only [List.length_append, List.length_cons, List.length_nil, List.length_set]; omega))) only [go_sem, Sp76, SIn, SId, SSt, SEn, hb, t1, t3, t7, t8, t9, l1, h1]))
        exact hK
  · exact h.elim

end Go.Proofs.YtaalpmbopkbdiaaGreat
