/- What functions of the program compute, said in the abstract logic; no conditions. -/
import Derived.Test.YtaalpmbopkbdiaaGreatGBordP
import Derived.Test.YtaalpmbopkbdiaaGreatGDry
import Derived.Test.YtaalpmbopkbdiaaGreatGDecay

namespace Go.Proofs.YtaalpmbopkbdiaaGreat
open Go
set_option linter.unusedSimpArgs false
set_option linter.unusedVariables false
set_option maxRecDepth 100000
set_option maxHeartbeats 8000000
attribute [local go_sem] st0 AC thenA andC locLoadB KsSW_same KsSW_grow oldLoadB noBlkB KsSL_same KsOS_same KsOS_grow pv ev put upd dstOk cv cvc binI setB Value.oneCell' EndA resA resA1 List.mapM_cons List.mapM_nil Option.pure_def Option.bind_eq_bind noLocV noLoc1 noLoc noLocs plainV cellsA newVarA putCells condA lam0 inBlockA cur lenA rowA writeA dstA appendC appendZ mapPut mapGet avoidsB avoidB clearB Array.toList_append Op.operands Call.operands newSlot Nat.zero_add Nat.add_zero Nat.succ_ne_self Nat.lt_add_one Nat.zero_lt_succ true_and and_true true_or or_true false_or or_false and_self true_implies forall_const Bool.false_eq_true Bool.true_eq_false false_implies implies_true imp_self ne_eq not_false_eq_true not_true_eq_false false_and and_false List.getElem?_toArray List.getElem?_cons_succ List.getElem?_cons_zero Option.bind_some Option.map_some Bool.not_true Bool.not_false List.getD_cons_zero List.getD_cons_succ Option.some.injEq exists_eq_left' AV.bool.injEq List.map_cons List.map_nil List.all_cons List.all_nil Bool.and_self Bool.and_true Bool.true_and List.append_nil List.cons_append List.nil_append List.length_cons List.length_nil List.drop_zero List.take_zero List.drop_succ_cons List.take_succ_cons List.take_nil List.drop_nil List.not_mem_nil List.mem_cons List.contains_nil List.contains_cons Bool.or_self Bool.or_true Bool.true_or Bool.false_or Bool.or_false Bool.and_false Bool.false_and KsS_same KsS_grow skipV KsS_ext KsSW_ext KsOS_ext rep1 rep2 rep3 rep4 rep5 List.flatten_cons List.flatten_nil partsA isPtr fillA List.size_toArray ltT ltF leT leF ltTn ltFn leTn leFn eqTi eqFi wrapId toNat1 intGet boolGet memD app_get app_last app_lst app_set app_setL app_setF set_ne set_eq gt_iff_lt ge_iff_le decide_eq_true_eq len2 len3 get20 get21 drop2 put2 get30 get31 get32 drop3 put3 putI pairEta bneTi bneFi beqTi beqFi bne_eq_false_iff_eq beq_eq_false_iff_ne beq_iff_eq bne_iff_ne Int.toNat_natCast Nat.mul_one List.length_map Bool.not_eq_true Bool.not_eq_false Bool.decide_eq_true decide_true decide_false Bool.not_eq_true' Bool.not_eq_false' decide_eq_false_iff_not eq_self Decidable.not_not
attribute [local go_sem ↓] skipC exitC retC seqC blockC condC regC drawC drawStep AOpC AOpF AOpE AEff contE_at contC_at keepC_at keepW_at keepO_at keepL_at map_parts
attribute [local go_sem] reduceCtorEq Nat.reduceLT Nat.reduceEqDiff Nat.reduceAdd Nat.reduceMul Nat.reduceLeDiff Nat.reduceSub Nat.reduceBEq Nat.reduceBNe Nat.reduceBneDiff Nat.reduceBeqDiff
attribute [local go_sem ↓] reduceIte
attribute [local go_sem] ag_3 ag_47 ag_49 ag_54 ag_56 by_3 by_47 by_49 by_54 by_56 en_3 fi_47_0 fi_47_1 fi_47_2 fi_49_0 fi_49_1 fi_49_2 fi_49_3 fi_49_4 fi_49_5 fi_49_6 fi_54_0 fi_54_1 fi_54_2 fi_56_0 fi_56_1 fi_56_2 fi_56_3 fi_56_4 fi_56_5 fi_56_6 in_3 nf_47 nf_49 nf_54 nf_56 pl_47 pl_49 pl_54 pl_56 ps_47 ps_49 ps_54 ps_56 sz_3 sz_47 sz_49 sz_54 sz_56 ze_3 ze_47 ze_49 ze_54 ze_56

def planB (a b c d e f g h i : Int) : Bool := borderB a b c && inB d 0 10000 && inB e 0 10000 && inB f 0 1000 && inB g 0 1000000 && inB h 0 1000000 && inB i 0 100
theorem planT {a b c d e f g h i : Int} (hp : planB a b c d e f g h i = true) : brdP a b c ∧ (0 ≤ d ∧ d ≤ 10000) ∧ (0 ≤ e ∧ e ≤ 10000) ∧ (0 ≤ f ∧ f ≤ 1000) ∧ (0 ≤ i ∧ i ≤ 100) := by
  simp only [planB, Bool.and_eq_true] at hp
  obtain ⟨⟨⟨⟨⟨⟨h1, h2⟩, h3⟩, h4⟩, _⟩, _⟩, h7⟩ := hp
  exact ⟨brdT h1, inT h2, inT h3, inT h4, inT h7⟩
def SPlan : List AV → List Blk → (AV → List Blk → Prop) → Prop
  | [.agg [.int .i64 a, .int .i64 b, .int .i64 c, .int .i64 d, .int .i64 e, .int .i64 f, .int .i64 g, .int .i64 h, .int .i64 i]], η, K => K (.bool (planB a b c d e f g h i)) η
  | _, _, _ => False
def SSame9 : List AV → List Blk → (AV → List Blk → Prop) → Prop
  | [.agg [.int .i64 a, .int .i64 b, .int .i64 c, .int .i64 d, .int .i64 e, .int .i64 f, .int .i64 g, .int .i64 h, .int .i64 i]], η, K => K (.agg [.int .i64 a, .int .i64 b, .int .i64 c, .int .i64 d, .int .i64 e, .int .i64 f, .int .i64 g, .int .i64 h, .int .i64 i]) η
  | _, _, _ => False

/- impl.isCount -/
/- spec.PlanOk -/
def Sp54 (lo : Nat) : Spec := fun g args η K => match g with | 55 => SIn args η K | 93 => SBorder args η K | _ => False
theorem Sp54_ok {lo : Nat} : Sound Tryz.prog lo (Sp54 lo) := by
  intro g args η K h
  unfold Sp54 at h
  split at h
  · exact .inl (f55_ok h)
  · exact .inl (f93_ok h)
  · exact h.elim
theorem f54_ok {lo : Nat} {args : List AV} {η : List Blk} {K : AV → List Blk → Prop} (h : SPlan args η K) : AF Tryz.prog lo 54 args η K := by
  unfold SPlan at h
  split at h
  · rename_i a b c d e f g hh i
    refine AF_run Sp54_ok D0 [] [.tmp 2] hm Tryz.func54 rfl (by decide) Tryz.ntmps54 rfl (by kernel_rfl) (Nat.le_of_ble_eq_true rfl) ?_; intro hlo
    cases h1 : borderB a b c
    · repeat' (first | with_reducible refine iteI (fun _ => ?_) (fun _ => ?_) | ((first | unfold AOpsC | unfold AOpsD | skip); simp (maxSteps := 1000000) (disch := (first | omega | assumption | (simp only [List.length_append, List.length_cons, List.length_nil, List.length_set]; omega))) only [go_sem, Sp54, SIn, SBorder, h1]))
      exact KB h (by rw [planB, h1]; rfl)
    cases h2 : inB d 0 10000
    · repeat' (first | with_reducible refine iteI (fun _ => ?_) (fun _ => ?_) | ((first | unfold AOpsC | unfold AOpsD | skip); simp (maxSteps := 1000000) (disch := (first | omega | assumption | (simp only [List.length_append, List.length_cons, List.length_nil, List.length_set]; omega))) only [go_sem, Sp54, SIn, SBorder, h1, h2]))
      exact KB h (by rw [planB, h1, h2]; rfl)
    cases h3 : inB e 0 10000
    · repeat' (first | with_reducible refine iteI (fun _ => ?_) (fun _ => ?_) | ((first | unfold AOpsC | unfold AOpsD | skip); simp (maxSteps := 1000000) (disch := (first | omega | assumption | (simp only [List.length_append, List.length_cons, List.length_nil, List.length_set]; omega))) only [go_sem, Sp54, SIn, SBorder, h1, h2, h3]))
      exact KB h (by rw [planB, h1, h2, h3]; rfl)
    cases h4 : inB f 0 1000
    · repeat' (first | with_reducible refine iteI (fun _ => ?_) (fun _ => ?_) | ((first | unfold AOpsC | unfold AOpsD | skip); simp (maxSteps := 1000000) (disch := (first | omega | assumption | (simp only [List.length_append, List.length_cons, List.length_nil, List.length_set]; omega))) only [go_sem, Sp54, SIn, SBorder, h1, h2, h3, h4]))
      exact KB h (by rw [planB, h1, h2, h3, h4]; rfl)
    cases h5 : inB g 0 1000000
    · repeat' (first | with_reducible refine iteI (fun _ => ?_) (fun _ => ?_) | ((first | unfold AOpsC | unfold AOpsD | skip); simp (maxSteps := 1000000) (disch := (first | omega | assumption | (simp only [List.length_append, List.length_cons, List.length_nil, List.length_set]; omega))) only [go_sem, Sp54, SIn, SBorder, h1, h2, h3, h4, h5]))
      exact KB h (by rw [planB, h1, h2, h3, h4, h5]; rfl)
    cases h6 : inB hh 0 1000000
    · repeat' (first | with_reducible refine iteI (fun _ => ?_) (fun _ => ?_) | ((first | unfold AOpsC | unfold AOpsD | skip); simp (maxSteps := 1000000) (disch := (first | omega | assumption | (simp only [List.length_append, List.length_cons, List.length_nil, List.length_set]; omega))) only [go_sem, Sp54, SIn, SBorder, h1, h2, h3, h4, h5, h6]))
      exact KB h (by rw [planB, h1, h2, h3, h4, h5, h6]; rfl)
    cases h7 : inB i 0 100
    · repeat' (first | with_reducible refine iteI (fun _ => ?_) (fun _ => ?_) | ((first | unfold AOpsC | unfold AOpsD | skip); simp (maxSteps := 1000000) (disch := (first | omega | assumption | (simp only [List.length_append, List.length_cons, List.length_nil, List.length_set]; omega))) only [go_sem, Sp54, SIn, SBorder, h1, h2, h3, h4, h5, h6, h7]))
      exact KB h (by rw [planB, h1, h2, h3, h4, h5, h6, h7]; rfl)
    · repeat' (first | with_reducible refine iteI (fun _ => ?_) (fun _ => ?_) | ((first | unfold AOpsC | unfold AOpsD | skip); simp (maxSteps := 1000000) (disch := (first | omega | assumption | (simp only [List.length_append, List.length_cons, List.length_nil, List.length_set]; omega))) only [go_sem, Sp54, SIn, SBorder, h1, h2, h3, h4, h5, h6, h7]))
      exact KB h (by rw [planB, h1, h2, h3, h4, h5, h6, h7]; rfl)
  · exact h.elim

/- impl.PlanOk -/
def Sp58 (lo : Nat) : Spec := fun g args η K => match g with | 59 => SIn args η K | 99 => SBorder args η K | 100 => SRain args η K | 101 => SRate args η K | _ => False
theorem Sp58_ok {lo : Nat} : Sound Tryz.prog lo (Sp58 lo) := by
  intro g args η K h
  unfold Sp58 at h
  split at h
  · exact .inl (f59_ok h)
  · exact .inl (f99_ok h)
  · exact .inl (f100_ok h)
  · exact .inl (f101_ok h)
  · exact h.elim
theorem f58_ok {lo : Nat} {args : List AV} {η : List Blk} {K : AV → List Blk → Prop} (h : SPlan args η K) : AF Tryz.prog lo 58 args η K := by
  unfold SPlan at h
  split at h
  · rename_i a b c d e f g hh i
    refine AF_run Sp58_ok D0 [] [.tmp 2] hm Tryz.func58 rfl (by decide) Tryz.ntmps58 rfl (by kernel_rfl) (Nat.le_of_ble_eq_true rfl) ?_; intro hlo
    cases h1 : borderB a b c
    · repeat' (first | with_reducible refine iteI (fun _ => ?_) (fun _ => ?_) | ((first | unfold AOpsC | unfold AOpsD | skip); simp (maxSteps := 1000000) (disch := (first | omega | assumption | (simp only [List.length_append, List.length_cons, List.length_nil, List.length_set]; omega))) only [go_sem, Sp58, SIn, SBorder, SRain, SRate, h1]))
      exact KB h (by rw [planB, h1]; rfl)
    cases h2 : inB d 0 10000
    · repeat' (first | with_reducible refine iteI (fun _ => ?_) (fun _ => ?_) | ((first | unfold AOpsC | unfold AOpsD | skip); simp (maxSteps := 1000000) (disch := (first | omega | assumption | (simp only [List.length_append, List.length_cons, List.length_nil, List.length_set]; omega))) only [go_sem, Sp58, SIn, SBorder, SRain, SRate, h1, h2]))
      exact KB h (by rw [planB, h1, h2]; rfl)
    cases h3 : inB e 0 10000
    · repeat' (first | with_reducible refine iteI (fun _ => ?_) (fun _ => ?_) | ((first | unfold AOpsC | unfold AOpsD | skip); simp (maxSteps := 1000000) (disch := (first | omega | assumption | (simp only [List.length_append, List.length_cons, List.length_nil, List.length_set]; omega))) only [go_sem, Sp58, SIn, SBorder, SRain, SRate, h1, h2, h3]))
      exact KB h (by rw [planB, h1, h2, h3]; rfl)
    cases h4 : inB f 0 1000
    · repeat' (first | with_reducible refine iteI (fun _ => ?_) (fun _ => ?_) | ((first | unfold AOpsC | unfold AOpsD | skip); simp (maxSteps := 1000000) (disch := (first | omega | assumption | (simp only [List.length_append, List.length_cons, List.length_nil, List.length_set]; omega))) only [go_sem, Sp58, SIn, SBorder, SRain, SRate, h1, h2, h3, h4]))
      exact KB h (by rw [planB, h1, h2, h3, h4]; rfl)
    cases h5 : inB g 0 1000000
    · repeat' (first | with_reducible refine iteI (fun _ => ?_) (fun _ => ?_) | ((first | unfold AOpsC | unfold AOpsD | skip); simp (maxSteps := 1000000) (disch := (first | omega | assumption | (simp only [List.length_append, List.length_cons, List.length_nil, List.length_set]; omega))) only [go_sem, Sp58, SIn, SBorder, SRain, SRate, h1, h2, h3, h4, h5]))
      exact KB h (by rw [planB, h1, h2, h3, h4, h5]; rfl)
    cases h6 : inB hh 0 1000000
    · repeat' (first | with_reducible refine iteI (fun _ => ?_) (fun _ => ?_) | ((first | unfold AOpsC | unfold AOpsD | skip); simp (maxSteps := 1000000) (disch := (first | omega | assumption | (simp only [List.length_append, List.length_cons, List.length_nil, List.length_set]; omega))) only [go_sem, Sp58, SIn, SBorder, SRain, SRate, h1, h2, h3, h4, h5, h6]))
      exact KB h (by rw [planB, h1, h2, h3, h4, h5, h6]; rfl)
    cases h7 : inB i 0 100
    · repeat' (first | with_reducible refine iteI (fun _ => ?_) (fun _ => ?_) | ((first | unfold AOpsC | unfold AOpsD | skip); simp (maxSteps := 1000000) (disch := (first | omega | assumption | (simp only [List.length_append, List.length_cons, List.length_nil, List.length_set]; omega))) only [go_sem, Sp58, SIn, SBorder, SRain, SRate, h1, h2, h3, h4, h5, h6, h7]))
      exact KB h (by rw [planB, h1, h2, h3, h4, h5, h6, h7]; rfl)
    · repeat' (first | with_reducible refine iteI (fun _ => ?_) (fun _ => ?_) | ((first | unfold AOpsC | unfold AOpsD | skip); simp (maxSteps := 1000000) (disch := (first | omega | assumption | (simp only [List.length_append, List.length_cons, List.length_nil, List.length_set]; omega))) only [go_sem, Sp58, SIn, SBorder, SRain, SRate, h1, h2, h3, h4, h5, h6, h7]))
      exact KB h (by rw [planB, h1, h2, h3, h4, h5, h6, h7]; rfl)
  · exact h.elim

/- laws.toBorder -/
theorem f57_ok {lo : Nat} {args : List AV} {η : List Blk} {K : AV → List Blk → Prop} (h : SSame3 args η K) : AF Tryz.prog lo 57 args η K := by
  unfold SSame3 at h
  split at h
  · refine AF_run noSp_ok D0 [] [.cell 2 54] hm Tryz.func57 rfl (by decide) Tryz.ntmps57 rfl (by kernel_rfl) (Nat.le_of_ble_eq_true rfl) ?_; intro hlo
    repeat' (first | with_reducible refine iteI (fun _ => ?_) (fun _ => ?_) | ((first | unfold AOpsC | unfold AOpsD | skip); simp (maxSteps := 1000000) (disch := (first | omega | assumption | (simp only [List.length_append, List.length_cons, List.length_nil, List.length_set]; omega))) only [go_sem, AOpsD]))
    exact h
  · exact h.elim

/- laws.toPlan -/
def Sp21 (lo : Nat) : Spec := fun g args η K => match g with | 57 => SSame3 args η K | _ => False
theorem Sp21_ok {lo : Nat} : Sound Tryz.prog lo (Sp21 lo) := by
  intro g args η K h
  unfold Sp21 at h
  split at h
  · exact .inl (f57_ok h)
  · exact h.elim
theorem f21_ok {lo : Nat} {args : List AV} {η : List Blk} {K : AV → List Blk → Prop} (h : SSame9 args η K) : AF Tryz.prog lo 21 args η K := by
  unfold SSame9 at h
  split at h
  · refine AF_run Sp21_ok D0 [] [.cell 2 56] hm Tryz.func21 rfl (by decide) Tryz.ntmps21 rfl (by kernel_rfl) (Nat.le_of_ble_eq_true rfl) ?_; intro hlo
    repeat' (first | with_reducible refine iteI (fun _ => ?_) (fun _ => ?_) | ((first | unfold AOpsC | unfold AOpsD | skip); simp (maxSteps := 1000000) (disch := (first | omega | assumption | (simp only [List.length_append, List.length_cons, List.length_nil, List.length_set]; omega))) only [go_sem, Sp21, SSame3]))
    exact h
  · exact h.elim

end Go.Proofs.YtaalpmbopkbdiaaGreat
