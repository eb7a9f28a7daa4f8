/- What functions of the program compute, said in the abstract logic; no conditions. -/
import Derived.Test.YtaalpmbopkbdiaaGIn

namespace Go.Proofs.Ytaalpmbopkbdiaa
open Go
set_option linter.unusedSimpArgs false
set_option linter.unusedVariables false
set_option maxRecDepth 100000
set_option maxHeartbeats 8000000
attribute [local go_sem] st0 AC thenA andC locLoadB KsSW_same KsSW_grow oldLoadB noBlkB KsSL_same KsOS_same KsOS_grow pv ev put upd dstOk cv cvc binI setB Value.oneCell' EndA resA resA1 List.mapM_cons List.mapM_nil Option.pure_def Option.bind_eq_bind noLocV noLoc1 noLoc noLocs plainV cellsA newVarA putCells condA lam0 inBlockA cur lenA rowA writeA dstA appendC appendZ avoidsB avoidB clearB Array.toList_append Op.operands Call.operands newSlot Nat.zero_add Nat.add_zero Nat.succ_ne_self Nat.lt_add_one Nat.zero_lt_succ true_and and_true true_or or_true false_or or_false and_self true_implies forall_const Bool.false_eq_true Bool.true_eq_false false_implies implies_true imp_self ne_eq not_false_eq_true not_true_eq_false false_and and_false List.getElem?_toArray List.getElem?_cons_succ List.getElem?_cons_zero Option.bind_some Option.map_some Bool.not_true Bool.not_false List.getD_cons_zero List.getD_cons_succ Option.some.injEq exists_eq_left' AV.bool.injEq List.map_cons List.map_nil List.all_cons List.all_nil Bool.and_self Bool.and_true Bool.true_and List.append_nil List.cons_append List.nil_append List.length_cons List.length_nil List.drop_zero List.take_zero List.drop_succ_cons List.take_succ_cons List.take_nil List.drop_nil List.not_mem_nil List.mem_cons List.contains_nil List.contains_cons Bool.or_self Bool.or_true Bool.true_or Bool.false_or Bool.or_false Bool.and_false Bool.false_and KsS_same KsS_grow skipV KsS_ext KsSW_ext KsOS_ext rep1 rep2 rep3 rep4 rep5 List.flatten_cons List.flatten_nil partsA isPtr fillA List.size_toArray ltT ltF leT leF ltTn ltFn leTn leFn eqTi eqFi wrapId toNat1 intGet boolGet memD app_get app_last app_lst app_set app_setL app_setF set_ne set_eq gt_iff_lt ge_iff_le decide_eq_true_eq len2 len3 get20 get21 drop2 put2 get30 get31 get32 drop3 put3 putI pairEta bneTi bneFi beqTi beqFi bne_eq_false_iff_eq beq_eq_false_iff_ne beq_iff_eq bne_iff_ne Int.toNat_natCast Nat.mul_one List.length_map Bool.not_eq_true Bool.not_eq_false Bool.decide_eq_true decide_true decide_false Bool.not_eq_true' Bool.not_eq_false' decide_eq_false_iff_not eq_self Decidable.not_not

def SSameEv : List AV → List Blk → (AV → List Blk → Prop) → Prop
  | [.agg [.int .i64 x0, .int .i64 x1]], η, K => K (.agg [.int .i64 x0, .int .i64 x1]) η
  | _, _, _ => False
def SToEv : List AV → List Blk → (AV → List Blk → Prop) → Prop
  | [v], η, K => ∃ l : List (Int × Int), RowR 80 2 enc2 η v l ∧ l.length ≤ 1048576 ∧ K (.sl η.length 0 0 l.length) (η ++ [⟨0, 76, 2, (l.map enc2).flatten⟩])
  | _, _, _ => False

/- laws.toEvent -/
theorem f51_ok {lo : Nat} {args : List AV} {η : List Blk} {K : AV → List Blk → Prop} (h : SSameEv args η K) : AF Try.prog lo 51 args η K := by
  unfold SSameEv at h
  split at h
  · refine AF_run noSp_ok D0 [] [.cell 2 76] hm Try.func51 rfl (by decide) Try.ntmps51 rfl (by kernel_rfl) (Nat.le_of_ble_eq_true rfl) ?_; intro hlo
    repeat' (first | with_reducible refine iteI (fun _ => ?_) (fun _ => ?_) | ((first | unfold AOpsC | unfold AOpsD | skip); simp (maxSteps := 1000000) (disch := (first | omega | assumption | (simp only [List.length_append, List.length_cons, List.length_nil, List.length_set]; omega))) only [go_sem, ↓skipC, ↓exitC, ↓retC, ↓seqC, ↓blockC, ↓condC, ↓regC, ↓drawC, ↓drawStep, ↓AOpC, ↓AOpF, ↓AOpE, ↓AEff, ↓contE_at, ↓contC_at, ↓keepC_at, ↓keepW_at, ↓keepO_at, ↓keepL_at, ↓map_parts, ↓reduceIte, reduceCtorEq, Nat.reduceLT, Nat.reduceEqDiff, Nat.reduceAdd, Nat.reduceMul, Nat.reduceLeDiff, Nat.reduceSub, Nat.reduceBEq, Nat.reduceBNe, Nat.reduceBneDiff, Nat.reduceBeqDiff, ag_3, ag_76, ag_80, by_3, by_76, by_80, en_3, fi_76_0, fi_76_1, fi_80_0, fi_80_1, in_3, nf_76, nf_80, pl_76, pl_80, ps_76, ps_80, sz_3, sz_76, sz_80, ze_3, ze_76, ze_80]))
    exact h
  · exact h.elim

def invToEv (η : List Blk) (l : List (Int × Int)) (v : AV) (st : St) : Prop := ∃ i : Nat, (i ≤ l.length) ∧ st.n = 23 ∧ st.τ 0 = v ∧ st.τ 3 = .sl η.length 0 0 l.length ∧ st.τ 4 = .int .i64 i ∧ st.lam = lam0 ∧ st.η = η ++ [⟨0, 76, 2, ((part l (0, 0) i).map enc2).flatten⟩]

/- laws.toEventS -/
def Sp19 (lo : Nat) : Spec := fun g args η K => match g with | 51 => SSameEv args η K | _ => False
theorem Sp19_ok {lo : Nat} : Sound Try.prog lo (Sp19 lo) := by
  intro g args η K h
  unfold Sp19 at h
  split at h
  · exact .inl (f51_ok h)
  · exact h.elim
theorem f19_ok {lo : Nat} {args : List AV} {η : List Blk} {K : AV → List Blk → Prop} (h : SToEv args η K) : AF Try.prog lo 19 args η K := by
  unfold SToEv at h
  split at h
  · obtain ⟨l, hr, hl, hK⟩ := h
    refine AF_run Sp19_ok D0 [] [.tmp 2] hm Try.func19 rfl (by decide) Try.ntmps19 rfl (by kernel_rfl) (Nat.le_of_ble_eq_true rfl) ?_; intro hlo
    rcases hr with ⟨rfl, rfl⟩ | ⟨b, ver, rfl, hb⟩
    · repeat' (first | with_reducible refine iteI (fun _ => ?_) (fun _ => ?_) | ((first | unfold AOpsC | unfold AOpsD | skip); simp (maxSteps := 1000000) (disch := (first | omega | assumption | (simp only [List.length_append, List.length_cons, List.length_nil, List.length_set]; omega))) only [go_sem, ↓skipC, ↓exitC, ↓retC, ↓seqC, ↓blockC, ↓condC, ↓regC, ↓drawC, ↓drawStep, ↓AOpC, ↓AOpF, ↓AOpE, ↓AEff, ↓contE_at, ↓contC_at, ↓keepC_at, ↓keepW_at, ↓keepO_at, ↓keepL_at, ↓map_parts, ↓reduceIte, reduceCtorEq, Nat.reduceLT, Nat.reduceEqDiff, Nat.reduceAdd, Nat.reduceMul, Nat.reduceLeDiff, Nat.reduceSub, Nat.reduceBEq, Nat.reduceBNe, Nat.reduceBneDiff, Nat.reduceBeqDiff, ag_40, ag_45, ag_76, ag_80, by_40, by_45, by_76, by_80, el_40, el_45, nf_76, nf_80, pl_76, pl_80, ps_76, ps_80, sz_40, sz_45, sz_76, sz_80, ze_40, ze_45, ze_76, ze_80, Sp19, SSameEv]))
      refine ⟨invToEv η [] .nils, fun st => ctr 0 st 4, .inl ⟨0, Nat.zero_le _, rfl, ?_⟩, ?_⟩
      · simp [upd, part]
      · rintro ⟨n, τ, lam, η'⟩ ⟨i, g0, hn, t0, t3, t4, hlam, hη⟩; simp only at hn t0 t3 t4 hlam hη; subst hn hlam hη
        obtain rfl : i = 0 := by simpa using g0
        repeat' (first | with_reducible refine iteI (fun _ => ?_) (fun _ => ?_) | ((first | unfold AOpsC | unfold AOpsD | skip); simp (maxSteps := 1000000) (disch := (first | omega | assumption | (simp only [List.length_append, List.length_cons, List.length_nil, List.length_set]; omega))) only [go_sem, ↓skipC, ↓exitC, ↓retC, ↓seqC, ↓blockC, ↓condC, ↓regC, ↓drawC, ↓drawStep, ↓AOpC, ↓AOpF, ↓AOpE, ↓AEff, ↓contE_at, ↓contC_at, ↓keepC_at, ↓keepW_at, ↓keepO_at, ↓keepL_at, ↓map_parts, ↓reduceIte, reduceCtorEq, Nat.reduceLT, Nat.reduceEqDiff, Nat.reduceAdd, Nat.reduceMul, Nat.reduceLeDiff, Nat.reduceSub, Nat.reduceBEq, Nat.reduceBNe, Nat.reduceBneDiff, Nat.reduceBeqDiff, ag_40, ag_45, ag_76, ag_80, by_40, by_45, by_76, by_80, el_40, el_45, nf_76, nf_80, pl_76, pl_80, ps_76, ps_80, sz_40, sz_45, sz_76, sz_80, ze_40, ze_45, ze_76, ze_80, Sp19, SSameEv, t0, t3, t4, part_end]))
        exact hK
    · have hbl := blt hb
      repeat' (first | with_reducible refine iteI (fun _ => ?_) (fun _ => ?_) | ((first | unfold AOpsC | unfold AOpsD | skip); simp (maxSteps := 1000000) (disch := (first | omega | assumption | (simp only [List.length_append, List.length_cons, List.length_nil, List.length_set]; omega))) only [go_sem, ↓skipC, ↓exitC, ↓retC, ↓seqC, ↓blockC, ↓condC, ↓regC, ↓drawC, ↓drawStep, ↓AOpC, ↓AOpF, ↓AOpE, ↓AEff, ↓contE_at, ↓contC_at, ↓keepC_at, ↓keepW_at, ↓keepO_at, ↓keepL_at, ↓map_parts, ↓reduceIte, reduceCtorEq, Nat.reduceLT, Nat.reduceEqDiff, Nat.reduceAdd, Nat.reduceMul, Nat.reduceLeDiff, Nat.reduceSub, Nat.reduceBEq, Nat.reduceBNe, Nat.reduceBneDiff, Nat.reduceBeqDiff, ag_40, ag_45, ag_76, ag_80, by_40, by_45, by_76, by_80, el_40, el_45, nf_76, nf_80, pl_76, pl_80, ps_76, ps_80, sz_40, sz_45, sz_76, sz_80, ze_40, ze_45, ze_76, ze_80, Sp19, SSameEv, hb]))
      refine ⟨invToEv η l (.sl b ver 0 l.length), fun st => ctr l.length st 4, .inl ⟨0, Nat.zero_le _, rfl, ?_⟩, ?_⟩
      · rw [part_0]
        simp [upd, part0_2]
      · rintro ⟨n, τ, lam, η'⟩ ⟨i, g0, hn, t0, t3, t4, hlam, hη⟩; simp only at hn t0 t3 t4 hlam hη; subst hn hlam hη
        have hpl : (part l (0, 0) i).length = l.length := part_len l _ g0
        by_cases hlt : i < l.length
        · have hps := part_set l (0, 0) hlt (0, 0)
          repeat' (first | with_reducible refine iteI (fun _ => ?_) (fun _ => ?_) | ((first | unfold AOpsC | unfold AOpsD | skip); simp (maxSteps := 1000000) (disch := (first | omega | assumption | (simp only [List.length_append, List.length_cons, List.length_nil, List.length_set]; omega))) only [go_sem, ↓skipC, ↓exitC, ↓retC, ↓seqC, ↓blockC, ↓condC, ↓regC, ↓drawC, ↓drawStep, ↓AOpC, ↓AOpF, ↓AOpE, ↓AEff, ↓contE_at, ↓contC_at, ↓keepC_at, ↓keepW_at, ↓keepO_at, ↓keepL_at, ↓map_parts, ↓reduceIte, reduceCtorEq, Nat.reduceLT, Nat.reduceEqDiff, Nat.reduceAdd, Nat.reduceMul, Nat.reduceLeDiff, Nat.reduceSub, Nat.reduceBEq, Nat.reduceBNe, Nat.reduceBneDiff, Nat.reduceBeqDiff, ag_40, ag_45, ag_76, ag_80, by_40, by_45, by_76, by_80, el_40, el_45, nf_76, nf_80, pl_76, pl_80, ps_76, ps_80, sz_40, sz_45, sz_76, sz_80, ze_40, ze_45, ze_76, ze_80, Sp19, SSameEv, hb, t0, t3, t4, hps]))
          refine ⟨⟨i + 1, hlt, rfl, (by simp [upd, t0, t3, t4]), (by simp [upd, t0, t3, t4]), (by simp [upd, t0, t3, t4]), rfl, rfl⟩, (by simp [ctr, upd, t0, t3, t4]; omega)⟩
        · obtain rfl : i = l.length := by omega
          repeat' (first | with_reducible refine iteI (fun _ => ?_) (fun _ => ?_) | ((first | unfold AOpsC | unfold AOpsD | skip); simp (maxSteps := 1000000) (disch := (first | omega | assumption | (simp only [List.length_append, List.length_cons, List.length_nil, List.length_set]; omega))) only [go_sem, ↓skipC, ↓exitC, ↓retC, ↓seqC, ↓blockC, ↓condC, ↓regC, ↓drawC, ↓drawStep, ↓AOpC, ↓AOpF, ↓AOpE, ↓AEff, ↓contE_at, ↓contC_at, ↓keepC_at, ↓keepW_at, ↓keepO_at, ↓keepL_at, ↓map_parts, ↓reduceIte, reduceCtorEq, Nat.reduceLT, Nat.reduceEqDiff, Nat.reduceAdd, Nat.reduceMul, Nat.reduceLeDiff, Nat.reduceSub, Nat.reduceBEq, Nat.reduceBNe, Nat.reduceBneDiff, Nat.reduceBeqDiff, ag_40, ag_45, ag_76, ag_80, by_40, by_45, by_76, by_80, el_40, el_45, nf_76, nf_80, pl_76, pl_80, ps_76, ps_80, sz_40, sz_45, sz_76, sz_80, ze_40, ze_45, ze_76, ze_80, Sp19, SSameEv, hb, t0, t3, t4, part_end]))
          exact hK
  · exact h.elim

def SEq1Ev : List AV → List Blk → (AV → List Blk → Prop) → Prop
  | [.agg [.int .i64 x0, .int .i64 x1], .agg [.int .i64 y0, .int .i64 y1]], η, K => K (.bool (decide (x0 = y0 ∧ x1 = y1))) η
  | _, _, _ => False
/- laws.eqEvent -/
theorem f56_ok {lo : Nat} {args : List AV} {η : List Blk} {K : AV → List Blk → Prop} (h : SEq1Ev args η K) : AF Try.prog lo 56 args η K := by
  unfold SEq1Ev at h
  split at h
  · refine AF_run noSp_ok D0 [] [.tmp 4] hm Try.func56 rfl (by decide) Try.ntmps56 rfl (by kernel_rfl) (Nat.le_of_ble_eq_true rfl) ?_; intro hlo
    repeat' (first | with_reducible refine iteI (fun _ => ?_) (fun _ => ?_) | ((first | unfold AOpsC | unfold AOpsD | skip); simp (maxSteps := 1000000) (disch := (first | omega | assumption | (simp only [List.length_append, List.length_cons, List.length_nil, List.length_set]; omega))) only [go_sem, ↓skipC, ↓exitC, ↓retC, ↓seqC, ↓blockC, ↓condC, ↓regC, ↓drawC, ↓drawStep, ↓AOpC, ↓AOpF, ↓AOpE, ↓AEff, ↓contE_at, ↓contC_at, ↓keepC_at, ↓keepW_at, ↓keepO_at, ↓keepL_at, ↓map_parts, ↓reduceIte, reduceCtorEq, Nat.reduceLT, Nat.reduceEqDiff, Nat.reduceAdd, Nat.reduceMul, Nat.reduceLeDiff, Nat.reduceSub, Nat.reduceBEq, Nat.reduceBNe, Nat.reduceBneDiff, Nat.reduceBeqDiff, ag_3, ag_76, by_3, by_76, en_3, fi_76_0, fi_76_1, in_3, nf_76, pl_76, ps_76, sz_3, sz_76, ze_3, ze_76]))
    all_goals simp_all
  · exact h.elim

/- laws.eqEventS -/
def SSzEv : List AV → List Blk → (AV → List Blk → Prop) → Prop
  | [v, .int .i64 c], η, K => ∃ l : List (Int × Int), RowR 80 2 enc2 η v l ∧ l.length ≤ maxLen ∧ 0 ≤ c ∧ c ≤ 1048576 ∧ K (.int .i64 (szI l.length c)) η
  | _, _, _ => False

/- laws.szEventS -/
theorem f16_ok {lo : Nat} {args : List AV} {η : List Blk} {K : AV → List Blk → Prop} (h : SSzEv args η K) : AF Try.prog lo 16 args η K := by
  unfold SSzEv at h
  split at h
  · obtain ⟨l, hr, hl, h0, h1, hK⟩ := h
    have hml : maxLen = 9223372036854775807 := by first | rfl | decide
    rename_i c
    unfold szI at hK
    refine AF_run noSp_ok D0 [] [.tmp 4] hm Try.func16 rfl (by decide) Try.ntmps16 rfl (by kernel_rfl) (Nat.le_of_ble_eq_true rfl) ?_; intro hlo
    rcases hr with ⟨rfl, rfl⟩ | ⟨b, ver, rfl, hb⟩
    · repeat' (first | with_reducible refine iteI (fun _ => ?_) (fun _ => ?_) | ((first | unfold AOpsC | unfold AOpsD | skip); simp (maxSteps := 1000000) (disch := (first | omega | assumption | (simp only [List.length_append, List.length_cons, List.length_nil, List.length_set]; omega))) only [go_sem, ↓skipC, ↓exitC, ↓retC, ↓seqC, ↓blockC, ↓condC, ↓regC, ↓drawC, ↓drawStep, ↓AOpC, ↓AOpF, ↓AOpE, ↓AEff, ↓contE_at, ↓contC_at, ↓keepC_at, ↓keepW_at, ↓keepO_at, ↓keepL_at, ↓map_parts, ↓reduceIte, reduceCtorEq, Nat.reduceLT, Nat.reduceEqDiff, Nat.reduceAdd, Nat.reduceMul, Nat.reduceLeDiff, Nat.reduceSub, Nat.reduceBEq, Nat.reduceBNe, Nat.reduceBneDiff, Nat.reduceBeqDiff, by_40, by_80, el_40, ze_40, ze_80]))
      simpa [h0] using hK
    · repeat' (first | with_reducible refine iteI (fun _ => ?_) (fun _ => ?_) | ((first | unfold AOpsC | unfold AOpsD | skip); simp (maxSteps := 1000000) (disch := (first | omega | assumption | (simp only [List.length_append, List.length_cons, List.length_nil, List.length_set]; omega))) only [go_sem, ↓skipC, ↓exitC, ↓retC, ↓seqC, ↓blockC, ↓condC, ↓regC, ↓drawC, ↓drawStep, ↓AOpC, ↓AOpF, ↓AOpE, ↓AEff, ↓contE_at, ↓contC_at, ↓keepC_at, ↓keepW_at, ↓keepO_at, ↓keepL_at, ↓map_parts, ↓reduceIte, reduceCtorEq, Nat.reduceLT, Nat.reduceEqDiff, Nat.reduceAdd, Nat.reduceMul, Nat.reduceLeDiff, Nat.reduceSub, Nat.reduceBEq, Nat.reduceBNe, Nat.reduceBneDiff, Nat.reduceBeqDiff, by_40, by_80, el_40, ze_40, ze_80, hb]))
      · rw [if_neg (by omega)] at hK
        exact hK
      · rw [if_pos (by omega)] at hK
        exact hK
  · exact h.elim

end Go.Proofs.Ytaalpmbopkbdiaa
