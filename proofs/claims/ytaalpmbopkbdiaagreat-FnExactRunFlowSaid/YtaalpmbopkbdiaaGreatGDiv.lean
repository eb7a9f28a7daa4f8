/- What functions of the program compute, said in the abstract logic; no conditions. -/
import Derived.Test.YtaalpmbopkbdiaaGreatGBal

namespace Go.Proofs.YtaalpmbopkbdiaaGreat
open Go
set_option linter.unusedSimpArgs false
set_option linter.unusedVariables false
set_option maxRecDepth 100000
set_option maxHeartbeats 8000000
attribute [local go_sem] st0 AC thenA andC locLoadB KsSW_same KsSW_grow oldLoadB noBlkB KsSL_same KsOS_same KsOS_grow pv ev put upd dstOk cv cvc binI setB Value.oneCell' EndA resA resA1 List.mapM_cons List.mapM_nil Option.pure_def Option.bind_eq_bind noLocV noLoc1 noLoc noLocs plainV cellsA newVarA putCells condA lam0 inBlockA cur lenA rowA writeA dstA appendC appendZ mapPut mapGet avoidsB avoidB clearB Array.toList_append Op.operands Call.operands newSlot Nat.zero_add Nat.add_zero Nat.succ_ne_self Nat.lt_add_one Nat.zero_lt_succ true_and and_true true_or or_true false_or or_false and_self true_implies forall_const Bool.false_eq_true Bool.true_eq_false false_implies implies_true imp_self ne_eq not_false_eq_true not_true_eq_false false_and and_false List.getElem?_toArray List.getElem?_cons_succ List.getElem?_cons_zero Option.bind_some Option.map_some Bool.not_true Bool.not_false List.getD_cons_zero List.getD_cons_succ Option.some.injEq exists_eq_left' AV.bool.injEq List.map_cons List.map_nil List.all_cons List.all_nil Bool.and_self Bool.and_true Bool.true_and List.append_nil List.cons_append List.nil_append List.length_cons List.length_nil List.drop_zero List.take_zero List.drop_succ_cons List.take_succ_cons List.take_nil List.drop_nil List.not_mem_nil List.mem_cons List.contains_nil List.contains_cons Bool.or_self Bool.or_true Bool.true_or Bool.false_or Bool.or_false Bool.and_false Bool.false_and KsS_same KsS_grow skipV KsS_ext KsSW_ext KsOS_ext rep1 rep2 rep3 rep4 rep5 List.flatten_cons List.flatten_nil partsA isPtr fillA List.size_toArray ltT ltF leT leF ltTn ltFn leTn leFn eqTi eqFi wrapId toNat1 intGet boolGet memD app_get app_last app_lst app_set app_setL app_setF set_ne set_eq gt_iff_lt ge_iff_le decide_eq_true_eq len2 len3 get20 get21 drop2 put2 get30 get31 get32 drop3 put3 putI pairEta bneTi bneFi beqTi beqFi bne_eq_false_iff_eq beq_eq_false_iff_ne beq_iff_eq bne_iff_ne Int.toNat_natCast Nat.mul_one List.length_map Bool.not_eq_true Bool.not_eq_false Bool.decide_eq_true decide_true decide_false Bool.not_eq_true' Bool.not_eq_false' decide_eq_false_iff_not eq_self Decidable.not_not
attribute [local go_sem ↓] skipC exitC retC seqC blockC condC regC drawC drawStep AOpC AOpF AOpE AEff contE_at contC_at keepC_at keepW_at keepO_at keepL_at map_parts
attribute [local go_sem] reduceCtorEq Nat.reduceLT Nat.reduceEqDiff Nat.reduceAdd Nat.reduceMul Nat.reduceLeDiff Nat.reduceSub Nat.reduceBEq Nat.reduceBNe Nat.reduceBneDiff Nat.reduceBeqDiff
attribute [local go_sem ↓] reduceIte
attribute [local go_sem] by_3 ze_3

theorem tdiv_bd {a b X : Int} (hb : 0 < b) (h : -X ≤ a ∧ a ≤ X) : -X ≤ a.tdiv b ∧ a.tdiv b ≤ X := by
  by_cases h0 : 0 ≤ a
  · have h1 : 0 ≤ a.tdiv b := Int.tdiv_nonneg h0 (by omega)
    have h2 : a.tdiv b ≤ a := Int.tdiv_le_self _ h0
    omega
  · obtain ⟨c, rfl⟩ : ∃ c, a = -c := ⟨-a, by omega⟩
    rw [Int.neg_tdiv]
    have h1 : 0 ≤ c.tdiv b := Int.tdiv_nonneg (by omega) (by omega)
    have h2 : c.tdiv b ≤ c := Int.tdiv_le_self _ (by omega)
    omega
def divT (a b : Int) : Int := if b ≤ 0 then 0 else a.tdiv b
def clampI (n lo hi : Int) : Int := if hi < lo then lo else if hi < (if n < lo then lo else n) then hi else (if n < lo then lo else n)
def SDivT : List AV → List Blk → (AV → List Blk → Prop) → Prop
  | [.int .i64 a, .int .i64 b], η, K => (-4611686018427387904 ≤ a ∧ a ≤ 4611686018427387904) ∧ K (.int .i64 (divT a b)) η
  | _, _, _ => False
def SClamp : List AV → List Blk → (AV → List Blk → Prop) → Prop
  | [.int .i64 n, .int .i64 lo, .int .i64 hi], η, K => K (.int .i64 (clampI n lo hi)) η
  | _, _, _ => False

/- impl.DivTrunc -/
theorem f173_ok {lo : Nat} {args : List AV} {η : List Blk} {K : AV → List Blk → Prop} (h : SDivT args η K) : AF Tryz.prog lo 173 args η K := by
  unfold SDivT at h
  split at h
  · obtain ⟨hb, hK⟩ := h
    rename_i a b
    refine AF_run noSp_ok D0 [] [.tmp 4] hm Tryz.func173 rfl (by decide) Tryz.ntmps173 rfl (by kernel_rfl) (Nat.le_of_ble_eq_true rfl) ?_; intro hlo
    by_cases hz : b ≤ 0
    · repeat' (first | with_reducible refine iteI (fun _ => ?_) (fun _ => ?_) | ((first | unfold AOpsC | unfold AOpsD | skip); simp (maxSteps := 1000000) (disch := (first | omega | assumption | (simp only [List.length_append, List.length_cons, List.length_nil, List.length_set]; omega))) only [go_sem, AOpsD]))
      exact KI hK (by rw [divT, if_pos hz])
    · have hd := tdiv_bd (b := b) (by omega) hb
      have hnz : ¬ b = 0 := by omega
      repeat' (first | with_reducible refine iteI (fun _ => ?_) (fun _ => ?_) | ((first | unfold AOpsC | unfold AOpsD | skip); simp (maxSteps := 1000000) (disch := (first | omega | assumption | (simp only [List.length_append, List.length_cons, List.length_nil, List.length_set]; omega))) only [go_sem, AOpsD]))
      exact KI hK (by rw [divT, if_neg hz])
  · exact h.elim

/- spec.DivTrunc -/
theorem f168_ok {lo : Nat} {args : List AV} {η : List Blk} {K : AV → List Blk → Prop} (h : SDivT args η K) : AF Tryz.prog lo 168 args η K := by
  unfold SDivT at h
  split at h
  · obtain ⟨hb, hK⟩ := h
    rename_i a b
    refine AF_run noSp_ok D0 [] [.tmp 4] hm Tryz.func168 rfl (by decide) Tryz.ntmps168 rfl (by kernel_rfl) (Nat.le_of_ble_eq_true rfl) ?_; intro hlo
    by_cases hz : b ≤ 0
    · repeat' (first | with_reducible refine iteI (fun _ => ?_) (fun _ => ?_) | ((first | unfold AOpsC | unfold AOpsD | skip); simp (maxSteps := 1000000) (disch := (first | omega | assumption | (simp only [List.length_append, List.length_cons, List.length_nil, List.length_set]; omega))) only [go_sem, AOpsD]))
      exact KI hK (by rw [divT, if_pos hz])
    · have hd := tdiv_bd (b := b) (by omega) hb
      have hnz : ¬ b = 0 := by omega
      repeat' (first | with_reducible refine iteI (fun _ => ?_) (fun _ => ?_) | ((first | unfold AOpsC | unfold AOpsD | skip); simp (maxSteps := 1000000) (disch := (first | omega | assumption | (simp only [List.length_append, List.length_cons, List.length_nil, List.length_set]; omega))) only [go_sem, AOpsD]))
      exact KI hK (by rw [divT, if_neg hz])
  · exact h.elim

/- impl.Clamp -/
theorem f174_ok {lo : Nat} {args : List AV} {η : List Blk} {K : AV → List Blk → Prop} (h : SClamp args η K) : AF Tryz.prog lo 174 args η K := by
  unfold SClamp at h
  split at h
  · rename_i n lo' hi
    refine AF_run noSp_ok D0 [] [.tmp 6] hm Tryz.func174 rfl (by decide) Tryz.ntmps174 rfl (by kernel_rfl) (Nat.le_of_ble_eq_true rfl) ?_; intro hlo
    by_cases h1 : hi < lo'
    · repeat' (first | with_reducible refine iteI (fun _ => ?_) (fun _ => ?_) | ((first | unfold AOpsC | unfold AOpsD | skip); simp (maxSteps := 1000000) (disch := (first | omega | assumption | (simp only [List.length_append, List.length_cons, List.length_nil, List.length_set]; omega))) only [go_sem, AOpsD]))
      exact KI h (by rw [clampI, if_pos h1])
    · by_cases h2 : n < lo'
      · by_cases h3 : hi < lo'
        · omega
        · repeat' (first | with_reducible refine iteI (fun _ => ?_) (fun _ => ?_) | ((first | unfold AOpsC | unfold AOpsD | skip); simp (maxSteps := 1000000) (disch := (first | omega | assumption | (simp only [List.length_append, List.length_cons, List.length_nil, List.length_set]; omega))) only [go_sem, AOpsD, maxStep, minStep, List.foldl_cons, List.foldl_nil]))
          exact KI h (by rw [clampI, if_neg h1, if_pos h2, if_neg h3])
      · by_cases h3 : hi < n
        · repeat' (first | with_reducible refine iteI (fun _ => ?_) (fun _ => ?_) | ((first | unfold AOpsC | unfold AOpsD | skip); simp (maxSteps := 1000000) (disch := (first | omega | assumption | (simp only [List.length_append, List.length_cons, List.length_nil, List.length_set]; omega))) only [go_sem, AOpsD, maxStep, minStep, List.foldl_cons, List.foldl_nil]))
          exact KI h (by rw [clampI, if_neg h1, if_neg h2, if_pos h3])
        · repeat' (first | with_reducible refine iteI (fun _ => ?_) (fun _ => ?_) | ((first | unfold AOpsC | unfold AOpsD | skip); simp (maxSteps := 1000000) (disch := (first | omega | assumption | (simp only [List.length_append, List.length_cons, List.length_nil, List.length_set]; omega))) only [go_sem, AOpsD, maxStep, minStep, List.foldl_cons, List.foldl_nil]))
          exact KI h (by rw [clampI, if_neg h1, if_neg h2, if_neg h3])
  · exact h.elim

end Go.Proofs.YtaalpmbopkbdiaaGreat
