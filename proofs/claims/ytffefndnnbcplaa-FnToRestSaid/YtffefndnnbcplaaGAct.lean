/- What functions of the program compute, said in the abstract logic; no conditions. -/
import Derived.Test.YtffefndnnbcplaaGRes
import Derived.Test.YtffefndnnbcplaaGCost

namespace Go.Proofs.Ytffefndnnbcplaa
open Go
set_option linter.unusedSimpArgs false
set_option linter.unusedVariables false
set_option maxRecDepth 100000
set_option maxHeartbeats 8000000
attribute [local go_sem] st0 AC thenA andC locLoadB KsSW_same KsSW_grow oldLoadB KsOS_same KsOS_grow pv ev put upd dstOk cv cvc binI setB Value.oneCell' EndA resA resA1 List.mapM_cons List.mapM_nil Option.pure_def Option.bind_eq_bind noLocV noLoc1 noLoc noLocs plainV cellsA newVarA putCells condA lam0 inBlockA cur lenA rowA avoidsB avoidB clearB Array.toList_append Op.operands Call.operands newSlot Nat.zero_add Nat.add_zero Nat.succ_ne_self Nat.lt_add_one Nat.zero_lt_succ true_and and_true true_or or_true false_or or_false and_self true_implies forall_const Bool.false_eq_true Bool.true_eq_false false_implies implies_true imp_self ne_eq not_false_eq_true not_true_eq_false false_and and_false List.getElem?_toArray List.getElem?_cons_succ List.getElem?_cons_zero Option.bind_some Option.map_some Bool.not_true Bool.not_false List.getD_cons_zero List.getD_cons_succ Option.some.injEq exists_eq_left' AV.bool.injEq List.map_cons List.map_nil List.all_cons List.all_nil Bool.and_self Bool.and_true Bool.true_and List.append_nil List.cons_append List.nil_append List.length_cons List.length_nil List.drop_zero List.take_zero List.drop_succ_cons List.take_succ_cons List.take_nil List.drop_nil List.not_mem_nil List.mem_cons List.contains_nil List.contains_cons Bool.or_self Bool.or_true Bool.true_or Bool.false_or Bool.or_false Bool.and_false Bool.false_and KsS_same KsS_grow skipV KsS_ext KsSW_ext KsOS_ext rep1 rep2 rep3 rep4 rep5 List.flatten_cons List.flatten_nil partsA isPtr fillA List.size_toArray ltT ltF leT leF ltTn ltFn leTn leFn eqTi eqFi wrapId toNat1 intGet boolGet memD app_get app_last app_lst app_set app_setL app_setF set_ne set_eq gt_iff_lt ge_iff_le decide_eq_true_eq len2 len3 get20 get21 drop2 put2 get30 get31 get32 drop3 put3 putI pairEta bneTi bneFi beqTi beqFi bne_eq_false_iff_eq beq_eq_false_iff_ne beq_iff_eq bne_iff_ne Int.toNat_natCast Nat.mul_one List.length_map Bool.not_eq_true Bool.not_eq_false Bool.decide_eq_true decide_true decide_false Bool.not_eq_true' Bool.not_eq_false' decide_eq_false_iff_not eq_self Decidable.not_not

def actB (t lv : Int) : Bool := decide (0 ≤ t) && (inB lv 0 4 && decide (t.tmod (wdI lv) = 0))
def actN (l : List Id3) (t : Int) : Nat → List Int
  | 0 => []
  | i + 1 => if actB t (faceI l i) = true then actN l t i ++ [(i : Int)] else actN l t i
def actL (l : List Id3) (t : Int) : List Int := actN l t (l.length - 1)
def actR (r : Int) (l : List Id3) (t : Int) : List Int := if meshB r l = true then actL l t else []
theorem act_len (l : List Id3) (t : Int) : ∀ i, (actN l t i).length ≤ i
  | 0 => by simp [actN]
  | i + 1 => by
    have := act_len l t i
    rw [actN]
    split
    · simp; omega
    · omega
theorem act_mem (l : List Id3) (t : Int) : ∀ i x, x ∈ actN l t i → 0 ≤ x ∧ x < i
  | 0, x, h => by simp [actN] at h
  | i + 1, x, h => by
    rw [actN] at h
    split at h
    · rcases List.mem_append.1 h with h | h
      · have := act_mem l t i x h; omega
      · simp at h; omega
    · have := act_mem l t i x h; omega
def SIsAct : List AV → List Blk → (AV → List Blk → Prop) → Prop
  | [.int .i64 t, .int .i64 lv], η, K => K (.bool (actB t lv)) η
  | _, _, _ => False
def SAct : List AV → List Blk → (AV → List Blk → Prop) → Prop
  | [.agg [.int .i64 r, v], .int .i64 t], η, K => (ok3 45 η v ∧ levs (dec3 45 η v)) ∧ ∀ H u, NewI η.length H u (actL (dec3 45 η v) t) → Ext η H → K u H
  | _, _, _ => False
def SActR : List AV → List Blk → (AV → List Blk → Prop) → Prop
  | [.agg [.int .i64 r, v], .int .i64 t], η, K => ok3 45 η v ∧ ∀ H u, NewI η.length H u (actR r (dec3 45 η v) t) → Ext η H → K u H
  | _, _, _ => False

/- spec.IsActive -/
def Sp133 (lo : Nat) : Spec := fun g args η K => match g with | 177 => SWd args η K | _ => False
theorem Sp133_ok {lo : Nat} : Sound Try.prog lo (Sp133 lo) := by
  intro g args η K h
  unfold Sp133 at h
  split at h
  · exact f177_ok h
  · exact h.elim
theorem f133_ok {lo : Nat} {args : List AV} {η : List Blk} {K : AV → List Blk → Prop} (h : SIsAct args η K) : AF Try.prog lo 133 args η K := by
  unfold SIsAct at h
  split at h
  · rename_i t lv
    refine AF_run Sp133_ok D0 [] [.tmp 4] hm Try.func133 rfl (by decide) Try.ntmps133 rfl (by kernel_rfl) (Nat.le_of_ble_eq_true rfl) ?_; intro hlo
    by_cases hlv : 0 ≤ lv ∧ lv ≤ 4
    case neg =>
      have e1 : inB lv 0 4 = false := by simp [inB]; omega
      have e2 : wdI lv = 0 := if_neg hlv
      by_cases h0 : 0 ≤ t
      · repeat' (first | with_reducible refine iteI (fun _ => ?_) (fun _ => ?_) | ((first | unfold AOpsC | unfold AOpsD | skip); simp (maxSteps := 1000000) (disch := (first | omega | assumption | (simp only [List.length_append, List.length_cons, List.length_nil, List.length_set]; omega))) only [go_sem, ↓skipC, ↓exitC, ↓retC, ↓seqC, ↓blockC, ↓condC, ↓regC, ↓drawC, ↓drawStep, ↓AOpC, ↓AOpF, ↓AOpE, ↓AEff, ↓contE_at, ↓contC_at, ↓keepC_at, ↓keepW_at, ↓keepO_at, ↓map_parts, ↓reduceIte, reduceCtorEq, Nat.reduceLT, Nat.reduceEqDiff, Nat.reduceAdd, Nat.reduceMul, Nat.reduceLeDiff, Nat.reduceSub, Nat.reduceBEq, Nat.reduceBNe, Nat.reduceBneDiff, Nat.reduceBeqDiff, Sp133, SWd, e1, e2]))
        exact KB h (by simp [actB, e1])
      · repeat' (first | with_reducible refine iteI (fun _ => ?_) (fun _ => ?_) | ((first | unfold AOpsC | unfold AOpsD | skip); simp (maxSteps := 1000000) (disch := (first | omega | assumption | (simp only [List.length_append, List.length_cons, List.length_nil, List.length_set]; omega))) only [go_sem, ↓skipC, ↓exitC, ↓retC, ↓seqC, ↓blockC, ↓condC, ↓regC, ↓drawC, ↓drawStep, ↓AOpC, ↓AOpF, ↓AOpE, ↓AEff, ↓contE_at, ↓contC_at, ↓keepC_at, ↓keepW_at, ↓keepO_at, ↓map_parts, ↓reduceIte, reduceCtorEq, Nat.reduceLT, Nat.reduceEqDiff, Nat.reduceAdd, Nat.reduceMul, Nat.reduceLeDiff, Nat.reduceSub, Nat.reduceBEq, Nat.reduceBNe, Nat.reduceBneDiff, Nat.reduceBeqDiff, Sp133, SWd, e1, e2]))
        exact KB h (by simp [actB, e1])
    have e1 : inB lv 0 4 = true := by simp [inB]; omega
    have e2 : 1 ≤ wdI lv := by rcases lv5 hlv with rfl | rfl | rfl | rfl | rfl <;> decide
    have e3 : ¬ wdI lv = 0 := by omega
    by_cases h0 : 0 ≤ t
    case neg =>
      repeat' (first | with_reducible refine iteI (fun _ => ?_) (fun _ => ?_) | ((first | unfold AOpsC | unfold AOpsD | skip); simp (maxSteps := 1000000) (disch := (first | omega | assumption | (simp only [List.length_append, List.length_cons, List.length_nil, List.length_set]; omega))) only [go_sem, ↓skipC, ↓exitC, ↓retC, ↓seqC, ↓blockC, ↓condC, ↓regC, ↓drawC, ↓drawStep, ↓AOpC, ↓AOpF, ↓AOpE, ↓AEff, ↓contE_at, ↓contC_at, ↓keepC_at, ↓keepW_at, ↓keepO_at, ↓map_parts, ↓reduceIte, reduceCtorEq, Nat.reduceLT, Nat.reduceEqDiff, Nat.reduceAdd, Nat.reduceMul, Nat.reduceLeDiff, Nat.reduceSub, Nat.reduceBEq, Nat.reduceBNe, Nat.reduceBneDiff, Nat.reduceBeqDiff, Sp133, SWd, e1]))
      exact KB h (by simp [actB, h0])
    by_cases h3 : t.tmod (wdI lv) = 0
    · repeat' (first | with_reducible refine iteI (fun _ => ?_) (fun _ => ?_) | ((first | unfold AOpsC | unfold AOpsD | skip); simp (maxSteps := 1000000) (disch := (first | omega | assumption | (simp only [List.length_append, List.length_cons, List.length_nil, List.length_set]; omega))) only [go_sem, ↓skipC, ↓exitC, ↓retC, ↓seqC, ↓blockC, ↓condC, ↓regC, ↓drawC, ↓drawStep, ↓AOpC, ↓AOpF, ↓AOpE, ↓AEff, ↓contE_at, ↓contC_at, ↓keepC_at, ↓keepW_at, ↓keepO_at, ↓map_parts, ↓reduceIte, reduceCtorEq, Nat.reduceLT, Nat.reduceEqDiff, Nat.reduceAdd, Nat.reduceMul, Nat.reduceLeDiff, Nat.reduceSub, Nat.reduceBEq, Nat.reduceBNe, Nat.reduceBneDiff, Nat.reduceBeqDiff, Sp133, SWd, e1, e3, h3]))
      exact KB h (by simp [actB, h0, e1, h3])
    · repeat' (first | with_reducible refine iteI (fun _ => ?_) (fun _ => ?_) | ((first | unfold AOpsC | unfold AOpsD | skip); simp (maxSteps := 1000000) (disch := (first | omega | assumption | (simp only [List.length_append, List.length_cons, List.length_nil, List.length_set]; omega))) only [go_sem, ↓skipC, ↓exitC, ↓retC, ↓seqC, ↓blockC, ↓condC, ↓regC, ↓drawC, ↓drawStep, ↓AOpC, ↓AOpF, ↓AOpE, ↓AEff, ↓contE_at, ↓contC_at, ↓keepC_at, ↓keepW_at, ↓keepO_at, ↓map_parts, ↓reduceIte, reduceCtorEq, Nat.reduceLT, Nat.reduceEqDiff, Nat.reduceAdd, Nat.reduceMul, Nat.reduceLeDiff, Nat.reduceSub, Nat.reduceBEq, Nat.reduceBNe, Nat.reduceBneDiff, Nat.reduceBeqDiff, Sp133, SWd, e1, e3, h3]))
      exact KB h (by simp [actB, h0, e1, h3])
  · exact h.elim

/- impl.IsActive -/
def Sp26 (lo : Nat) : Spec := fun g args η K => match g with | 92 => SLev args η K | 93 => SWd args η K | _ => False
theorem Sp26_ok {lo : Nat} : Sound Try.prog lo (Sp26 lo) := by
  intro g args η K h
  unfold Sp26 at h
  split at h
  · exact f92_ok h
  · exact f93_ok h
  · exact h.elim
theorem f26_ok {lo : Nat} {args : List AV} {η : List Blk} {K : AV → List Blk → Prop} (h : SIsAct args η K) : AF Try.prog lo 26 args η K := by
  unfold SIsAct at h
  split at h
  · rename_i t lv
    refine AF_run Sp26_ok D0 [] [.tmp 4] hm Try.func26 rfl (by decide) Try.ntmps26 rfl (by kernel_rfl) (Nat.le_of_ble_eq_true rfl) ?_; intro hlo
    by_cases hlv : 0 ≤ lv ∧ lv ≤ 4
    case neg =>
      have e1 : inB lv 0 4 = false := by simp [inB]; omega
      have e2 : wdI lv = 0 := if_neg hlv
      by_cases h0 : 0 ≤ t
      · repeat' (first | with_reducible refine iteI (fun _ => ?_) (fun _ => ?_) | ((first | unfold AOpsC | unfold AOpsD | skip); simp (maxSteps := 1000000) (disch := (first | omega | assumption | (simp only [List.length_append, List.length_cons, List.length_nil, List.length_set]; omega))) only [go_sem, ↓skipC, ↓exitC, ↓retC, ↓seqC, ↓blockC, ↓condC, ↓regC, ↓drawC, ↓drawStep, ↓AOpC, ↓AOpF, ↓AOpE, ↓AEff, ↓contE_at, ↓contC_at, ↓keepC_at, ↓keepW_at, ↓keepO_at, ↓map_parts, ↓reduceIte, reduceCtorEq, Nat.reduceLT, Nat.reduceEqDiff, Nat.reduceAdd, Nat.reduceMul, Nat.reduceLeDiff, Nat.reduceSub, Nat.reduceBEq, Nat.reduceBNe, Nat.reduceBneDiff, Nat.reduceBeqDiff, Sp26, SLev, SWd, e1, e2]))
        exact KB h (by simp [actB, e1])
      · repeat' (first | with_reducible refine iteI (fun _ => ?_) (fun _ => ?_) | ((first | unfold AOpsC | unfold AOpsD | skip); simp (maxSteps := 1000000) (disch := (first | omega | assumption | (simp only [List.length_append, List.length_cons, List.length_nil, List.length_set]; omega))) only [go_sem, ↓skipC, ↓exitC, ↓retC, ↓seqC, ↓blockC, ↓condC, ↓regC, ↓drawC, ↓drawStep, ↓AOpC, ↓AOpF, ↓AOpE, ↓AEff, ↓contE_at, ↓contC_at, ↓keepC_at, ↓keepW_at, ↓keepO_at, ↓map_parts, ↓reduceIte, reduceCtorEq, Nat.reduceLT, Nat.reduceEqDiff, Nat.reduceAdd, Nat.reduceMul, Nat.reduceLeDiff, Nat.reduceSub, Nat.reduceBEq, Nat.reduceBNe, Nat.reduceBneDiff, Nat.reduceBeqDiff, Sp26, SLev, SWd, e1, e2]))
        exact KB h (by simp [actB, e1])
    have e1 : inB lv 0 4 = true := by simp [inB]; omega
    have e2 : 1 ≤ wdI lv := by rcases lv5 hlv with rfl | rfl | rfl | rfl | rfl <;> decide
    have e3 : ¬ wdI lv = 0 := by omega
    by_cases h0 : 0 ≤ t
    case neg =>
      repeat' (first | with_reducible refine iteI (fun _ => ?_) (fun _ => ?_) | ((first | unfold AOpsC | unfold AOpsD | skip); simp (maxSteps := 1000000) (disch := (first | omega | assumption | (simp only [List.length_append, List.length_cons, List.length_nil, List.length_set]; omega))) only [go_sem, ↓skipC, ↓exitC, ↓retC, ↓seqC, ↓blockC, ↓condC, ↓regC, ↓drawC, ↓drawStep, ↓AOpC, ↓AOpF, ↓AOpE, ↓AEff, ↓contE_at, ↓contC_at, ↓keepC_at, ↓keepW_at, ↓keepO_at, ↓map_parts, ↓reduceIte, reduceCtorEq, Nat.reduceLT, Nat.reduceEqDiff, Nat.reduceAdd, Nat.reduceMul, Nat.reduceLeDiff, Nat.reduceSub, Nat.reduceBEq, Nat.reduceBNe, Nat.reduceBneDiff, Nat.reduceBeqDiff, Sp26, SLev, SWd, e1]))
      exact KB h (by simp [actB, h0])
    by_cases h3 : t.tmod (wdI lv) = 0
    · repeat' (first | with_reducible refine iteI (fun _ => ?_) (fun _ => ?_) | ((first | unfold AOpsC | unfold AOpsD | skip); simp (maxSteps := 1000000) (disch := (first | omega | assumption | (simp only [List.length_append, List.length_cons, List.length_nil, List.length_set]; omega))) only [go_sem, ↓skipC, ↓exitC, ↓retC, ↓seqC, ↓blockC, ↓condC, ↓regC, ↓drawC, ↓drawStep, ↓AOpC, ↓AOpF, ↓AOpE, ↓AEff, ↓contE_at, ↓contC_at, ↓keepC_at, ↓keepW_at, ↓keepO_at, ↓map_parts, ↓reduceIte, reduceCtorEq, Nat.reduceLT, Nat.reduceEqDiff, Nat.reduceAdd, Nat.reduceMul, Nat.reduceLeDiff, Nat.reduceSub, Nat.reduceBEq, Nat.reduceBNe, Nat.reduceBneDiff, Nat.reduceBeqDiff, Sp26, SLev, SWd, e1, e3, h3]))
      exact KB h (by simp [actB, h0, e1, h3])
    · repeat' (first | with_reducible refine iteI (fun _ => ?_) (fun _ => ?_) | ((first | unfold AOpsC | unfold AOpsD | skip); simp (maxSteps := 1000000) (disch := (first | omega | assumption | (simp only [List.length_append, List.length_cons, List.length_nil, List.length_set]; omega))) only [go_sem, ↓skipC, ↓exitC, ↓retC, ↓seqC, ↓blockC, ↓condC, ↓regC, ↓drawC, ↓drawStep, ↓AOpC, ↓AOpF, ↓AOpE, ↓AEff, ↓contE_at, ↓contC_at, ↓keepC_at, ↓keepW_at, ↓keepO_at, ↓map_parts, ↓reduceIte, reduceCtorEq, Nat.reduceLT, Nat.reduceEqDiff, Nat.reduceAdd, Nat.reduceMul, Nat.reduceLeDiff, Nat.reduceSub, Nat.reduceBEq, Nat.reduceBNe, Nat.reduceBneDiff, Nat.reduceBeqDiff, Sp26, SLev, SWd, e1, e3, h3]))
      exact KB h (by simp [actB, h0, e1, h3])
  · exact h.elim

def invActI (η : List Blk) (r : Int) (l : List Id3) (v : AV) (t : Int) (st : St) : Prop := ∃ i : Nat, ∃ H : List Blk, ∃ bl : Nat, ∃ wer : Nat, (i ≤ l.length - 1) ∧ (Ext η H) ∧ (η.length ≤ bl) ∧ (H[bl]? = some ⟨wer, 3, 1, (actN l t i).map (.int .i64)⟩) ∧ st.n = 26 ∧ st.τ 1 = .int .i64 t ∧ st.τ 2 = .loc 2 1 0 ∧ st.τ 5 = .sl bl wer 0 (actN l t i).length ∧ st.τ 11 = .int .i64 ((l.length : Int) - 1) ∧ st.τ 12 = .int .i64 i ∧ st.lam 2 = ⟨1, [.int .i64 r, v]⟩ ∧ st.η = H

/- (impl.Mesh).active -/
def Sp91 (lo : Nat) : Spec := fun g args η K => match g with | 26 => SIsAct args η K | 97 => SFace args η K | _ => False
theorem Sp91_ok {lo : Nat} : Sound Try.prog lo (Sp91 lo) := by
  intro g args η K h
  unfold Sp91 at h
  split at h
  · exact f26_ok h
  · exact f97_ok h
  · exact h.elim
theorem f91_ok {lo : Nat} {args : List AV} {η : List Blk} {K : AV → List Blk → Prop} (h : SAct args η K) : AF Try.prog lo 91 args η K := by
  unfold SAct at h
  split at h
  · obtain ⟨⟨⟨l, hr, hl⟩, hlv⟩, hK⟩ := h
    rename_i r _ t
    have d1 := hr.dec3
    have o1 : ok3 45 _ _ := ⟨l, hr, hl⟩
    simp only [d1] at hK hlv
    obtain ⟨b, ver, rfl, hb⟩ := hr
    have hbl := blt hb
    refine AF_run Sp91_ok D0 [] [.tmp 4] hm Try.func91 rfl (by decide) Try.ntmps91 rfl (by kernel_rfl) (Nat.le_of_ble_eq_true rfl) ?_; intro hlo
    repeat' (first | with_reducible refine iteI (fun _ => ?_) (fun _ => ?_) | ((first | unfold AOpsC | unfold AOpsD | skip); simp (maxSteps := 1000000) (disch := (first | omega | assumption | (simp only [List.length_append, List.length_cons, List.length_nil, List.length_set]; omega))) only [go_sem, ↓skipC, ↓exitC, ↓retC, ↓seqC, ↓blockC, ↓condC, ↓regC, ↓drawC, ↓drawStep, ↓AOpC, ↓AOpF, ↓AOpE, ↓AEff, ↓contE_at, ↓contC_at, ↓keepC_at, ↓keepW_at, ↓keepO_at, ↓map_parts, ↓reduceIte, reduceCtorEq, Nat.reduceLT, Nat.reduceEqDiff, Nat.reduceAdd, Nat.reduceMul, Nat.reduceLeDiff, Nat.reduceSub, Nat.reduceBEq, Nat.reduceBNe, Nat.reduceBneDiff, Nat.reduceBeqDiff, ag_24, ag_26, ag_28, ag_3, ag_45, by_24, by_26, by_28, by_3, by_45, el_24, el_28, fi_26_1, in_3, nf_26, nf_45, pl_26, pl_45, ps_26, ps_45, sz_24, sz_26, sz_28, sz_3, sz_45, ze_24, ze_26, ze_28, ze_3, ze_45, Sp91, SIsAct, SFace, hb, d1, o1]))
    refine ⟨invActI η r l (.sl b ver 0 l.length) t, fun st => ctr l.length st 12, .inr ⟨5, 3, 1, Nat.le_of_ble_eq_true rfl, rfl, 0, _, η.length, 0, Nat.zero_le _, (Ext.refl η).app _, Nat.le_refl _, by simp [RecE, actN], rfl, by simp [RecE, upd, actN], by simp [RecE, upd, actN], by simp [RecE, upd, actN], by simp [RecE, upd, actN], by simp [RecE, upd, actN], rfl, rfl⟩, ?_⟩
    rintro ⟨n, τ, lam, η'⟩ ⟨i, H, bl, wer, g0, g1, g2, g3, hn, t1, t2, t5, t11, t12, l2, hη⟩; simp only at hn t1 t2 t5 t11 t12 l2 hη; subst hn hη
    have hb' := g1.blk hb
    have d1' : dec3 45 η' (.sl b ver 0 l.length) = l := IsR.dec3 ⟨b, ver, rfl, hb'⟩
    have o1' : ok3 45 η' (.sl b ver 0 l.length) := ⟨l, ⟨b, ver, rfl, hb'⟩, hl⟩
    have hHl := blt g3
    have hal := act_len l t i
    by_cases hlt : i + 1 < l.length
    · cases e2 : actB t (faceI l i)
      · have hac : actN l t (i + 1) = actN l t i := by rw [actN, e2]; rfl
        repeat' (first | with_reducible refine iteI (fun _ => ?_) (fun _ => ?_) | ((first | unfold AOpsC | unfold AOpsD | skip); simp (maxSteps := 1000000) (disch := (first | omega | assumption | (simp only [List.length_append, List.length_cons, List.length_nil, List.length_set]; omega))) only [go_sem, ↓skipC, ↓exitC, ↓retC, ↓seqC, ↓blockC, ↓condC, ↓regC, ↓drawC, ↓drawStep, ↓AOpC, ↓AOpF, ↓AOpE, ↓AEff, ↓contE_at, ↓contC_at, ↓keepC_at, ↓keepW_at, ↓keepO_at, ↓map_parts, ↓reduceIte, reduceCtorEq, Nat.reduceLT, Nat.reduceEqDiff, Nat.reduceAdd, Nat.reduceMul, Nat.reduceLeDiff, Nat.reduceSub, Nat.reduceBEq, Nat.reduceBNe, Nat.reduceBneDiff, Nat.reduceBeqDiff, ag_24, ag_26, ag_28, ag_3, ag_45, by_24, by_26, by_28, by_3, by_45, el_24, el_28, fi_26_1, in_3, nf_26, nf_45, pl_26, pl_45, ps_26, ps_45, sz_24, sz_26, sz_28, sz_3, sz_45, ze_24, ze_26, ze_28, ze_3, ze_45, Sp91, SIsAct, SFace, hb', d1', o1', hlv, t1, t2, t5, t11, t12, l2, e2]))
        refine ⟨⟨i + 1, _, bl, wer, by omega, g1, g2, by rw [hac]; exact g3, rfl, by simp [upd, hac, t1, t2, t5, t11, t12], by simp [upd, hac, t1, t2, t5, t11, t12], by simp [upd, hac, t1, t2, t5, t11, t12], by simp [upd, hac, t1, t2, t5, t11, t12], by simp [upd, hac, t1, t2, t5, t11, t12], by simp [upd, l2], rfl⟩, by simp [ctr, upd, t12]; omega⟩
      · have hac : actN l t (i + 1) = actN l t i ++ [(i : Int)] := by rw [actN, e2]; rfl
        repeat' (first | with_reducible refine iteI (fun _ => ?_) (fun _ => ?_) | ((first | unfold AOpsC | unfold AOpsD | skip); simp (maxSteps := 1000000) (disch := (first | omega | assumption | (simp only [List.length_append, List.length_cons, List.length_nil, List.length_set]; omega))) only [go_sem, ↓skipC, ↓exitC, ↓retC, ↓seqC, ↓blockC, ↓condC, ↓regC, ↓drawC, ↓drawStep, ↓AOpC, ↓AOpF, ↓AOpE, ↓AEff, ↓contE_at, ↓contC_at, ↓keepC_at, ↓keepW_at, ↓keepO_at, ↓map_parts, ↓reduceIte, reduceCtorEq, Nat.reduceLT, Nat.reduceEqDiff, Nat.reduceAdd, Nat.reduceMul, Nat.reduceLeDiff, Nat.reduceSub, Nat.reduceBEq, Nat.reduceBNe, Nat.reduceBneDiff, Nat.reduceBeqDiff, ag_24, ag_26, ag_28, ag_3, ag_45, by_24, by_26, by_28, by_3, by_45, el_24, el_28, fi_26_1, in_3, nf_26, nf_45, pl_26, pl_45, ps_26, ps_45, sz_24, sz_26, sz_28, sz_3, sz_45, ze_24, ze_26, ze_28, ze_3, ze_45, Sp91, SIsAct, SFace, hb', d1', o1', hlv, t1, t2, t5, t11, t12, l2, e2, g3, takeMap]))
        refine ⟨⟨i + 1, _, bl, wer + 1, by omega, (g1.set g2 _).app _, g2, by rw [hac, app_get (by simpa using hHl), set_eq hHl]; try simp, rfl, by simp [upd, hac, t1, t2, t5, t11, t12], by simp [upd, hac, t1, t2, t5, t11, t12], by simp [upd, hac, t1, t2, t5, t11, t12], by simp [upd, hac, t1, t2, t5, t11, t12], by simp [upd, hac, t1, t2, t5, t11, t12], by simp [upd, l2], rfl⟩, by simp [ctr, upd, t12]; omega⟩
    · obtain rfl : i = l.length - 1 := by omega
      repeat' (first | with_reducible refine iteI (fun _ => ?_) (fun _ => ?_) | ((first | unfold AOpsC | unfold AOpsD | skip); simp (maxSteps := 1000000) (disch := (first | omega | assumption | (simp only [List.length_append, List.length_cons, List.length_nil, List.length_set]; omega))) only [go_sem, ↓skipC, ↓exitC, ↓retC, ↓seqC, ↓blockC, ↓condC, ↓regC, ↓drawC, ↓drawStep, ↓AOpC, ↓AOpF, ↓AOpE, ↓AEff, ↓contE_at, ↓contC_at, ↓keepC_at, ↓keepW_at, ↓keepO_at, ↓map_parts, ↓reduceIte, reduceCtorEq, Nat.reduceLT, Nat.reduceEqDiff, Nat.reduceAdd, Nat.reduceMul, Nat.reduceLeDiff, Nat.reduceSub, Nat.reduceBEq, Nat.reduceBNe, Nat.reduceBneDiff, Nat.reduceBeqDiff, ag_24, ag_26, ag_28, ag_3, ag_45, by_24, by_26, by_28, by_3, by_45, el_24, el_28, fi_26_1, in_3, nf_26, nf_45, pl_26, pl_45, ps_26, ps_45, sz_24, sz_26, sz_28, sz_3, sz_45, ze_24, ze_26, ze_28, ze_3, ze_45, Sp91, SIsAct, SFace, hb', d1', o1', hlv, t1, t2, t5, t11, t12, l2]))
      exact hK _ _ ((NewI.mk g2 g3).eq rfl) g1
  · exact h.elim

/- impl.ActiveFaces -/
def Sp25 (lo : Nat) : Spec := fun g args η K => match g with | 90 => SMesh args η K | 91 => SAct args η K | _ => False
theorem Sp25_ok {lo : Nat} : Sound Try.prog lo (Sp25 lo) := by
  intro g args η K h
  unfold Sp25 at h
  split at h
  · exact f90_ok h
  · exact f91_ok h
  · exact h.elim
theorem f25_ok {lo : Nat} {args : List AV} {η : List Blk} {K : AV → List Blk → Prop} (h : SActR args η K) : AF Try.prog lo 25 args η K := by
  unfold SActR at h
  split at h
  · obtain ⟨⟨l, hr, hl⟩, hK⟩ := h
    rename_i r _ t
    have d1 := hr.dec3
    have o1 : ok3 45 _ _ := ⟨l, hr, hl⟩
    simp only [d1] at hK
    obtain ⟨b, ver, rfl, hb⟩ := hr
    refine AF_run Sp25_ok D0 [] [.tmp 4] hm Try.func25 rfl (by decide) Try.ntmps25 rfl (by kernel_rfl) (Nat.le_of_ble_eq_true rfl) ?_; intro hlo
    cases e1 : meshB r l
    · repeat' (first | with_reducible refine iteI (fun _ => ?_) (fun _ => ?_) | ((first | unfold AOpsC | unfold AOpsD | skip); simp (maxSteps := 1000000) (disch := (first | omega | assumption | (simp only [List.length_append, List.length_cons, List.length_nil, List.length_set]; omega))) only [go_sem, ↓skipC, ↓exitC, ↓retC, ↓seqC, ↓blockC, ↓condC, ↓regC, ↓drawC, ↓drawStep, ↓AOpC, ↓AOpF, ↓AOpE, ↓AEff, ↓contE_at, ↓contC_at, ↓keepC_at, ↓keepW_at, ↓keepO_at, ↓map_parts, ↓reduceIte, reduceCtorEq, Nat.reduceLT, Nat.reduceEqDiff, Nat.reduceAdd, Nat.reduceMul, Nat.reduceLeDiff, Nat.reduceSub, Nat.reduceBEq, Nat.reduceBNe, Nat.reduceBneDiff, Nat.reduceBeqDiff, ag_26, by_26, nf_26, pl_26, ps_26, sz_26, ze_26, Sp25, SMesh, hb, d1, o1, e1]))
      exact hK _ _ ((NewI.nil _ _).eq (by simp [actR, e1])) (Ext.refl _)
    have hlv := mesh_levs e1
    repeat' (first | with_reducible refine iteI (fun _ => ?_) (fun _ => ?_) | ((first | unfold AOpsC | unfold AOpsD | skip); simp (maxSteps := 1000000) (disch := (first | omega | assumption | (simp only [List.length_append, List.length_cons, List.length_nil, List.length_set]; omega))) only [go_sem, ↓skipC, ↓exitC, ↓retC, ↓seqC, ↓blockC, ↓condC, ↓regC, ↓drawC, ↓drawStep, ↓AOpC, ↓AOpF, ↓AOpE, ↓AEff, ↓contE_at, ↓contC_at, ↓keepC_at, ↓keepW_at, ↓keepO_at, ↓map_parts, ↓reduceIte, reduceCtorEq, Nat.reduceLT, Nat.reduceEqDiff, Nat.reduceAdd, Nat.reduceMul, Nat.reduceLeDiff, Nat.reduceSub, Nat.reduceBEq, Nat.reduceBNe, Nat.reduceBneDiff, Nat.reduceBeqDiff, ag_26, by_26, nf_26, pl_26, ps_26, sz_26, ze_26, Sp25, SMesh, hb, d1, o1, e1]))
    unfold SAct
    simp only [d1]
    refine ⟨⟨o1, hlv⟩, fun H u hu hx => ?_⟩
    have hK' := hK _ _ (hu.eq (by simp [actR, e1])) hx
    obtain ⟨⟨rfl | rfl, _⟩ | ⟨_, _, rfl, _⟩, _⟩ := hu
    all_goals
      repeat' (first | with_reducible refine iteI (fun _ => ?_) (fun _ => ?_) | ((first | unfold AOpsC | unfold AOpsD | skip); simp (maxSteps := 1000000) (disch := (first | omega | assumption | (simp only [List.length_append, List.length_cons, List.length_nil, List.length_set]; omega))) only [go_sem, ↓skipC, ↓exitC, ↓retC, ↓seqC, ↓blockC, ↓condC, ↓regC, ↓drawC, ↓drawStep, ↓AOpC, ↓AOpF, ↓AOpE, ↓AEff, ↓contE_at, ↓contC_at, ↓keepC_at, ↓keepW_at, ↓keepO_at, ↓map_parts, ↓reduceIte, reduceCtorEq, Nat.reduceLT, Nat.reduceEqDiff, Nat.reduceAdd, Nat.reduceMul, Nat.reduceLeDiff, Nat.reduceSub, Nat.reduceBEq, Nat.reduceBNe, Nat.reduceBneDiff, Nat.reduceBeqDiff, ag_26, by_26, nf_26, pl_26, ps_26, sz_26, ze_26, Sp25, SMesh]))
      exact hK'
  · exact h.elim

end Go.Proofs.Ytffefndnnbcplaa
