/- What functions of the program compute, said in the abstract logic; no conditions. -/
import Derived.Test.YtaalpmbopkbdiaaGBase
import Derived.Test.YtaalpmbopkbdiaaGIn
import Derived.Test.YtaalpmbopkbdiaaGIds
import Derived.Test.YtaalpmbopkbdiaaGEv
import Derived.Test.YtaalpmbopkbdiaaGRes
import Derived.Test.YtaalpmbopkbdiaaGMesh
import Derived.Test.YtaalpmbopkbdiaaGBal
import Derived.Test.YtaalpmbopkbdiaaGCost
import Derived.Test.YtaalpmbopkbdiaaGIdx
import Derived.Test.YtaalpmbopkbdiaaGState
import Derived.Test.YtaalpmbopkbdiaaGCopy
import Derived.Test.YtaalpmbopkbdiaaGInts
import Derived.Test.YtaalpmbopkbdiaaGStTo
import Derived.Test.YtaalpmbopkbdiaaGResS
import Derived.Test.YtaalpmbopkbdiaaGOwn
import Derived.Test.YtaalpmbopkbdiaaGRepl
import Derived.Test.YtaalpmbopkbdiaaGDropL

namespace Go.Proofs.Ytaalpmbopkbdiaa
open Go
set_option linter.unusedSimpArgs false
set_option linter.unusedVariables false
set_option maxRecDepth 100000
set_option maxHeartbeats 8000000
attribute [local go_sem] st0 AC thenA andC locLoadB KsSW_same KsSW_grow oldLoadB noBlkB KsSL_same KsOS_same KsOS_grow pv ev put upd dstOk cv cvc binI setB Value.oneCell' EndA resA resA1 List.mapM_cons List.mapM_nil Option.pure_def Option.bind_eq_bind noLocV noLoc1 noLoc noLocs plainV cellsA newVarA putCells condA lam0 inBlockA cur lenA rowA writeA dstA appendC appendZ avoidsB avoidB clearB Array.toList_append Op.operands Call.operands newSlot Nat.zero_add Nat.add_zero Nat.succ_ne_self Nat.lt_add_one Nat.zero_lt_succ true_and and_true true_or or_true false_or or_false and_self true_implies forall_const Bool.false_eq_true Bool.true_eq_false false_implies implies_true imp_self ne_eq not_false_eq_true not_true_eq_false false_and and_false List.getElem?_toArray List.getElem?_cons_succ List.getElem?_cons_zero Option.bind_some Option.map_some Bool.not_true Bool.not_false List.getD_cons_zero List.getD_cons_succ Option.some.injEq exists_eq_left' AV.bool.injEq List.map_cons List.map_nil List.all_cons List.all_nil Bool.and_self Bool.and_true Bool.true_and List.append_nil List.cons_append List.nil_append List.length_cons List.length_nil List.drop_zero List.take_zero List.drop_succ_cons List.take_succ_cons List.take_nil List.drop_nil List.not_mem_nil List.mem_cons List.contains_nil List.contains_cons Bool.or_self Bool.or_true Bool.true_or Bool.false_or Bool.or_false Bool.and_false Bool.false_and KsS_same KsS_grow skipV KsS_ext KsSW_ext KsOS_ext rep1 rep2 rep3 rep4 rep5 List.flatten_cons List.flatten_nil partsA isPtr fillA List.size_toArray ltT ltF leT leF ltTn ltFn leTn leFn eqTi eqFi wrapId toNat1 intGet boolGet memD app_get app_last app_lst app_set app_setL app_setF set_ne set_eq gt_iff_lt ge_iff_le decide_eq_true_eq len2 len3 get20 get21 drop2 put2 get30 get31 get32 drop3 put3 putI pairEta bneTi bneFi beqTi beqFi bne_eq_false_iff_eq beq_eq_false_iff_ne beq_iff_eq bne_iff_ne Int.toNat_natCast Nat.mul_one List.length_map Bool.not_eq_true Bool.not_eq_false Bool.decide_eq_true decide_true decide_false Bool.not_eq_true' Bool.not_eq_false' decide_eq_false_iff_not eq_self Decidable.not_not

theorem dlR_len {r lev : Int} {l : List Id3} {es : List (Int × Int)} (h : es.length ≤ 1048576) : (dlR r l lev es).length ≤ 1048576 := by
  unfold dlR
  split
  · exact Nat.le_trans (List.length_filter_le _ _) h
  · simp

def SToMeshN : List AV → List Blk → (AV → List Blk → Prop) → Prop
  | [.agg [.int .i64 r, v]], η, K => ∃ l : List (Int × Int × Int), RowR 121 3 enc3 η v l ∧ l.length ≤ 1048576 ∧ ∀ H b, η.length ≤ b → H[b]? = some ⟨0, 63, 3, (l.map enc3).flatten⟩ → Ext η H → K (.agg [.int .i64 r, .sl b 0 0 l.length]) H
  | _, _, _ => False
theorem toMeshN {args : List AV} {η : List Blk} {K : AV → List Blk → Prop} (h : SToMeshN args η K) : SToMesh args η K := by
  unfold SToMeshN at h
  split at h
  · obtain ⟨l, h1, h2, h3⟩ := h
    exact ⟨l, h1, h2, h3 _ _ (Nat.le_refl _) (app_last _ _) ((Ext.refl _).app _)⟩
  · exact h.elim

def SToEvN : List AV → List Blk → (AV → List Blk → Prop) → Prop
  | [v], η, K => ∃ l : List (Int × Int), RowR 80 2 enc2 η v l ∧ l.length ≤ 1048576 ∧ ∀ H b, η.length ≤ b → H[b]? = some ⟨0, 76, 2, (l.map enc2).flatten⟩ → Ext η H → K (.sl b 0 0 l.length) H
  | _, _, _ => False
theorem toEvN {args : List AV} {η : List Blk} {K : AV → List Blk → Prop} (h : SToEvN args η K) : SToEv args η K := by
  unfold SToEvN at h
  split at h
  · obtain ⟨l, h1, h2, h3⟩ := h
    exact ⟨l, h1, h2, h3 _ _ (Nat.le_refl _) (app_last _ _) ((Ext.refl _).app _)⟩
  · exact h.elim

def SLaw : List AV → List Blk → (AV → List Blk → Prop) → Prop
  | [.agg [.int .i64 r0, v0], v1, .int .i64 y2], η, K => ∃ (l0 : List (Int × Int × Int)) (es1 : List (Int × Int)), (RowR 121 3 enc3 η v0 l0 ∧ RowR 80 2 enc2 η v1 es1) ∧ (l0.length ≤ maxLen ∧ es1.length ≤ maxLen) ∧ ∀ H, K (.bool true) H
  | _, _, _ => False

/- laws.FnExactDropLevel -/
def Sp5 (lo : Nat) : Spec := fun g args η K => match g with | 16 => SSzEv args η K | 19 => SToEv args η K | 22 => SEqEEv args η K | 24 => SMarkEv lo args η K | 26 => SSzMesh args η K | 27 => SDrp args η K | 28 => SToMesh args η K | 29 => SDrp args η K | 30 => SEqMesh args η K | 31 => SMarkMesh lo args η K | 32 => SHeldEv args η K | _ => False
theorem Sp5_ok {lo : Nat} : Sound Try.prog lo (Sp5 lo) := by
  intro g args η K h
  unfold Sp5 at h
  split at h
  · exact .inl (f16_ok h)
  · exact .inl (f19_ok h)
  · exact .inl (f22E_ok h)
  · exact .inl (f24_ok h)
  · exact .inl (f26_ok h)
  · exact .inl (f27_ok h)
  · exact .inl (f28_ok h)
  · exact .inl (f29_ok h)
  · exact .inl (f30_ok h)
  · exact .inl (f31_ok h)
  · exact .inl (f32_ok h)
  · exact h.elim
def Dr5 : Draws := fun id => match id with | 14 => ([0, 0, 2, 7, 15], [2], [], (.one 0 (.one 1 (.one 2 (.one 3 (.one 4 .nil)))))) | _ => ([], [], [], .nil)
theorem f5_ok {lo : Nat} {args : List AV} {η : List Blk} {K : AV → List Blk → Prop} (h : SLaw args η K) : AF Try.prog lo 5 args η K := by
  unfold SLaw at h
  split at h
  · obtain ⟨l0, es1, ⟨hr0, hr1⟩, ⟨hn0, hn1⟩, hK⟩ := h
    rename_i r0 v0 v1 y2
    have hml : maxLen = 9223372036854775807 := rfl
    have p0 := (noLocR hr0).1
    have q0 := (noLocR hr0).2
    have p1 := (noLocR hr1).1
    have q1 := (noLocR hr1).2
    refine AF_run Sp5_ok Dr5 [] [.tmp 6] hm Try.func5 rfl (by decide) Try.ntmps5 rfl (by kernel_rfl) (Nat.le_of_ble_eq_true rfl) ?_; intro hlo
    repeat' (first | with_reducible refine iteI (fun _ => ?_) (fun _ => ?_) | ((first | unfold AOpsC | unfold AOpsD | skip); simp (maxSteps := 1000000) (disch := (first | omega | assumption | (simp only [List.length_append, List.length_cons, List.length_nil, List.length_set]; omega))) only [go_sem, ↓skipC, ↓exitC, ↓retC, ↓seqC, ↓blockC, ↓condC, ↓regC, ↓drawC, ↓drawStep, ↓AOpC, ↓AOpF, ↓AOpE, ↓AEff, ↓contE_at, ↓contC_at, ↓keepC_at, ↓keepW_at, ↓keepO_at, ↓keepL_at, ↓map_parts, ↓reduceIte, reduceCtorEq, Nat.reduceLT, Nat.reduceEqDiff, Nat.reduceAdd, Nat.reduceMul, Nat.reduceLeDiff, Nat.reduceSub, Nat.reduceBEq, Nat.reduceBNe, Nat.reduceBneDiff, Nat.reduceBeqDiff, ag_26, ag_37, by_26, by_37, nf_26, nf_37, pl_26, pl_37, ps_26, ps_37, sz_26, sz_37, ze_26, ze_37, Sp5, Dr5, ↓p0, ↓q0, ↓p1, ↓q1]))
    unfold SSzMesh
    refine ⟨l0, hr0, hn0, by omega, by omega, ?_⟩
    by_cases hsz0 : (l0.length : Int) ≤ 1048576
    case neg =>
      rw [szI_neg hsz0]
      repeat' (first | with_reducible refine iteI (fun _ => ?_) (fun _ => ?_) | ((first | unfold AOpsC | unfold AOpsD | skip); simp (maxSteps := 1000000) (disch := (first | omega | assumption | (simp only [List.length_append, List.length_cons, List.length_nil, List.length_set]; omega))) only [go_sem, ↓skipC, ↓exitC, ↓retC, ↓seqC, ↓blockC, ↓condC, ↓regC, ↓drawC, ↓drawStep, ↓AOpC, ↓AOpF, ↓AOpE, ↓AEff, ↓contE_at, ↓contC_at, ↓keepC_at, ↓keepW_at, ↓keepO_at, ↓keepL_at, ↓map_parts, ↓reduceIte, reduceCtorEq, Nat.reduceLT, Nat.reduceEqDiff, Nat.reduceAdd, Nat.reduceMul, Nat.reduceLeDiff, Nat.reduceSub, Nat.reduceBEq, Nat.reduceBNe, Nat.reduceBneDiff, Nat.reduceBeqDiff, ag_26, ag_37, by_26, by_37, nf_26, nf_37, pl_26, pl_37, ps_26, ps_37, sz_26, sz_37, ze_26, ze_37, Sp5, Dr5]))
      exact hK _
    rw [szI_pos hsz0]
    have m0 : l0.length ≤ 1048576 := by omega
    repeat' (first | with_reducible refine iteI (fun _ => ?_) (fun _ => ?_) | ((first | unfold AOpsC | unfold AOpsD | skip); simp (maxSteps := 1000000) (disch := (first | omega | assumption | (simp only [List.length_append, List.length_cons, List.length_nil, List.length_set]; omega))) only [go_sem, ↓skipC, ↓exitC, ↓retC, ↓seqC, ↓blockC, ↓condC, ↓regC, ↓drawC, ↓drawStep, ↓AOpC, ↓AOpF, ↓AOpE, ↓AEff, ↓contE_at, ↓contC_at, ↓keepC_at, ↓keepW_at, ↓keepO_at, ↓keepL_at, ↓map_parts, ↓reduceIte, reduceCtorEq, Nat.reduceLT, Nat.reduceEqDiff, Nat.reduceAdd, Nat.reduceMul, Nat.reduceLeDiff, Nat.reduceSub, Nat.reduceBEq, Nat.reduceBNe, Nat.reduceBneDiff, Nat.reduceBeqDiff, ag_26, ag_37, by_26, by_37, nf_26, nf_37, pl_26, pl_37, ps_26, ps_37, sz_26, sz_37, ze_26, ze_37, Sp5, Dr5, ↓p0, ↓q0, ↓p1, ↓q1]))
    unfold SSzEv
    refine ⟨es1, hr1, hn1, by omega, by omega, ?_⟩
    by_cases hsz1 : (es1.length : Int) ≤ 1048576 - l0.length
    case neg =>
      rw [szI_neg hsz1]
      repeat' (first | with_reducible refine iteI (fun _ => ?_) (fun _ => ?_) | ((first | unfold AOpsC | unfold AOpsD | skip); simp (maxSteps := 1000000) (disch := (first | omega | assumption | (simp only [List.length_append, List.length_cons, List.length_nil, List.length_set]; omega))) only [go_sem, ↓skipC, ↓exitC, ↓retC, ↓seqC, ↓blockC, ↓condC, ↓regC, ↓drawC, ↓drawStep, ↓AOpC, ↓AOpF, ↓AOpE, ↓AEff, ↓contE_at, ↓contC_at, ↓keepC_at, ↓keepW_at, ↓keepO_at, ↓keepL_at, ↓map_parts, ↓reduceIte, reduceCtorEq, Nat.reduceLT, Nat.reduceEqDiff, Nat.reduceAdd, Nat.reduceMul, Nat.reduceLeDiff, Nat.reduceSub, Nat.reduceBEq, Nat.reduceBNe, Nat.reduceBneDiff, Nat.reduceBeqDiff, ag_26, ag_37, by_26, by_37, nf_26, nf_37, pl_26, pl_37, ps_26, ps_37, sz_26, sz_37, ze_26, ze_37, Sp5, Dr5]))
      exact hK _
    rw [szI_pos hsz1]
    have m1 : es1.length ≤ 1048576 := by omega
    repeat' (first | with_reducible refine iteI (fun _ => ?_) (fun _ => ?_) | ((first | unfold AOpsC | unfold AOpsD | skip); simp (maxSteps := 1000000) (disch := (first | omega | assumption | (simp only [List.length_append, List.length_cons, List.length_nil, List.length_set]; omega))) only [go_sem, ↓skipC, ↓exitC, ↓retC, ↓seqC, ↓blockC, ↓condC, ↓regC, ↓drawC, ↓drawStep, ↓AOpC, ↓AOpF, ↓AOpE, ↓AEff, ↓contE_at, ↓contC_at, ↓keepC_at, ↓keepW_at, ↓keepO_at, ↓keepL_at, ↓map_parts, ↓reduceIte, reduceCtorEq, Nat.reduceLT, Nat.reduceEqDiff, Nat.reduceAdd, Nat.reduceMul, Nat.reduceLeDiff, Nat.reduceSub, Nat.reduceBEq, Nat.reduceBNe, Nat.reduceBneDiff, Nat.reduceBeqDiff, ag_26, ag_37, by_26, by_37, nf_26, nf_37, pl_26, pl_37, ps_26, ps_37, sz_26, sz_37, ze_26, ze_37, Sp5, Dr5, ↓p0, ↓q0, ↓p1, ↓q1]))
    have kp0 : Keep η.length η η := Keep.refl η
    refine toMeshN ⟨l0, hr0.keep kp0, m0, fun H1 bA0 pA0 gA0 xA0 => ?_⟩
    have kp1 := kp0.ext xA0
    have klkp1 := kp1.1
    have lekp1 := xA0.len
    have glA0 := blt gA0
    repeat' (first | with_reducible refine iteI (fun _ => ?_) (fun _ => ?_) | ((first | unfold AOpsC | unfold AOpsD | skip); simp (maxSteps := 1000000) (disch := (first | omega | assumption | (simp only [List.length_append, List.length_cons, List.length_nil, List.length_set]; omega))) only [go_sem, ↓skipC, ↓exitC, ↓retC, ↓seqC, ↓blockC, ↓condC, ↓regC, ↓drawC, ↓drawStep, ↓AOpC, ↓AOpF, ↓AOpE, ↓AEff, ↓contE_at, ↓contC_at, ↓keepC_at, ↓keepW_at, ↓keepO_at, ↓keepL_at, ↓map_parts, ↓reduceIte, reduceCtorEq, Nat.reduceLT, Nat.reduceEqDiff, Nat.reduceAdd, Nat.reduceMul, Nat.reduceLeDiff, Nat.reduceSub, Nat.reduceBEq, Nat.reduceBNe, Nat.reduceBneDiff, Nat.reduceBeqDiff, ag_26, ag_37, by_26, by_37, nf_26, nf_37, pl_26, pl_37, ps_26, ps_37, sz_26, sz_37, ze_26, ze_37, Sp5, Dr5, ↓p0, ↓q0, ↓p1, ↓q1]))
    refine toEvN ⟨es1, hr1.keep kp1, m1, fun H2 bA1 pA1 gA1 xA1 => ?_⟩
    replace gA0 := xA1.blk gA0
    have kp2 := kp1.ext xA1
    have klkp2 := kp2.1
    have lekp2 := xA1.len
    have glA1 := blt gA1
    repeat' (first | with_reducible refine iteI (fun _ => ?_) (fun _ => ?_) | ((first | unfold AOpsC | unfold AOpsD | skip); simp (maxSteps := 1000000) (disch := (first | omega | assumption | (simp only [List.length_append, List.length_cons, List.length_nil, List.length_set]; omega))) only [go_sem, ↓skipC, ↓exitC, ↓retC, ↓seqC, ↓blockC, ↓condC, ↓regC, ↓drawC, ↓drawStep, ↓AOpC, ↓AOpF, ↓AOpE, ↓AEff, ↓contE_at, ↓contC_at, ↓keepC_at, ↓keepW_at, ↓keepO_at, ↓keepL_at, ↓map_parts, ↓reduceIte, reduceCtorEq, Nat.reduceLT, Nat.reduceEqDiff, Nat.reduceAdd, Nat.reduceMul, Nat.reduceLeDiff, Nat.reduceSub, Nat.reduceBEq, Nat.reduceBNe, Nat.reduceBneDiff, Nat.reduceBeqDiff, ag_26, ag_37, by_26, by_37, nf_26, nf_37, pl_26, pl_37, ps_26, ps_37, sz_26, sz_37, ze_26, ze_37, Sp5, Dr5, ↓p0, ↓q0, ↓p1, ↓q1]))
    have dA0 := (show IsR 63 3 enc3 _ _ _ from ⟨bA0, 0, rfl, gA0⟩).dec3
    have oA0 : ok3 _ _ _ := ⟨l0, ⟨bA0, 0, rfl, gA0⟩, m0⟩
    have dA1 := (show IsR 76 2 enc2 _ _ _ from ⟨bA1, 0, rfl, gA1⟩).dec2
    have oA1 : ok2 _ _ _ := ⟨es1, ⟨bA1, 0, rfl, gA1⟩, m1⟩
    unfold SDrp
    simp only [dA0, oA0, dA1, oA1, true_and, and_self, and_true]
    refine fun H3 w hw xw => ?_
    obtain ⟨hw, fw⟩ := hw
    have nw := hw.noLoc.1
    have nnw := hw.noLoc.2
    have tw := hw.lt
    replace gA0 := xw.blk gA0
    replace gA1 := xw.blk gA1
    have kp3 := kp2.ext xw
    have klkp3 := kp3.1
    have lekp3 := xw.len
    repeat' (first | with_reducible refine iteI (fun _ => ?_) (fun _ => ?_) | ((first | unfold AOpsC | unfold AOpsD | skip); simp (maxSteps := 1000000) (disch := (first | omega | assumption | (simp only [List.length_append, List.length_cons, List.length_nil, List.length_set]; omega))) only [go_sem, ↓skipC, ↓exitC, ↓retC, ↓seqC, ↓blockC, ↓condC, ↓regC, ↓drawC, ↓drawStep, ↓AOpC, ↓AOpF, ↓AOpE, ↓AEff, ↓contE_at, ↓contC_at, ↓keepC_at, ↓keepW_at, ↓keepO_at, ↓keepL_at, ↓map_parts, ↓reduceIte, reduceCtorEq, Nat.reduceLT, Nat.reduceEqDiff, Nat.reduceAdd, Nat.reduceMul, Nat.reduceLeDiff, Nat.reduceSub, Nat.reduceBEq, Nat.reduceBNe, Nat.reduceBneDiff, Nat.reduceBeqDiff, ag_26, ag_37, by_26, by_37, nf_26, nf_37, pl_26, pl_37, ps_26, ps_37, sz_26, sz_37, ze_26, ze_37, Sp5, Dr5, ↓p0, ↓q0, ↓p1, ↓q1, ↓nw, ↓nnw]))
    refine toMeshN ⟨l0, hr0.keep kp3, m0, fun H4 bB0 pB0 gB0 xB0 => ?_⟩
    replace hw := hw.ext xB0
    have kp4 := kp3.ext xB0
    have klkp4 := kp4.1
    have lekp4 := xB0.len
    have glB0 := blt gB0
    repeat' (first | with_reducible refine iteI (fun _ => ?_) (fun _ => ?_) | ((first | unfold AOpsC | unfold AOpsD | skip); simp (maxSteps := 1000000) (disch := (first | omega | assumption | (simp only [List.length_append, List.length_cons, List.length_nil, List.length_set]; omega))) only [go_sem, ↓skipC, ↓exitC, ↓retC, ↓seqC, ↓blockC, ↓condC, ↓regC, ↓drawC, ↓drawStep, ↓AOpC, ↓AOpF, ↓AOpE, ↓AEff, ↓contE_at, ↓contC_at, ↓keepC_at, ↓keepW_at, ↓keepO_at, ↓keepL_at, ↓map_parts, ↓reduceIte, reduceCtorEq, Nat.reduceLT, Nat.reduceEqDiff, Nat.reduceAdd, Nat.reduceMul, Nat.reduceLeDiff, Nat.reduceSub, Nat.reduceBEq, Nat.reduceBNe, Nat.reduceBneDiff, Nat.reduceBeqDiff, ag_26, ag_37, by_26, by_37, nf_26, nf_37, pl_26, pl_37, ps_26, ps_37, sz_26, sz_37, ze_26, ze_37, Sp5, Dr5, ↓p0, ↓q0, ↓p1, ↓q1, ↓nw, ↓nnw]))
    refine toEvN ⟨es1, hr1.keep kp4, m1, fun H5 bB1 pB1 gB1 xB1 => ?_⟩
    replace hw := hw.ext xB1
    replace gB0 := xB1.blk gB0
    have kp5 := kp4.ext xB1
    have klkp5 := kp5.1
    have lekp5 := xB1.len
    have glB1 := blt gB1
    repeat' (first | with_reducible refine iteI (fun _ => ?_) (fun _ => ?_) | ((first | unfold AOpsC | unfold AOpsD | skip); simp (maxSteps := 1000000) (disch := (first | omega | assumption | (simp only [List.length_append, List.length_cons, List.length_nil, List.length_set]; omega))) only [go_sem, ↓skipC, ↓exitC, ↓retC, ↓seqC, ↓blockC, ↓condC, ↓regC, ↓drawC, ↓drawStep, ↓AOpC, ↓AOpF, ↓AOpE, ↓AEff, ↓contE_at, ↓contC_at, ↓keepC_at, ↓keepW_at, ↓keepO_at, ↓keepL_at, ↓map_parts, ↓reduceIte, reduceCtorEq, Nat.reduceLT, Nat.reduceEqDiff, Nat.reduceAdd, Nat.reduceMul, Nat.reduceLeDiff, Nat.reduceSub, Nat.reduceBEq, Nat.reduceBNe, Nat.reduceBneDiff, Nat.reduceBeqDiff, ag_26, ag_37, by_26, by_37, nf_26, nf_37, pl_26, pl_37, ps_26, ps_37, sz_26, sz_37, ze_26, ze_37, Sp5, Dr5, ↓p0, ↓q0, ↓p1, ↓q1, ↓nw, ↓nnw]))
    have dB0 := (show IsR 63 3 enc3 _ _ _ from ⟨bB0, 0, rfl, gB0⟩).dec3
    have oB0 : ok3 _ _ _ := ⟨l0, ⟨bB0, 0, rfl, gB0⟩, m0⟩
    have dB1 := (show IsR 76 2 enc2 _ _ _ from ⟨bB1, 0, rfl, gB1⟩).dec2
    have oB1 : ok2 _ _ _ := ⟨es1, ⟨bB1, 0, rfl, gB1⟩, m1⟩
    unfold SDrp
    simp only [dB0, oB0, dB1, oB1, true_and, and_self, and_true]
    refine fun H6 g hg xg => ?_
    obtain ⟨hg, fg⟩ := hg
    have ng := hg.noLoc.1
    have nng := hg.noLoc.2
    have tg := hg.lt
    replace hw := hw.ext xg
    replace gB0 := xg.blk gB0
    replace gB1 := xg.blk gB1
    have kp6 := kp5.ext xg
    have klkp6 := kp6.1
    have lekp6 := xg.len
    repeat' (first | with_reducible refine iteI (fun _ => ?_) (fun _ => ?_) | ((first | unfold AOpsC | unfold AOpsD | skip); simp (maxSteps := 1000000) (disch := (first | omega | assumption | (simp only [List.length_append, List.length_cons, List.length_nil, List.length_set]; omega))) only [go_sem, ↓skipC, ↓exitC, ↓retC, ↓seqC, ↓blockC, ↓condC, ↓regC, ↓drawC, ↓drawStep, ↓AOpC, ↓AOpF, ↓AOpE, ↓AEff, ↓contE_at, ↓contC_at, ↓keepC_at, ↓keepW_at, ↓keepO_at, ↓keepL_at, ↓map_parts, ↓reduceIte, reduceCtorEq, Nat.reduceLT, Nat.reduceEqDiff, Nat.reduceAdd, Nat.reduceMul, Nat.reduceLeDiff, Nat.reduceSub, Nat.reduceBEq, Nat.reduceBNe, Nat.reduceBneDiff, Nat.reduceBeqDiff, ag_26, ag_37, by_26, by_37, nf_26, nf_37, pl_26, pl_37, ps_26, ps_37, sz_26, sz_37, ze_26, ze_37, Sp5, Dr5, ↓p0, ↓q0, ↓p1, ↓q1, ↓nw, ↓nnw, ↓ng, ↓nng]))
    have hL : (dlR r0 l0 y2 es1).length ≤ 1048576 := dlR_len m1
    unfold SEqEEv
    refine ⟨_, hg, hw, hL, ?_⟩
    repeat' (first | with_reducible refine iteI (fun _ => ?_) (fun _ => ?_) | ((first | unfold AOpsC | unfold AOpsD | skip); simp (maxSteps := 1000000) (disch := (first | omega | assumption | (simp only [List.length_append, List.length_cons, List.length_nil, List.length_set]; omega))) only [go_sem, ↓skipC, ↓exitC, ↓retC, ↓seqC, ↓blockC, ↓condC, ↓regC, ↓drawC, ↓drawStep, ↓AOpC, ↓AOpF, ↓AOpE, ↓AEff, ↓contE_at, ↓contC_at, ↓keepC_at, ↓keepW_at, ↓keepO_at, ↓keepL_at, ↓map_parts, ↓reduceIte, reduceCtorEq, Nat.reduceLT, Nat.reduceEqDiff, Nat.reduceAdd, Nat.reduceMul, Nat.reduceLeDiff, Nat.reduceSub, Nat.reduceBEq, Nat.reduceBNe, Nat.reduceBneDiff, Nat.reduceBeqDiff, ag_26, ag_37, by_26, by_37, nf_26, nf_37, pl_26, pl_37, ps_26, ps_37, sz_26, sz_37, ze_26, ze_37, Sp5, Dr5, ↓p0, ↓q0, ↓p1, ↓q1, ↓nw, ↓nnw, ↓ng, ↓nng]))
    refine toMeshN ⟨l0, hr0.keep kp6, m0, fun H7 bC00 pC00 gC00 xC00 => ?_⟩
    replace hw := hw.ext xC00
    replace gB0 := xC00.blk gB0
    replace gB1 := xC00.blk gB1
    replace hg := hg.ext xC00
    have kp7 := kp6.ext xC00
    have klkp7 := kp7.1
    have lekp7 := xC00.len
    have glC00 := blt gC00
    repeat' (first | with_reducible refine iteI (fun _ => ?_) (fun _ => ?_) | ((first | unfold AOpsC | unfold AOpsD | skip); simp (maxSteps := 1000000) (disch := (first | omega | assumption | (simp only [List.length_append, List.length_cons, List.length_nil, List.length_set]; omega))) only [go_sem, ↓skipC, ↓exitC, ↓retC, ↓seqC, ↓blockC, ↓condC, ↓regC, ↓drawC, ↓drawStep, ↓AOpC, ↓AOpF, ↓AOpE, ↓AEff, ↓contE_at, ↓contC_at, ↓keepC_at, ↓keepW_at, ↓keepO_at, ↓keepL_at, ↓map_parts, ↓reduceIte, reduceCtorEq, Nat.reduceLT, Nat.reduceEqDiff, Nat.reduceAdd, Nat.reduceMul, Nat.reduceLeDiff, Nat.reduceSub, Nat.reduceBEq, Nat.reduceBNe, Nat.reduceBneDiff, Nat.reduceBeqDiff, ag_26, ag_37, by_26, by_37, nf_26, nf_37, pl_26, pl_37, ps_26, ps_37, sz_26, sz_37, ze_26, ze_37, Sp5, Dr5, ↓p0, ↓q0, ↓p1, ↓q1, ↓nw, ↓nnw, ↓ng, ↓nng]))
    unfold SEqMesh
    refine ⟨l0, l0, ⟨bB0, 0, rfl, gB0⟩, ⟨bC00, 0, rfl, gC00⟩, m0, ?_⟩
    repeat' (first | with_reducible refine iteI (fun _ => ?_) (fun _ => ?_) | ((first | unfold AOpsC | unfold AOpsD | skip); simp (maxSteps := 1000000) (disch := (first | omega | assumption | (simp only [List.length_append, List.length_cons, List.length_nil, List.length_set]; omega))) only [go_sem, ↓skipC, ↓exitC, ↓retC, ↓seqC, ↓blockC, ↓condC, ↓regC, ↓drawC, ↓drawStep, ↓AOpC, ↓AOpF, ↓AOpE, ↓AEff, ↓contE_at, ↓contC_at, ↓keepC_at, ↓keepW_at, ↓keepO_at, ↓keepL_at, ↓map_parts, ↓reduceIte, reduceCtorEq, Nat.reduceLT, Nat.reduceEqDiff, Nat.reduceAdd, Nat.reduceMul, Nat.reduceLeDiff, Nat.reduceSub, Nat.reduceBEq, Nat.reduceBNe, Nat.reduceBneDiff, Nat.reduceBeqDiff, ag_26, ag_37, by_26, by_37, nf_26, nf_37, pl_26, pl_37, ps_26, ps_37, sz_26, sz_37, ze_26, ze_37, Sp5, Dr5, ↓p0, ↓q0, ↓p1, ↓q1, ↓nw, ↓nnw, ↓ng, ↓nng]))
    refine toEvN ⟨es1, hr1.keep kp7, m1, fun H8 bC11 pC11 gC11 xC11 => ?_⟩
    replace hw := hw.ext xC11
    replace gB0 := xC11.blk gB0
    replace gB1 := xC11.blk gB1
    replace hg := hg.ext xC11
    have kp8 := kp7.ext xC11
    have klkp8 := kp8.1
    have lekp8 := xC11.len
    have glC11 := blt gC11
    repeat' (first | with_reducible refine iteI (fun _ => ?_) (fun _ => ?_) | ((first | unfold AOpsC | unfold AOpsD | skip); simp (maxSteps := 1000000) (disch := (first | omega | assumption | (simp only [List.length_append, List.length_cons, List.length_nil, List.length_set]; omega))) only [go_sem, ↓skipC, ↓exitC, ↓retC, ↓seqC, ↓blockC, ↓condC, ↓regC, ↓drawC, ↓drawStep, ↓AOpC, ↓AOpF, ↓AOpE, ↓AEff, ↓contE_at, ↓contC_at, ↓keepC_at, ↓keepW_at, ↓keepO_at, ↓keepL_at, ↓map_parts, ↓reduceIte, reduceCtorEq, Nat.reduceLT, Nat.reduceEqDiff, Nat.reduceAdd, Nat.reduceMul, Nat.reduceLeDiff, Nat.reduceSub, Nat.reduceBEq, Nat.reduceBNe, Nat.reduceBneDiff, Nat.reduceBeqDiff, ag_26, ag_37, by_26, by_37, nf_26, nf_37, pl_26, pl_37, ps_26, ps_37, sz_26, sz_37, ze_26, ze_37, Sp5, Dr5, ↓p0, ↓q0, ↓p1, ↓q1, ↓nw, ↓nnw, ↓ng, ↓nng]))
    unfold SEqEEv
    refine ⟨es1, .inr ⟨bB1, 0, rfl, gB1⟩, .inr ⟨bC11, 0, rfl, gC11⟩, m1, ?_⟩
    repeat' (first | with_reducible refine iteI (fun _ => ?_) (fun _ => ?_) | ((first | unfold AOpsC | unfold AOpsD | skip); simp (maxSteps := 1000000) (disch := (first | omega | assumption | (simp only [List.length_append, List.length_cons, List.length_nil, List.length_set]; omega))) only [go_sem, ↓skipC, ↓exitC, ↓retC, ↓seqC, ↓blockC, ↓condC, ↓regC, ↓drawC, ↓drawStep, ↓AOpC, ↓AOpF, ↓AOpE, ↓AEff, ↓contE_at, ↓contC_at, ↓keepC_at, ↓keepW_at, ↓keepO_at, ↓keepL_at, ↓map_parts, ↓reduceIte, reduceCtorEq, Nat.reduceLT, Nat.reduceEqDiff, Nat.reduceAdd, Nat.reduceMul, Nat.reduceLeDiff, Nat.reduceSub, Nat.reduceBEq, Nat.reduceBNe, Nat.reduceBneDiff, Nat.reduceBeqDiff, ag_26, ag_37, by_26, by_37, nf_26, nf_37, pl_26, pl_37, ps_26, ps_37, sz_26, sz_37, ze_26, ze_37, Sp5, Dr5, ↓p0, ↓q0, ↓p1, ↓q1, ↓nw, ↓nnw, ↓ng, ↓nng]))
    unfold SMarkMesh
    refine ⟨l0, ⟨bB0, 0, rfl, gB0⟩, fun c (hc : bB0 = c) => by omega, m0, by omega, by omega, fun H9 tM0 rM0 => ?_⟩
    replace hw := hw.touch tM0 (fun c hc (e : bB0 = c) => by skip; have := tw c hc; omega)
    replace gB1 := tM0.blk (fun (e : bB0 = bB1) => by skip; omega) gB1
    replace hg := hg.touch tM0 (fun c hc (e : bB0 = c) => by skip; have := fg c hc; omega)
    have kp9 := kp8.touch tM0 (fun c (hc : bB0 = c) => by skip; omega)
    have klkp9 := kp9.1
    repeat' (first | with_reducible refine iteI (fun _ => ?_) (fun _ => ?_) | ((first | unfold AOpsC | unfold AOpsD | skip); simp (maxSteps := 1000000) (disch := (first | omega | assumption | (simp only [List.length_append, List.length_cons, List.length_nil, List.length_set]; omega))) only [go_sem, ↓skipC, ↓exitC, ↓retC, ↓seqC, ↓blockC, ↓condC, ↓regC, ↓drawC, ↓drawStep, ↓AOpC, ↓AOpF, ↓AOpE, ↓AEff, ↓contE_at, ↓contC_at, ↓keepC_at, ↓keepW_at, ↓keepO_at, ↓keepL_at, ↓map_parts, ↓reduceIte, reduceCtorEq, Nat.reduceLT, Nat.reduceEqDiff, Nat.reduceAdd, Nat.reduceMul, Nat.reduceLeDiff, Nat.reduceSub, Nat.reduceBEq, Nat.reduceBNe, Nat.reduceBneDiff, Nat.reduceBeqDiff, ag_26, ag_37, by_26, by_37, nf_26, nf_37, pl_26, pl_37, ps_26, ps_37, sz_26, sz_37, ze_26, ze_37, Sp5, Dr5, ↓p0, ↓q0, ↓p1, ↓q1, ↓nw, ↓nnw, ↓ng, ↓nng]))
    unfold SMarkEv
    refine ⟨es1, .inr ⟨bB1, 0, rfl, gB1⟩, fun c (hc : bB1 = c) => by omega, m1, by omega, by omega, fun H10 tM1 rM1 => ?_⟩
    replace hw := hw.touch tM1 (fun c hc (e : bB1 = c) => by skip; have := tw c hc; omega)
    replace hg := hg.touch tM1 (fun c hc (e : bB1 = c) => by skip; have := fg c hc; omega)
    have kp10 := kp9.touch tM1 (fun c (hc : bB1 = c) => by skip; omega)
    have klkp10 := kp10.1
    repeat' (first | with_reducible refine iteI (fun _ => ?_) (fun _ => ?_) | ((first | unfold AOpsC | unfold AOpsD | skip); simp (maxSteps := 1000000) (disch := (first | omega | assumption | (simp only [List.length_append, List.length_cons, List.length_nil, List.length_set]; omega))) only [go_sem, ↓skipC, ↓exitC, ↓retC, ↓seqC, ↓blockC, ↓condC, ↓regC, ↓drawC, ↓drawStep, ↓AOpC, ↓AOpF, ↓AOpE, ↓AEff, ↓contE_at, ↓contC_at, ↓keepC_at, ↓keepW_at, ↓keepO_at, ↓keepL_at, ↓map_parts, ↓reduceIte, reduceCtorEq, Nat.reduceLT, Nat.reduceEqDiff, Nat.reduceAdd, Nat.reduceMul, Nat.reduceLeDiff, Nat.reduceSub, Nat.reduceBEq, Nat.reduceBNe, Nat.reduceBneDiff, Nat.reduceBeqDiff, ag_26, ag_37, by_26, by_37, nf_26, nf_37, pl_26, pl_37, ps_26, ps_37, sz_26, sz_37, ze_26, ze_37, Sp5, Dr5, ↓p0, ↓q0, ↓p1, ↓q1, ↓nw, ↓nnw, ↓ng, ↓nng]))
    unfold SEqEEv
    refine ⟨_, hg, hw, hL, ?_⟩
    repeat' (first | with_reducible refine iteI (fun _ => ?_) (fun _ => ?_) | ((first | unfold AOpsC | unfold AOpsD | skip); simp (maxSteps := 1000000) (disch := (first | omega | assumption | (simp only [List.length_append, List.length_cons, List.length_nil, List.length_set]; omega))) only [go_sem, ↓skipC, ↓exitC, ↓retC, ↓seqC, ↓blockC, ↓condC, ↓regC, ↓drawC, ↓drawStep, ↓AOpC, ↓AOpF, ↓AOpE, ↓AEff, ↓contE_at, ↓contC_at, ↓keepC_at, ↓keepW_at, ↓keepO_at, ↓keepL_at, ↓map_parts, ↓reduceIte, reduceCtorEq, Nat.reduceLT, Nat.reduceEqDiff, Nat.reduceAdd, Nat.reduceMul, Nat.reduceLeDiff, Nat.reduceSub, Nat.reduceBEq, Nat.reduceBNe, Nat.reduceBneDiff, Nat.reduceBeqDiff, ag_26, ag_37, by_26, by_37, nf_26, nf_37, pl_26, pl_37, ps_26, ps_37, sz_26, sz_37, ze_26, ze_37, Sp5, Dr5, ↓p0, ↓q0, ↓p1, ↓q1, ↓nw, ↓nnw, ↓ng, ↓nng]))
    unfold SMarkEv
    refine ⟨_, hg, fun c hc => by have := fg c hc; omega, hL, by omega, by omega, fun H11 tg rg => ?_⟩
    replace hw := hw.touch tg (fun c hc hc2 => by have := tw c hc; have := fg c hc2; omega)
    have kp11 := kp10.touch tg (fun c hc => by have := fg c hc; omega)
    have klkp11 := kp11.1
    repeat' (first | with_reducible refine iteI (fun _ => ?_) (fun _ => ?_) | ((first | unfold AOpsC | unfold AOpsD | skip); simp (maxSteps := 1000000) (disch := (first | omega | assumption | (simp only [List.length_append, List.length_cons, List.length_nil, List.length_set]; omega))) only [go_sem, ↓skipC, ↓exitC, ↓retC, ↓seqC, ↓blockC, ↓condC, ↓regC, ↓drawC, ↓drawStep, ↓AOpC, ↓AOpF, ↓AOpE, ↓AEff, ↓contE_at, ↓contC_at, ↓keepC_at, ↓keepW_at, ↓keepO_at, ↓keepL_at, ↓map_parts, ↓reduceIte, reduceCtorEq, Nat.reduceLT, Nat.reduceEqDiff, Nat.reduceAdd, Nat.reduceMul, Nat.reduceLeDiff, Nat.reduceSub, Nat.reduceBEq, Nat.reduceBNe, Nat.reduceBneDiff, Nat.reduceBeqDiff, ag_26, ag_37, by_26, by_37, nf_26, nf_37, pl_26, pl_37, ps_26, ps_37, sz_26, sz_37, ze_26, ze_37, Sp5, Dr5, ↓p0, ↓q0, ↓p1, ↓q1, ↓nw, ↓nnw, ↓ng, ↓nng]))
    unfold SHeldEv
    refine ⟨_, rg, hL, by omega, by omega, ?_⟩
    repeat' (first | with_reducible refine iteI (fun _ => ?_) (fun _ => ?_) | ((first | unfold AOpsC | unfold AOpsD | skip); simp (maxSteps := 1000000) (disch := (first | omega | assumption | (simp only [List.length_append, List.length_cons, List.length_nil, List.length_set]; omega))) only [go_sem, ↓skipC, ↓exitC, ↓retC, ↓seqC, ↓blockC, ↓condC, ↓regC, ↓drawC, ↓drawStep, ↓AOpC, ↓AOpF, ↓AOpE, ↓AEff, ↓contE_at, ↓contC_at, ↓keepC_at, ↓keepW_at, ↓keepO_at, ↓keepL_at, ↓map_parts, ↓reduceIte, reduceCtorEq, Nat.reduceLT, Nat.reduceEqDiff, Nat.reduceAdd, Nat.reduceMul, Nat.reduceLeDiff, Nat.reduceSub, Nat.reduceBEq, Nat.reduceBNe, Nat.reduceBneDiff, Nat.reduceBeqDiff, ag_26, ag_37, by_26, by_37, nf_26, nf_37, pl_26, pl_37, ps_26, ps_37, sz_26, sz_37, ze_26, ze_37, Sp5, Dr5, ↓p0, ↓q0, ↓p1, ↓q1, ↓nw, ↓nnw, ↓ng, ↓nng]))
    refine toMeshN ⟨l0, hr0.keep kp11, m0, fun H12 bD0 pD0 gD0 xD0 => ?_⟩
    replace hw := hw.ext xD0
    replace rg := rg.ext xD0
    have kp12 := kp11.ext xD0
    have klkp12 := kp12.1
    have lekp12 := xD0.len
    have glD0 := blt gD0
    repeat' (first | with_reducible refine iteI (fun _ => ?_) (fun _ => ?_) | ((first | unfold AOpsC | unfold AOpsD | skip); simp (maxSteps := 1000000) (disch := (first | omega | assumption | (simp only [List.length_append, List.length_cons, List.length_nil, List.length_set]; omega))) only [go_sem, ↓skipC, ↓exitC, ↓retC, ↓seqC, ↓blockC, ↓condC, ↓regC, ↓drawC, ↓drawStep, ↓AOpC, ↓AOpF, ↓AOpE, ↓AEff, ↓contE_at, ↓contC_at, ↓keepC_at, ↓keepW_at, ↓keepO_at, ↓keepL_at, ↓map_parts, ↓reduceIte, reduceCtorEq, Nat.reduceLT, Nat.reduceEqDiff, Nat.reduceAdd, Nat.reduceMul, Nat.reduceLeDiff, Nat.reduceSub, Nat.reduceBEq, Nat.reduceBNe, Nat.reduceBneDiff, Nat.reduceBeqDiff, ag_26, ag_37, by_26, by_37, nf_26, nf_37, pl_26, pl_37, ps_26, ps_37, sz_26, sz_37, ze_26, ze_37, Sp5, Dr5, ↓p0, ↓q0, ↓p1, ↓q1, ↓nw, ↓nnw, ↓ng, ↓nng]))
    refine toEvN ⟨es1, hr1.keep kp12, m1, fun H13 bD1 pD1 gD1 xD1 => ?_⟩
    replace hw := hw.ext xD1
    replace rg := rg.ext xD1
    replace gD0 := xD1.blk gD0
    have kp13 := kp12.ext xD1
    have klkp13 := kp13.1
    have lekp13 := xD1.len
    have glD1 := blt gD1
    repeat' (first | with_reducible refine iteI (fun _ => ?_) (fun _ => ?_) | ((first | unfold AOpsC | unfold AOpsD | skip); simp (maxSteps := 1000000) (disch := (first | omega | assumption | (simp only [List.length_append, List.length_cons, List.length_nil, List.length_set]; omega))) only [go_sem, ↓skipC, ↓exitC, ↓retC, ↓seqC, ↓blockC, ↓condC, ↓regC, ↓drawC, ↓drawStep, ↓AOpC, ↓AOpF, ↓AOpE, ↓AEff, ↓contE_at, ↓contC_at, ↓keepC_at, ↓keepW_at, ↓keepO_at, ↓keepL_at, ↓map_parts, ↓reduceIte, reduceCtorEq, Nat.reduceLT, Nat.reduceEqDiff, Nat.reduceAdd, Nat.reduceMul, Nat.reduceLeDiff, Nat.reduceSub, Nat.reduceBEq, Nat.reduceBNe, Nat.reduceBneDiff, Nat.reduceBeqDiff, ag_26, ag_37, by_26, by_37, nf_26, nf_37, pl_26, pl_37, ps_26, ps_37, sz_26, sz_37, ze_26, ze_37, Sp5, Dr5, ↓p0, ↓q0, ↓p1, ↓q1, ↓nw, ↓nnw, ↓ng, ↓nng]))
    have dD0 := (show IsR 63 3 enc3 _ _ _ from ⟨bD0, 0, rfl, gD0⟩).dec3
    have oD0 : ok3 _ _ _ := ⟨l0, ⟨bD0, 0, rfl, gD0⟩, m0⟩
    have dD1 := (show IsR 76 2 enc2 _ _ _ from ⟨bD1, 0, rfl, gD1⟩).dec2
    have oD1 : ok2 _ _ _ := ⟨es1, ⟨bD1, 0, rfl, gD1⟩, m1⟩
    unfold SDrp
    simp only [dD0, oD0, dD1, oD1, true_and, and_self, and_true]
    refine fun H14 h hh xh => ?_
    obtain ⟨hh, fh⟩ := hh
    have nh := hh.noLoc.1
    have nnh := hh.noLoc.2
    have th := hh.lt
    replace hw := hw.ext xh
    replace rg := rg.ext xh
    replace gD0 := xh.blk gD0
    replace gD1 := xh.blk gD1
    have kp14 := kp13.ext xh
    have klkp14 := kp14.1
    have lekp14 := xh.len
    repeat' (first | with_reducible refine iteI (fun _ => ?_) (fun _ => ?_) | ((first | unfold AOpsC | unfold AOpsD | skip); simp (maxSteps := 1000000) (disch := (first | omega | assumption | (simp only [List.length_append, List.length_cons, List.length_nil, List.length_set]; omega))) only [go_sem, ↓skipC, ↓exitC, ↓retC, ↓seqC, ↓blockC, ↓condC, ↓regC, ↓drawC, ↓drawStep, ↓AOpC, ↓AOpF, ↓AOpE, ↓AEff, ↓contE_at, ↓contC_at, ↓keepC_at, ↓keepW_at, ↓keepO_at, ↓keepL_at, ↓map_parts, ↓reduceIte, reduceCtorEq, Nat.reduceLT, Nat.reduceEqDiff, Nat.reduceAdd, Nat.reduceMul, Nat.reduceLeDiff, Nat.reduceSub, Nat.reduceBEq, Nat.reduceBNe, Nat.reduceBneDiff, Nat.reduceBeqDiff, ag_26, ag_37, by_26, by_37, nf_26, nf_37, pl_26, pl_37, ps_26, ps_37, sz_26, sz_37, ze_26, ze_37, Sp5, Dr5, ↓p0, ↓q0, ↓p1, ↓q1, ↓nw, ↓nnw, ↓ng, ↓nng, ↓nh, ↓nnh]))
    unfold SEqEEv
    refine ⟨_, hh, hw, hL, ?_⟩
    repeat' (first | with_reducible refine iteI (fun _ => ?_) (fun _ => ?_) | ((first | unfold AOpsC | unfold AOpsD | skip); simp (maxSteps := 1000000) (disch := (first | omega | assumption | (simp only [List.length_append, List.length_cons, List.length_nil, List.length_set]; omega))) only [go_sem, ↓skipC, ↓exitC, ↓retC, ↓seqC, ↓blockC, ↓condC, ↓regC, ↓drawC, ↓drawStep, ↓AOpC, ↓AOpF, ↓AOpE, ↓AEff, ↓contE_at, ↓contC_at, ↓keepC_at, ↓keepW_at, ↓keepO_at, ↓keepL_at, ↓map_parts, ↓reduceIte, reduceCtorEq, Nat.reduceLT, Nat.reduceEqDiff, Nat.reduceAdd, Nat.reduceMul, Nat.reduceLeDiff, Nat.reduceSub, Nat.reduceBEq, Nat.reduceBNe, Nat.reduceBneDiff, Nat.reduceBeqDiff, ag_26, ag_37, by_26, by_37, nf_26, nf_37, pl_26, pl_37, ps_26, ps_37, sz_26, sz_37, ze_26, ze_37, Sp5, Dr5, ↓p0, ↓q0, ↓p1, ↓q1, ↓nw, ↓nnw, ↓ng, ↓nng, ↓nh, ↓nnh]))
    unfold SHeldEv
    refine ⟨_, rg, hL, by omega, by omega, ?_⟩
    repeat' (first | with_reducible refine iteI (fun _ => ?_) (fun _ => ?_) | ((first | unfold AOpsC | unfold AOpsD | skip); simp (maxSteps := 1000000) (disch := (first | omega | assumption | (simp only [List.length_append, List.length_cons, List.length_nil, List.length_set]; omega))) only [go_sem, ↓skipC, ↓exitC, ↓retC, ↓seqC, ↓blockC, ↓condC, ↓regC, ↓drawC, ↓drawStep, ↓AOpC, ↓AOpF, ↓AOpE, ↓AEff, ↓contE_at, ↓contC_at, ↓keepC_at, ↓keepW_at, ↓keepO_at, ↓keepL_at, ↓map_parts, ↓reduceIte, reduceCtorEq, Nat.reduceLT, Nat.reduceEqDiff, Nat.reduceAdd, Nat.reduceMul, Nat.reduceLeDiff, Nat.reduceSub, Nat.reduceBEq, Nat.reduceBNe, Nat.reduceBneDiff, Nat.reduceBeqDiff, ag_26, ag_37, by_26, by_37, nf_26, nf_37, pl_26, pl_37, ps_26, ps_37, sz_26, sz_37, ze_26, ze_37, Sp5, Dr5, ↓p0, ↓q0, ↓p1, ↓q1, ↓nw, ↓nnw, ↓ng, ↓nng, ↓nh, ↓nnh]))
    exact hK _
  · exact h.elim

/- the law -/
theorem law_ok {blks : List Blk} {x0 x1 x2 x3 : AV} (s0 : AvSh blks (.int .i64) x0) (s1 : AvSh blks (.rows 121 3 .i64) x1) (s2 : AvSh blks (.rows 80 2 .i64) x2) (s3 : AvSh blks (.int .i64) x3) : AF Try.prog blks.length 5 [.agg [x0, x1], x2, x3] blks fun v _ => v = .bool true := by
  obtain ⟨n0, rfl, _⟩ := s0
  obtain ⟨l0, h0, n0⟩ := row3 s1
  obtain ⟨es1, h1, n1⟩ := row2 s2
  obtain ⟨y2, rfl, _⟩ := s3
  exact f5_ok (show SLaw _ _ _ from ⟨l0, es1, ⟨h0, h1⟩, ⟨n0, n1⟩, fun _ => rfl⟩)

end Go.Proofs.Ytaalpmbopkbdiaa
