/- What functions of the program compute, said in the abstract logic; no conditions. -/
import Derived.Test.YtaalpmbopkbdiaaGBase
import Derived.Test.YtaalpmbopkbdiaaGIn
import Derived.Test.YtaalpmbopkbdiaaGIds
import Derived.Test.YtaalpmbopkbdiaaGEv
import Derived.Test.YtaalpmbopkbdiaaGRes
import Derived.Test.YtaalpmbopkbdiaaGInts
import Derived.Test.YtaalpmbopkbdiaaGIdx
import Derived.Test.YtaalpmbopkbdiaaGMesh
import Derived.Test.YtaalpmbopkbdiaaGBal
import Derived.Test.YtaalpmbopkbdiaaGState
import Derived.Test.YtaalpmbopkbdiaaGStTo
import Derived.Test.YtaalpmbopkbdiaaGResS
import Derived.Test.YtaalpmbopkbdiaaGDiv
import Derived.Test.YtaalpmbopkbdiaaGShare
import Derived.Test.YtaalpmbopkbdiaaGFlux
import Derived.Test.YtaalpmbopkbdiaaGFlux2
import Derived.Test.YtaalpmbopkbdiaaGOut
import Derived.Test.YtaalpmbopkbdiaaGCopy
import Derived.Test.YtaalpmbopkbdiaaGOwn
import Derived.Test.YtaalpmbopkbdiaaGRem
import Derived.Test.YtaalpmbopkbdiaaGCost
import Derived.Test.YtaalpmbopkbdiaaGAct
import Derived.Test.YtaalpmbopkbdiaaGMove
import Derived.Test.YtaalpmbopkbdiaaGStepQ
import Derived.Test.YtaalpmbopkbdiaaGSteep
import Derived.Test.YtaalpmbopkbdiaaGLedP
import Derived.Test.YtaalpmbopkbdiaaGStepOk
import Derived.Test.YtaalpmbopkbdiaaGRunG
import Derived.Test.YtaalpmbopkbdiaaGRunF
import Derived.Test.YtaalpmbopkbdiaaGRunQ
import Derived.Test.YtaalpmbopkbdiaaGMoveW
import Derived.Test.YtaalpmbopkbdiaaGRunE

namespace Go.Proofs.Ytaalpmbopkbdiaa
open Go
set_option linter.unusedSimpArgs false
set_option linter.unusedVariables false
set_option maxRecDepth 100000
set_option maxHeartbeats 8000000
attribute [local go_sem] st0 AC thenA andC locLoadB KsSW_same KsSW_grow oldLoadB noBlkB KsSL_same KsOS_same KsOS_grow pv ev put upd dstOk cv cvc binI setB Value.oneCell' EndA resA resA1 List.mapM_cons List.mapM_nil Option.pure_def Option.bind_eq_bind noLocV noLoc1 noLoc noLocs plainV cellsA newVarA putCells condA lam0 inBlockA cur lenA rowA writeA dstA appendC appendZ avoidsB avoidB clearB Array.toList_append Op.operands Call.operands newSlot Nat.zero_add Nat.add_zero Nat.succ_ne_self Nat.lt_add_one Nat.zero_lt_succ true_and and_true true_or or_true false_or or_false and_self true_implies forall_const Bool.false_eq_true Bool.true_eq_false false_implies implies_true imp_self ne_eq not_false_eq_true not_true_eq_false false_and and_false List.getElem?_toArray List.getElem?_cons_succ List.getElem?_cons_zero Option.bind_some Option.map_some Bool.not_true Bool.not_false List.getD_cons_zero List.getD_cons_succ Option.some.injEq exists_eq_left' AV.bool.injEq List.map_cons List.map_nil List.all_cons List.all_nil Bool.and_self Bool.and_true Bool.true_and List.append_nil List.cons_append List.nil_append List.length_cons List.length_nil List.drop_zero List.take_zero List.drop_succ_cons List.take_succ_cons List.take_nil List.drop_nil List.not_mem_nil List.mem_cons List.contains_nil List.contains_cons Bool.or_self Bool.or_true Bool.true_or Bool.false_or Bool.or_false Bool.and_false Bool.false_and KsS_same KsS_grow skipV KsS_ext KsSW_ext KsOS_ext rep1 rep2 rep3 rep4 rep5 List.flatten_cons List.flatten_nil partsA isPtr fillA List.size_toArray ltT ltF leT leF ltTn ltFn leTn leFn eqTi eqFi wrapId toNat1 intGet boolGet memD app_get app_last app_lst app_set app_setL app_setF set_ne set_eq gt_iff_lt ge_iff_le decide_eq_true_eq len2 len3 get20 get21 drop2 put2 get30 get31 get32 drop3 put3 putI pairEta bneTi bneFi beqTi beqFi bne_eq_false_iff_eq beq_eq_false_iff_ne beq_iff_eq bne_iff_ne Int.toNat_natCast Nat.mul_one List.length_map Bool.not_eq_true Bool.not_eq_false Bool.decide_eq_true decide_true decide_false Bool.not_eq_true' Bool.not_eq_false' decide_eq_false_iff_not eq_self Decidable.not_not

def SToMeshN : List AV → List Blk → (AV → List Blk → Prop) → Prop
  | [.agg [.int .i64 r, v]], η, K => ∃ l : List (Int × Int × Int), RowR 121 3 enc3 η v l ∧ l.length ≤ 1048576 ∧ ∀ H b, η.length ≤ b → H[b]? = some ⟨0, 63, 3, (l.map enc3).flatten⟩ → Ext η H → K (.agg [.int .i64 r, .sl b 0 0 l.length]) H
  | _, _, _ => False
theorem toMeshN {args : List AV} {η : List Blk} {K : AV → List Blk → Prop} (h : SToMeshN args η K) : SToMesh args η K := by
  unfold SToMeshN at h
  split at h
  · obtain ⟨l, h1, h2, h3⟩ := h
    exact ⟨l, h1, h2, h3 _ _ (Nat.le_refl _) (app_last _ _) ((Ext.refl _).app _)⟩
  · exact h.elim

def SToEvN : List AV → List Blk → (AV → List Blk → Prop) → Prop
  | [v], η, K => ∃ l : List (Int × Int), RowR 80 2 enc2 η v l ∧ l.length ≤ 1048576 ∧ ∀ H b, η.length ≤ b → H[b]? = some ⟨0, 76, 2, (l.map enc2).flatten⟩ → Ext η H → K (.sl b 0 0 l.length) H
  | _, _, _ => False
theorem toEvN {args : List AV} {η : List Blk} {K : AV → List Blk → Prop} (h : SToEvN args η K) : SToEv args η K := by
  unfold SToEvN at h
  split at h
  · obtain ⟨l, h1, h2, h3⟩ := h
    exact ⟨l, h1, h2, h3 _ _ (Nat.le_refl _) (app_last _ _) ((Ext.refl _).app _)⟩
  · exact h.elim

def SLaw : List AV → List Blk → (AV → List Blk → Prop) → Prop
  | [.agg [.int .i64 r0, v0, va0, vb0, vc0], v1], η, K => ∃ (l0 : List (Int × Int × Int)) (ms0 : List Int) (ts0 : List Int) (bs0 : List Int) (es1 : List (Int × Int)), (ROWS4 η v0 va0 vb0 vc0 l0 ms0 ts0 bs0 ∧ RowR 80 2 enc2 η v1 es1) ∧ (len4 maxLen l0 ms0 ts0 bs0 ∧ es1.length ≤ maxLen) ∧ ∀ H, K (.bool true) H
  | _, _, _ => False

/- laws.FnExactRunEvents -/
def Sp4 (lo : Nat) : Spec := fun g args η K => match g with | 15 => SSzState args η K | 16 => SSzEv args η K | 17 => SRvE args η K | 18 => SToStN args η K | 19 => SToEv args η K | 20 => SRvE args η K | 21 => SEqState args η K | 22 => SEqEEv args η K | 23 => SMarkSt lo args η K | 24 => SMarkEv lo args η K | 25 => SHeldSt args η K | _ => False
theorem Sp4_ok {lo : Nat} : Sound Try.prog lo (Sp4 lo) := by
  intro g args η K h
  unfold Sp4 at h
  split at h
  · exact .inl (f15_ok h)
  · exact .inl (f16_ok h)
  · exact .inl (f17_ok h)
  · exact .inl (f18N_ok h)
  · exact .inl (f19_ok h)
  · exact .inl (f20_ok h)
  · exact .inl (f21_ok h)
  · exact .inl (f22E_ok h)
  · exact .inl (f23_ok h)
  · exact .inl (f24_ok h)
  · exact .inl (f25_ok h)
  · exact h.elim
def Dr4 : Draws := fun id => match id with | 14 => ([0, 0, 2, 7, 15], [2], [], (.one 0 (.one 1 (.one 2 (.one 3 (.one 4 .nil)))))) | _ => ([], [], [], .nil)
theorem f4_ok {lo : Nat} {args : List AV} {η : List Blk} {K : AV → List Blk → Prop} (h : SLaw args η K) : AF Try.prog lo 4 args η K := by
  unfold SLaw at h
  split at h
  · obtain ⟨l0, ms0, ts0, bs0, es1, ⟨hr0, hr1⟩, ⟨hn0, hn1⟩, hK⟩ := h
    rename_i r0 v0 va0 vb0 vc0 v1
    have hml : maxLen = 9223372036854775807 := rfl
    obtain ⟨qa0, qb0, qc0, qd0⟩ := hr0.noLoc
    obtain ⟨pa0, pb0, pc0, pd0⟩ := hr0.noLoc1
    obtain ⟨hna0, hnb0, hnc0, hnd0⟩ := hn0
    have p1 := (noLocR hr1).1
    have q1 := (noLocR hr1).2
    refine AF_run Sp4_ok Dr4 [] [.tmp 4] hm Try.func4 rfl (by decide) Try.ntmps4 rfl (by kernel_rfl) (Nat.le_of_ble_eq_true rfl) ?_; intro hlo
    repeat' (first | with_reducible refine iteI (fun _ => ?_) (fun _ => ?_) | ((first | unfold AOpsC | unfold AOpsD | skip); simp (maxSteps := 1000000) (disch := (first | omega | assumption | (simp only [List.length_append, List.length_cons, List.length_nil, List.length_set]; omega))) only [go_sem, ↓skipC, ↓exitC, ↓retC, ↓seqC, ↓blockC, ↓condC, ↓regC, ↓drawC, ↓drawStep, ↓AOpC, ↓AOpF, ↓AOpE, ↓AEff, ↓contE_at, ↓contC_at, ↓keepC_at, ↓keepW_at, ↓keepO_at, ↓keepL_at, ↓map_parts, ↓reduceIte, reduceCtorEq, Nat.reduceLT, Nat.reduceEqDiff, Nat.reduceAdd, Nat.reduceMul, Nat.reduceLeDiff, Nat.reduceSub, Nat.reduceBEq, Nat.reduceBNe, Nat.reduceBneDiff, Nat.reduceBeqDiff, ag_29, ag_39, by_29, by_39, nf_29, nf_39, pl_29, pl_39, ps_29, ps_39, sz_29, sz_39, ze_29, ze_39, Sp4, Dr4, ↓qa0, ↓qb0, ↓qc0, ↓qd0, ↓pa0, ↓pb0, ↓pc0, ↓pd0, ↓p1, ↓q1]))
    unfold SSzState
    refine ⟨by simp, l0, ms0, ts0, bs0, hr0, ⟨hna0, hnb0, hnc0, hnd0⟩, ?_⟩
    unfold sz4
    by_cases hsz0 : ((l0.length : Int) + (ms0.length : Int) + (ts0.length : Int) + (bs0.length : Int)) ≤ 1048576
    case neg =>
      rw [if_neg hsz0]
      repeat' (first | with_reducible refine iteI (fun _ => ?_) (fun _ => ?_) | ((first | unfold AOpsC | unfold AOpsD | skip); simp (maxSteps := 1000000) (disch := (first | omega | assumption | (simp only [List.length_append, List.length_cons, List.length_nil, List.length_set]; omega))) only [go_sem, ↓skipC, ↓exitC, ↓retC, ↓seqC, ↓blockC, ↓condC, ↓regC, ↓drawC, ↓drawStep, ↓AOpC, ↓AOpF, ↓AOpE, ↓AEff, ↓contE_at, ↓contC_at, ↓keepC_at, ↓keepW_at, ↓keepO_at, ↓keepL_at, ↓map_parts, ↓reduceIte, reduceCtorEq, Nat.reduceLT, Nat.reduceEqDiff, Nat.reduceAdd, Nat.reduceMul, Nat.reduceLeDiff, Nat.reduceSub, Nat.reduceBEq, Nat.reduceBNe, Nat.reduceBneDiff, Nat.reduceBeqDiff, ag_29, ag_39, by_29, by_39, nf_29, nf_39, pl_29, pl_39, ps_29, ps_39, sz_29, sz_39, ze_29, ze_39, Sp4, Dr4]))
      exact hK _
    rw [if_pos hsz0]
    have ma0 : l0.length ≤ 1048576 := by omega
    have mb0 : ms0.length ≤ 1048576 := by omega
    have mc0 : ts0.length ≤ 1048576 := by omega
    have md0 : bs0.length ≤ 1048576 := by omega
    have m0 : len4 1048576 l0 ms0 ts0 bs0 := ⟨ma0, mb0, mc0, md0⟩
    repeat' (first | with_reducible refine iteI (fun _ => ?_) (fun _ => ?_) | ((first | unfold AOpsC | unfold AOpsD | skip); simp (maxSteps := 1000000) (disch := (first | omega | assumption | (simp only [List.length_append, List.length_cons, List.length_nil, List.length_set]; omega))) only [go_sem, ↓skipC, ↓exitC, ↓retC, ↓seqC, ↓blockC, ↓condC, ↓regC, ↓drawC, ↓drawStep, ↓AOpC, ↓AOpF, ↓AOpE, ↓AEff, ↓contE_at, ↓contC_at, ↓keepC_at, ↓keepW_at, ↓keepO_at, ↓keepL_at, ↓map_parts, ↓reduceIte, reduceCtorEq, Nat.reduceLT, Nat.reduceEqDiff, Nat.reduceAdd, Nat.reduceMul, Nat.reduceLeDiff, Nat.reduceSub, Nat.reduceBEq, Nat.reduceBNe, Nat.reduceBneDiff, Nat.reduceBeqDiff, ag_29, ag_39, by_29, by_39, nf_29, nf_39, pl_29, pl_39, ps_29, ps_39, sz_29, sz_39, ze_29, ze_39, Sp4, Dr4, ↓qa0, ↓qb0, ↓qc0, ↓qd0, ↓pa0, ↓pb0, ↓pc0, ↓pd0, ↓p1, ↓q1]))
    unfold SSzEv
    refine ⟨es1, hr1, hn1, by omega, by omega, ?_⟩
    by_cases hsz1 : (es1.length : Int) ≤ 1048576 - ((l0.length : Int) + (ms0.length : Int) + (ts0.length : Int) + (bs0.length : Int))
    case neg =>
      rw [szI_neg hsz1]
      repeat' (first | with_reducible refine iteI (fun _ => ?_) (fun _ => ?_) | ((first | unfold AOpsC | unfold AOpsD | skip); simp (maxSteps := 1000000) (disch := (first | omega | assumption | (simp only [List.length_append, List.length_cons, List.length_nil, List.length_set]; omega))) only [go_sem, ↓skipC, ↓exitC, ↓retC, ↓seqC, ↓blockC, ↓condC, ↓regC, ↓drawC, ↓drawStep, ↓AOpC, ↓AOpF, ↓AOpE, ↓AEff, ↓contE_at, ↓contC_at, ↓keepC_at, ↓keepW_at, ↓keepO_at, ↓keepL_at, ↓map_parts, ↓reduceIte, reduceCtorEq, Nat.reduceLT, Nat.reduceEqDiff, Nat.reduceAdd, Nat.reduceMul, Nat.reduceLeDiff, Nat.reduceSub, Nat.reduceBEq, Nat.reduceBNe, Nat.reduceBneDiff, Nat.reduceBeqDiff, ag_29, ag_39, by_29, by_39, nf_29, nf_39, pl_29, pl_39, ps_29, ps_39, sz_29, sz_39, ze_29, ze_39, Sp4, Dr4]))
      exact hK _
    rw [szI_pos hsz1]
    have m1 : es1.length ≤ 1048576 := by omega
    repeat' (first | with_reducible refine iteI (fun _ => ?_) (fun _ => ?_) | ((first | unfold AOpsC | unfold AOpsD | skip); simp (maxSteps := 1000000) (disch := (first | omega | assumption | (simp only [List.length_append, List.length_cons, List.length_nil, List.length_set]; omega))) only [go_sem, ↓skipC, ↓exitC, ↓retC, ↓seqC, ↓blockC, ↓condC, ↓regC, ↓drawC, ↓drawStep, ↓AOpC, ↓AOpF, ↓AOpE, ↓AEff, ↓contE_at, ↓contC_at, ↓keepC_at, ↓keepW_at, ↓keepO_at, ↓keepL_at, ↓map_parts, ↓reduceIte, reduceCtorEq, Nat.reduceLT, Nat.reduceEqDiff, Nat.reduceAdd, Nat.reduceMul, Nat.reduceLeDiff, Nat.reduceSub, Nat.reduceBEq, Nat.reduceBNe, Nat.reduceBneDiff, Nat.reduceBeqDiff, ag_29, ag_39, by_29, by_39, nf_29, nf_39, pl_29, pl_39, ps_29, ps_39, sz_29, sz_39, ze_29, ze_39, Sp4, Dr4, ↓qa0, ↓qb0, ↓qc0, ↓qd0, ↓pa0, ↓pb0, ↓pc0, ↓pd0, ↓p1, ↓q1]))
    have kp0 : Keep η.length η η := Keep.refl η
    unfold SToStN
    refine ⟨l0, ms0, ts0, bs0, hr0.keep kp0, m0, fun H1 bA0_0 bA0_1 bA0_2 bA0_3 gA0 xA0 => ?_⟩
    have kp1 := kp0.ext xA0
    have klkp1 := kp1.1
    have lekp1 := xA0.len
    have glA0 := fun c => gA0.lt (c := c)
    have gnA0 := fun c => gA0.low (c := c)
    repeat' (first | with_reducible refine iteI (fun _ => ?_) (fun _ => ?_) | ((first | unfold AOpsC | unfold AOpsD | skip); simp (maxSteps := 1000000) (disch := (first | omega | assumption | (simp only [List.length_append, List.length_cons, List.length_nil, List.length_set]; omega))) only [go_sem, ↓skipC, ↓exitC, ↓retC, ↓seqC, ↓blockC, ↓condC, ↓regC, ↓drawC, ↓drawStep, ↓AOpC, ↓AOpF, ↓AOpE, ↓AEff, ↓contE_at, ↓contC_at, ↓keepC_at, ↓keepW_at, ↓keepO_at, ↓keepL_at, ↓map_parts, ↓reduceIte, reduceCtorEq, Nat.reduceLT, Nat.reduceEqDiff, Nat.reduceAdd, Nat.reduceMul, Nat.reduceLeDiff, Nat.reduceSub, Nat.reduceBEq, Nat.reduceBNe, Nat.reduceBneDiff, Nat.reduceBeqDiff, ag_29, ag_39, by_29, by_39, nf_29, nf_39, pl_29, pl_39, ps_29, ps_39, sz_29, sz_39, ze_29, ze_39, Sp4, Dr4, ↓qa0, ↓qb0, ↓qc0, ↓qd0, ↓pa0, ↓pb0, ↓pc0, ↓pd0, ↓p1, ↓q1]))
    refine toEvN ⟨es1, hr1.keep kp1, m1, fun H2 bA1 pA1 gA1 xA1 => ?_⟩
    replace gA0 := gA0.ext xA1
    have kp2 := kp1.ext xA1
    have klkp2 := kp2.1
    have lekp2 := xA1.len
    have glA1 := blt gA1
    repeat' (first | with_reducible refine iteI (fun _ => ?_) (fun _ => ?_) | ((first | unfold AOpsC | unfold AOpsD | skip); simp (maxSteps := 1000000) (disch := (first | omega | assumption | (simp only [List.length_append, List.length_cons, List.length_nil, List.length_set]; omega))) only [go_sem, ↓skipC, ↓exitC, ↓retC, ↓seqC, ↓blockC, ↓condC, ↓regC, ↓drawC, ↓drawStep, ↓AOpC, ↓AOpF, ↓AOpE, ↓AEff, ↓contE_at, ↓contC_at, ↓keepC_at, ↓keepW_at, ↓keepO_at, ↓keepL_at, ↓map_parts, ↓reduceIte, reduceCtorEq, Nat.reduceLT, Nat.reduceEqDiff, Nat.reduceAdd, Nat.reduceMul, Nat.reduceLeDiff, Nat.reduceSub, Nat.reduceBEq, Nat.reduceBNe, Nat.reduceBneDiff, Nat.reduceBeqDiff, ag_29, ag_39, by_29, by_39, nf_29, nf_39, pl_29, pl_39, ps_29, ps_39, sz_29, sz_39, ze_29, ze_39, Sp4, Dr4, ↓qa0, ↓qb0, ↓qc0, ↓qd0, ↓pa0, ↓pb0, ↓pc0, ↓pd0, ↓p1, ↓q1]))
    have iA0 := gA0.is4
    have dA0_0 := iA0.1.dec3
    have oA0_0 : ok3 63 _ _ := ⟨_, iA0.1, ma0⟩
    have dA0_1 := iA0.2.1.dec
    have oA0_1 : okI _ _ := ⟨_, iA0.2.1, mb0⟩
    have dA0_2 := iA0.2.2.1.dec
    have oA0_2 : okI _ _ := ⟨_, iA0.2.2.1, mc0⟩
    have dA0_3 := iA0.2.2.2.dec
    have oA0_3 : okI _ _ := ⟨_, iA0.2.2.2, md0⟩
    have dA1 := (show IsR 76 2 enc2 _ _ _ from ⟨bA1, 0, rfl, gA1⟩).dec2
    have oA1 : ok2 _ _ _ := ⟨es1, ⟨bA1, 0, rfl, gA1⟩, m1⟩
    unfold SRvE
    simp only [dA0_0, oA0_0, dA0_1, oA0_1, dA0_2, oA0_2, dA0_3, oA0_3, dA1, oA1, true_and, and_self, and_true]
    refine fun H3 bw_0 bw_1 bw_2 bw_3 vw_0 vw_1 vw_2 vw_3 hw xw => ?_
    have glw := fun c => hw.lt (c := c)
    have gnw := fun c => hw.low (c := c)
    replace gA0 := gA0.ext xw
    replace gA1 := xw.blk gA1
    have kp3 := kp2.ext xw
    have klkp3 := kp3.1
    have lekp3 := xw.len
    repeat' (first | with_reducible refine iteI (fun _ => ?_) (fun _ => ?_) | ((first | unfold AOpsC | unfold AOpsD | skip); simp (maxSteps := 1000000) (disch := (first | omega | assumption | (simp only [List.length_append, List.length_cons, List.length_nil, List.length_set]; omega))) only [go_sem, ↓skipC, ↓exitC, ↓retC, ↓seqC, ↓blockC, ↓condC, ↓regC, ↓drawC, ↓drawStep, ↓AOpC, ↓AOpF, ↓AOpE, ↓AEff, ↓contE_at, ↓contC_at, ↓keepC_at, ↓keepW_at, ↓keepO_at, ↓keepL_at, ↓map_parts, ↓reduceIte, reduceCtorEq, Nat.reduceLT, Nat.reduceEqDiff, Nat.reduceAdd, Nat.reduceMul, Nat.reduceLeDiff, Nat.reduceSub, Nat.reduceBEq, Nat.reduceBNe, Nat.reduceBneDiff, Nat.reduceBeqDiff, ag_29, ag_39, by_29, by_39, nf_29, nf_39, pl_29, pl_39, ps_29, ps_39, sz_29, sz_39, ze_29, ze_39, Sp4, Dr4, ↓qa0, ↓qb0, ↓qc0, ↓qd0, ↓pa0, ↓pb0, ↓pc0, ↓pd0, ↓p1, ↓q1]))
    unfold SToStN
    refine ⟨l0, ms0, ts0, bs0, hr0.keep kp3, m0, fun H4 bB0_0 bB0_1 bB0_2 bB0_3 gB0 xB0 => ?_⟩
    replace hw := hw.ext xB0
    have kp4 := kp3.ext xB0
    have klkp4 := kp4.1
    have lekp4 := xB0.len
    have glB0 := fun c => gB0.lt (c := c)
    have gnB0 := fun c => gB0.low (c := c)
    repeat' (first | with_reducible refine iteI (fun _ => ?_) (fun _ => ?_) | ((first | unfold AOpsC | unfold AOpsD | skip); simp (maxSteps := 1000000) (disch := (first | omega | assumption | (simp only [List.length_append, List.length_cons, List.length_nil, List.length_set]; omega))) only [go_sem, ↓skipC, ↓exitC, ↓retC, ↓seqC, ↓blockC, ↓condC, ↓regC, ↓drawC, ↓drawStep, ↓AOpC, ↓AOpF, ↓AOpE, ↓AEff, ↓contE_at, ↓contC_at, ↓keepC_at, ↓keepW_at, ↓keepO_at, ↓keepL_at, ↓map_parts, ↓reduceIte, reduceCtorEq, Nat.reduceLT, Nat.reduceEqDiff, Nat.reduceAdd, Nat.reduceMul, Nat.reduceLeDiff, Nat.reduceSub, Nat.reduceBEq, Nat.reduceBNe, Nat.reduceBneDiff, Nat.reduceBeqDiff, ag_29, ag_39, by_29, by_39, nf_29, nf_39, pl_29, pl_39, ps_29, ps_39, sz_29, sz_39, ze_29, ze_39, Sp4, Dr4, ↓qa0, ↓qb0, ↓qc0, ↓qd0, ↓pa0, ↓pb0, ↓pc0, ↓pd0, ↓p1, ↓q1]))
    refine toEvN ⟨es1, hr1.keep kp4, m1, fun H5 bB1 pB1 gB1 xB1 => ?_⟩
    replace hw := hw.ext xB1
    replace gB0 := gB0.ext xB1
    have kp5 := kp4.ext xB1
    have klkp5 := kp5.1
    have lekp5 := xB1.len
    have glB1 := blt gB1
    repeat' (first | with_reducible refine iteI (fun _ => ?_) (fun _ => ?_) | ((first | unfold AOpsC | unfold AOpsD | skip); simp (maxSteps := 1000000) (disch := (first | omega | assumption | (simp only [List.length_append, List.length_cons, List.length_nil, List.length_set]; omega))) only [go_sem, ↓skipC, ↓exitC, ↓retC, ↓seqC, ↓blockC, ↓condC, ↓regC, ↓drawC, ↓drawStep, ↓AOpC, ↓AOpF, ↓AOpE, ↓AEff, ↓contE_at, ↓contC_at, ↓keepC_at, ↓keepW_at, ↓keepO_at, ↓keepL_at, ↓map_parts, ↓reduceIte, reduceCtorEq, Nat.reduceLT, Nat.reduceEqDiff, Nat.reduceAdd, Nat.reduceMul, Nat.reduceLeDiff, Nat.reduceSub, Nat.reduceBEq, Nat.reduceBNe, Nat.reduceBneDiff, Nat.reduceBeqDiff, ag_29, ag_39, by_29, by_39, nf_29, nf_39, pl_29, pl_39, ps_29, ps_39, sz_29, sz_39, ze_29, ze_39, Sp4, Dr4, ↓qa0, ↓qb0, ↓qc0, ↓qd0, ↓pa0, ↓pb0, ↓pc0, ↓pd0, ↓p1, ↓q1]))
    have iB0 := gB0.is4
    have dB0_0 := iB0.1.dec3
    have oB0_0 : ok3 63 _ _ := ⟨_, iB0.1, ma0⟩
    have dB0_1 := iB0.2.1.dec
    have oB0_1 : okI _ _ := ⟨_, iB0.2.1, mb0⟩
    have dB0_2 := iB0.2.2.1.dec
    have oB0_2 : okI _ _ := ⟨_, iB0.2.2.1, mc0⟩
    have dB0_3 := iB0.2.2.2.dec
    have oB0_3 : okI _ _ := ⟨_, iB0.2.2.2, md0⟩
    have dB1 := (show IsR 76 2 enc2 _ _ _ from ⟨bB1, 0, rfl, gB1⟩).dec2
    have oB1 : ok2 _ _ _ := ⟨es1, ⟨bB1, 0, rfl, gB1⟩, m1⟩
    unfold SRvE
    simp only [dB0_0, oB0_0, dB0_1, oB0_1, dB0_2, oB0_2, dB0_3, oB0_3, dB1, oB1, true_and, and_self, and_true]
    refine fun H6 bg_0 bg_1 bg_2 bg_3 vg_0 vg_1 vg_2 vg_3 hg xg => ?_
    have glg := fun c => hg.lt (c := c)
    have gng := fun c => hg.low (c := c)
    replace hw := hw.ext xg
    replace gB0 := gB0.ext xg
    replace gB1 := xg.blk gB1
    have kp6 := kp5.ext xg
    have klkp6 := kp6.1
    have lekp6 := xg.len
    repeat' (first | with_reducible refine iteI (fun _ => ?_) (fun _ => ?_) | ((first | unfold AOpsC | unfold AOpsD | skip); simp (maxSteps := 1000000) (disch := (first | omega | assumption | (simp only [List.length_append, List.length_cons, List.length_nil, List.length_set]; omega))) only [go_sem, ↓skipC, ↓exitC, ↓retC, ↓seqC, ↓blockC, ↓condC, ↓regC, ↓drawC, ↓drawStep, ↓AOpC, ↓AOpF, ↓AOpE, ↓AEff, ↓contE_at, ↓contC_at, ↓keepC_at, ↓keepW_at, ↓keepO_at, ↓keepL_at, ↓map_parts, ↓reduceIte, reduceCtorEq, Nat.reduceLT, Nat.reduceEqDiff, Nat.reduceAdd, Nat.reduceMul, Nat.reduceLeDiff, Nat.reduceSub, Nat.reduceBEq, Nat.reduceBNe, Nat.reduceBneDiff, Nat.reduceBeqDiff, ag_29, ag_39, by_29, by_39, nf_29, nf_39, pl_29, pl_39, ps_29, ps_39, sz_29, sz_39, ze_29, ze_39, Sp4, Dr4, ↓qa0, ↓qb0, ↓qc0, ↓qd0, ↓pa0, ↓pb0, ↓pc0, ↓pd0, ↓p1, ↓q1]))
    have hL : len4 1048576 l0 (rvR r0 l0 ms0 ts0 bs0 es1).1 (rvR r0 l0 ms0 ts0 bs0 es1).2 bs0 := ⟨ma0, by rw [rvR_len.1]; exact mb0, by rw [rvR_len.2]; exact mc0, md0⟩
    obtain ⟨hL1, hL2, hL3, hL4⟩ := id hL
    unfold SEqState
    refine ⟨_, _, _, _, _, _, _, _, hg.is4, hw.is4, hL, ?_⟩
    repeat' (first | with_reducible refine iteI (fun _ => ?_) (fun _ => ?_) | ((first | unfold AOpsC | unfold AOpsD | skip); simp (maxSteps := 1000000) (disch := (first | omega | assumption | (simp only [List.length_append, List.length_cons, List.length_nil, List.length_set]; omega))) only [go_sem, ↓skipC, ↓exitC, ↓retC, ↓seqC, ↓blockC, ↓condC, ↓regC, ↓drawC, ↓drawStep, ↓AOpC, ↓AOpF, ↓AOpE, ↓AEff, ↓contE_at, ↓contC_at, ↓keepC_at, ↓keepW_at, ↓keepO_at, ↓keepL_at, ↓map_parts, ↓reduceIte, reduceCtorEq, Nat.reduceLT, Nat.reduceEqDiff, Nat.reduceAdd, Nat.reduceMul, Nat.reduceLeDiff, Nat.reduceSub, Nat.reduceBEq, Nat.reduceBNe, Nat.reduceBneDiff, Nat.reduceBeqDiff, ag_29, ag_39, by_29, by_39, nf_29, nf_39, pl_29, pl_39, ps_29, ps_39, sz_29, sz_39, ze_29, ze_39, Sp4, Dr4, ↓qa0, ↓qb0, ↓qc0, ↓qd0, ↓pa0, ↓pb0, ↓pc0, ↓pd0, ↓p1, ↓q1]))
    unfold SToStN
    refine ⟨l0, ms0, ts0, bs0, hr0.keep kp6, m0, fun H7 bC00_0 bC00_1 bC00_2 bC00_3 gC00 xC00 => ?_⟩
    replace hw := hw.ext xC00
    replace gB0 := gB0.ext xC00
    replace gB1 := xC00.blk gB1
    replace hg := hg.ext xC00
    have kp7 := kp6.ext xC00
    have klkp7 := kp7.1
    have lekp7 := xC00.len
    have glC00 := fun c => gC00.lt (c := c)
    have gnC00 := fun c => gC00.low (c := c)
    repeat' (first | with_reducible refine iteI (fun _ => ?_) (fun _ => ?_) | ((first | unfold AOpsC | unfold AOpsD | skip); simp (maxSteps := 1000000) (disch := (first | omega | assumption | (simp only [List.length_append, List.length_cons, List.length_nil, List.length_set]; omega))) only [go_sem, ↓skipC, ↓exitC, ↓retC, ↓seqC, ↓blockC, ↓condC, ↓regC, ↓drawC, ↓drawStep, ↓AOpC, ↓AOpF, ↓AOpE, ↓AEff, ↓contE_at, ↓contC_at, ↓keepC_at, ↓keepW_at, ↓keepO_at, ↓keepL_at, ↓map_parts, ↓reduceIte, reduceCtorEq, Nat.reduceLT, Nat.reduceEqDiff, Nat.reduceAdd, Nat.reduceMul, Nat.reduceLeDiff, Nat.reduceSub, Nat.reduceBEq, Nat.reduceBNe, Nat.reduceBneDiff, Nat.reduceBeqDiff, ag_29, ag_39, by_29, by_39, nf_29, nf_39, pl_29, pl_39, ps_29, ps_39, sz_29, sz_39, ze_29, ze_39, Sp4, Dr4, ↓qa0, ↓qb0, ↓qc0, ↓qd0, ↓pa0, ↓pb0, ↓pc0, ↓pd0, ↓p1, ↓q1]))
    unfold SEqState
    refine ⟨l0, ms0, ts0, bs0, l0, ms0, ts0, bs0, gB0.is4, gC00.is4, m0, ?_⟩
    repeat' (first | with_reducible refine iteI (fun _ => ?_) (fun _ => ?_) | ((first | unfold AOpsC | unfold AOpsD | skip); simp (maxSteps := 1000000) (disch := (first | omega | assumption | (simp only [List.length_append, List.length_cons, List.length_nil, List.length_set]; omega))) only [go_sem, ↓skipC, ↓exitC, ↓retC, ↓seqC, ↓blockC, ↓condC, ↓regC, ↓drawC, ↓drawStep, ↓AOpC, ↓AOpF, ↓AOpE, ↓AEff, ↓contE_at, ↓contC_at, ↓keepC_at, ↓keepW_at, ↓keepO_at, ↓keepL_at, ↓map_parts, ↓reduceIte, reduceCtorEq, Nat.reduceLT, Nat.reduceEqDiff, Nat.reduceAdd, Nat.reduceMul, Nat.reduceLeDiff, Nat.reduceSub, Nat.reduceBEq, Nat.reduceBNe, Nat.reduceBneDiff, Nat.reduceBeqDiff, ag_29, ag_39, by_29, by_39, nf_29, nf_39, pl_29, pl_39, ps_29, ps_39, sz_29, sz_39, ze_29, ze_39, Sp4, Dr4, ↓qa0, ↓qb0, ↓qc0, ↓qd0, ↓pa0, ↓pb0, ↓pc0, ↓pd0, ↓p1, ↓q1]))
    refine toEvN ⟨es1, hr1.keep kp7, m1, fun H8 bC11 pC11 gC11 xC11 => ?_⟩
    replace hw := hw.ext xC11
    replace gB0 := gB0.ext xC11
    replace gB1 := xC11.blk gB1
    replace hg := hg.ext xC11
    have kp8 := kp7.ext xC11
    have klkp8 := kp8.1
    have lekp8 := xC11.len
    have glC11 := blt gC11
    repeat' (first | with_reducible refine iteI (fun _ => ?_) (fun _ => ?_) | ((first | unfold AOpsC | unfold AOpsD | skip); simp (maxSteps := 1000000) (disch := (first | omega | assumption | (simp only [List.length_append, List.length_cons, List.length_nil, List.length_set]; omega))) only [go_sem, ↓skipC, ↓exitC, ↓retC, ↓seqC, ↓blockC, ↓condC, ↓regC, ↓drawC, ↓drawStep, ↓AOpC, ↓AOpF, ↓AOpE, ↓AEff, ↓contE_at, ↓contC_at, ↓keepC_at, ↓keepW_at, ↓keepO_at, ↓keepL_at, ↓map_parts, ↓reduceIte, reduceCtorEq, Nat.reduceLT, Nat.reduceEqDiff, Nat.reduceAdd, Nat.reduceMul, Nat.reduceLeDiff, Nat.reduceSub, Nat.reduceBEq, Nat.reduceBNe, Nat.reduceBneDiff, Nat.reduceBeqDiff, ag_29, ag_39, by_29, by_39, nf_29, nf_39, pl_29, pl_39, ps_29, ps_39, sz_29, sz_39, ze_29, ze_39, Sp4, Dr4, ↓qa0, ↓qb0, ↓qc0, ↓qd0, ↓pa0, ↓pb0, ↓pc0, ↓pd0, ↓p1, ↓q1]))
    unfold SEqEEv
    refine ⟨es1, .inr ⟨bB1, 0, rfl, gB1⟩, .inr ⟨bC11, 0, rfl, gC11⟩, m1, ?_⟩
    repeat' (first | with_reducible refine iteI (fun _ => ?_) (fun _ => ?_) | ((first | unfold AOpsC | unfold AOpsD | skip); simp (maxSteps := 1000000) (disch := (first | omega | assumption | (simp only [List.length_append, List.length_cons, List.length_nil, List.length_set]; omega))) only [go_sem, ↓skipC, ↓exitC, ↓retC, ↓seqC, ↓blockC, ↓condC, ↓regC, ↓drawC, ↓drawStep, ↓AOpC, ↓AOpF, ↓AOpE, ↓AEff, ↓contE_at, ↓contC_at, ↓keepC_at, ↓keepW_at, ↓keepO_at, ↓keepL_at, ↓map_parts, ↓reduceIte, reduceCtorEq, Nat.reduceLT, Nat.reduceEqDiff, Nat.reduceAdd, Nat.reduceMul, Nat.reduceLeDiff, Nat.reduceSub, Nat.reduceBEq, Nat.reduceBNe, Nat.reduceBneDiff, Nat.reduceBeqDiff, ag_29, ag_39, by_29, by_39, nf_29, nf_39, pl_29, pl_39, ps_29, ps_39, sz_29, sz_39, ze_29, ze_39, Sp4, Dr4, ↓qa0, ↓qb0, ↓qc0, ↓qd0, ↓pa0, ↓pb0, ↓pc0, ↓pd0, ↓p1, ↓q1]))
    unfold SMarkSt
    refine ⟨l0, ms0, ts0, bs0, _, gB0, by omega, ⟨rfl, rfl, rfl, rfl⟩, m0, by omega, by omega, fun H9 tM0 rM0 => ?_⟩
    replace hw := hw.touch tM0 (fun c (e : hit4 bB0_0 bB0_1 bB0_2 bB0_3 c) e2 => by have := gnB0 c e; have := glB0 c e; have := gnw c e2; have := glw c e2; omega)
    replace gB1 := tM0.blk (fun (e : hit4 bB0_0 bB0_1 bB0_2 bB0_3 bB1) => by have := gnB0 _ e; have := glB0 _ e; omega) gB1
    replace hg := hg.touch tM0 (fun c (e : hit4 bB0_0 bB0_1 bB0_2 bB0_3 c) e2 => by have := gnB0 c e; have := glB0 c e; have := gng c e2; have := glg c e2; omega)
    have kp9 := kp8.touch tM0 (fun c (hc : hit4 bB0_0 bB0_1 bB0_2 bB0_3 c) => by have := gnB0 c hc; have := glB0 c hc; omega)
    have klkp9 := kp9.1
    repeat' (first | with_reducible refine iteI (fun _ => ?_) (fun _ => ?_) | ((first | unfold AOpsC | unfold AOpsD | skip); simp (maxSteps := 1000000) (disch := (first | omega | assumption | (simp only [List.length_append, List.length_cons, List.length_nil, List.length_set]; omega))) only [go_sem, ↓skipC, ↓exitC, ↓retC, ↓seqC, ↓blockC, ↓condC, ↓regC, ↓drawC, ↓drawStep, ↓AOpC, ↓AOpF, ↓AOpE, ↓AEff, ↓contE_at, ↓contC_at, ↓keepC_at, ↓keepW_at, ↓keepO_at, ↓keepL_at, ↓map_parts, ↓reduceIte, reduceCtorEq, Nat.reduceLT, Nat.reduceEqDiff, Nat.reduceAdd, Nat.reduceMul, Nat.reduceLeDiff, Nat.reduceSub, Nat.reduceBEq, Nat.reduceBNe, Nat.reduceBneDiff, Nat.reduceBeqDiff, ag_29, ag_39, by_29, by_39, nf_29, nf_39, pl_29, pl_39, ps_29, ps_39, sz_29, sz_39, ze_29, ze_39, Sp4, Dr4, ↓qa0, ↓qb0, ↓qc0, ↓qd0, ↓pa0, ↓pb0, ↓pc0, ↓pd0, ↓p1, ↓q1]))
    unfold SMarkEv
    refine ⟨es1, .inr ⟨bB1, 0, rfl, gB1⟩, fun c (hc : bB1 = c) => by omega, m1, by omega, by omega, fun H10 tM1 rM1 => ?_⟩
    replace hw := hw.touch tM1 (fun c (e : bB1 = c) e2 => by skip; have := gnw c e2; have := glw c e2; omega)
    replace hg := hg.touch tM1 (fun c (e : bB1 = c) e2 => by skip; have := gng c e2; have := glg c e2; omega)
    have kp10 := kp9.touch tM1 (fun c (hc : bB1 = c) => by skip; omega)
    have klkp10 := kp10.1
    repeat' (first | with_reducible refine iteI (fun _ => ?_) (fun _ => ?_) | ((first | unfold AOpsC | unfold AOpsD | skip); simp (maxSteps := 1000000) (disch := (first | omega | assumption | (simp only [List.length_append, List.length_cons, List.length_nil, List.length_set]; omega))) only [go_sem, ↓skipC, ↓exitC, ↓retC, ↓seqC, ↓blockC, ↓condC, ↓regC, ↓drawC, ↓drawStep, ↓AOpC, ↓AOpF, ↓AOpE, ↓AEff, ↓contE_at, ↓contC_at, ↓keepC_at, ↓keepW_at, ↓keepO_at, ↓keepL_at, ↓map_parts, ↓reduceIte, reduceCtorEq, Nat.reduceLT, Nat.reduceEqDiff, Nat.reduceAdd, Nat.reduceMul, Nat.reduceLeDiff, Nat.reduceSub, Nat.reduceBEq, Nat.reduceBNe, Nat.reduceBneDiff, Nat.reduceBeqDiff, ag_29, ag_39, by_29, by_39, nf_29, nf_39, pl_29, pl_39, ps_29, ps_39, sz_29, sz_39, ze_29, ze_39, Sp4, Dr4, ↓qa0, ↓qb0, ↓qc0, ↓qd0, ↓pa0, ↓pb0, ↓pc0, ↓pd0, ↓p1, ↓q1]))
    unfold SEqState
    refine ⟨_, _, _, _, _, _, _, _, hg.is4, hw.is4, hL, ?_⟩
    repeat' (first | with_reducible refine iteI (fun _ => ?_) (fun _ => ?_) | ((first | unfold AOpsC | unfold AOpsD | skip); simp (maxSteps := 1000000) (disch := (first | omega | assumption | (simp only [List.length_append, List.length_cons, List.length_nil, List.length_set]; omega))) only [go_sem, ↓skipC, ↓exitC, ↓retC, ↓seqC, ↓blockC, ↓condC, ↓regC, ↓drawC, ↓drawStep, ↓AOpC, ↓AOpF, ↓AOpE, ↓AEff, ↓contE_at, ↓contC_at, ↓keepC_at, ↓keepW_at, ↓keepO_at, ↓keepL_at, ↓map_parts, ↓reduceIte, reduceCtorEq, Nat.reduceLT, Nat.reduceEqDiff, Nat.reduceAdd, Nat.reduceMul, Nat.reduceLeDiff, Nat.reduceSub, Nat.reduceBEq, Nat.reduceBNe, Nat.reduceBneDiff, Nat.reduceBeqDiff, ag_29, ag_39, by_29, by_39, nf_29, nf_39, pl_29, pl_39, ps_29, ps_39, sz_29, sz_39, ze_29, ze_39, Sp4, Dr4, ↓qa0, ↓qb0, ↓qc0, ↓qd0, ↓pa0, ↓pb0, ↓pc0, ↓pd0, ↓p1, ↓q1]))
    unfold SMarkSt
    refine ⟨_, _, _, _, _, hg, by omega, ⟨rfl, rfl, rfl, rfl⟩, hL, by omega, by omega, fun H11 tg rg => ?_⟩
    replace hw := hw.touch tg (fun c (e : hit4 bg_0 bg_1 bg_2 bg_3 c) e2 => by have := gng c e; have := glw c e2; omega)
    have kp11 := kp10.touch tg (fun c (hc : hit4 bg_0 bg_1 bg_2 bg_3 c) => by have := gng c hc; omega)
    have klkp11 := kp11.1
    repeat' (first | with_reducible refine iteI (fun _ => ?_) (fun _ => ?_) | ((first | unfold AOpsC | unfold AOpsD | skip); simp (maxSteps := 1000000) (disch := (first | omega | assumption | (simp only [List.length_append, List.length_cons, List.length_nil, List.length_set]; omega))) only [go_sem, ↓skipC, ↓exitC, ↓retC, ↓seqC, ↓blockC, ↓condC, ↓regC, ↓drawC, ↓drawStep, ↓AOpC, ↓AOpF, ↓AOpE, ↓AEff, ↓contE_at, ↓contC_at, ↓keepC_at, ↓keepW_at, ↓keepO_at, ↓keepL_at, ↓map_parts, ↓reduceIte, reduceCtorEq, Nat.reduceLT, Nat.reduceEqDiff, Nat.reduceAdd, Nat.reduceMul, Nat.reduceLeDiff, Nat.reduceSub, Nat.reduceBEq, Nat.reduceBNe, Nat.reduceBneDiff, Nat.reduceBeqDiff, ag_29, ag_39, by_29, by_39, nf_29, nf_39, pl_29, pl_39, ps_29, ps_39, sz_29, sz_39, ze_29, ze_39, Sp4, Dr4, ↓qa0, ↓qb0, ↓qc0, ↓qd0, ↓pa0, ↓pb0, ↓pc0, ↓pd0, ↓p1, ↓q1]))
    unfold SHeldSt
    refine ⟨_, _, _, _, _, rg, ⟨rfl, rfl, rfl, rfl⟩, ⟨hL1, hL2, hL3, hL4⟩, by omega, by omega, ?_⟩
    repeat' (first | with_reducible refine iteI (fun _ => ?_) (fun _ => ?_) | ((first | unfold AOpsC | unfold AOpsD | skip); simp (maxSteps := 1000000) (disch := (first | omega | assumption | (simp only [List.length_append, List.length_cons, List.length_nil, List.length_set]; omega))) only [go_sem, ↓skipC, ↓exitC, ↓retC, ↓seqC, ↓blockC, ↓condC, ↓regC, ↓drawC, ↓drawStep, ↓AOpC, ↓AOpF, ↓AOpE, ↓AEff, ↓contE_at, ↓contC_at, ↓keepC_at, ↓keepW_at, ↓keepO_at, ↓keepL_at, ↓map_parts, ↓reduceIte, reduceCtorEq, Nat.reduceLT, Nat.reduceEqDiff, Nat.reduceAdd, Nat.reduceMul, Nat.reduceLeDiff, Nat.reduceSub, Nat.reduceBEq, Nat.reduceBNe, Nat.reduceBneDiff, Nat.reduceBeqDiff, ag_29, ag_39, by_29, by_39, nf_29, nf_39, pl_29, pl_39, ps_29, ps_39, sz_29, sz_39, ze_29, ze_39, Sp4, Dr4, ↓qa0, ↓qb0, ↓qc0, ↓qd0, ↓pa0, ↓pb0, ↓pc0, ↓pd0, ↓p1, ↓q1]))
    unfold SToStN
    refine ⟨l0, ms0, ts0, bs0, hr0.keep kp11, m0, fun H12 bD0_0 bD0_1 bD0_2 bD0_3 gD0 xD0 => ?_⟩
    replace hw := hw.ext xD0
    replace rg := rg.ext xD0
    have kp12 := kp11.ext xD0
    have klkp12 := kp12.1
    have lekp12 := xD0.len
    have glD0 := fun c => gD0.lt (c := c)
    have gnD0 := fun c => gD0.low (c := c)
    repeat' (first | with_reducible refine iteI (fun _ => ?_) (fun _ => ?_) | ((first | unfold AOpsC | unfold AOpsD | skip); simp (maxSteps := 1000000) (disch := (first | omega | assumption | (simp only [List.length_append, List.length_cons, List.length_nil, List.length_set]; omega))) only [go_sem, ↓skipC, ↓exitC, ↓retC, ↓seqC, ↓blockC, ↓condC, ↓regC, ↓drawC, ↓drawStep, ↓AOpC, ↓AOpF, ↓AOpE, ↓AEff, ↓contE_at, ↓contC_at, ↓keepC_at, ↓keepW_at, ↓keepO_at, ↓keepL_at, ↓map_parts, ↓reduceIte, reduceCtorEq, Nat.reduceLT, Nat.reduceEqDiff, Nat.reduceAdd, Nat.reduceMul, Nat.reduceLeDiff, Nat.reduceSub, Nat.reduceBEq, Nat.reduceBNe, Nat.reduceBneDiff, Nat.reduceBeqDiff, ag_29, ag_39, by_29, by_39, nf_29, nf_39, pl_29, pl_39, ps_29, ps_39, sz_29, sz_39, ze_29, ze_39, Sp4, Dr4, ↓qa0, ↓qb0, ↓qc0, ↓qd0, ↓pa0, ↓pb0, ↓pc0, ↓pd0, ↓p1, ↓q1]))
    refine toEvN ⟨es1, hr1.keep kp12, m1, fun H13 bD1 pD1 gD1 xD1 => ?_⟩
    replace hw := hw.ext xD1
    replace rg := rg.ext xD1
    replace gD0 := gD0.ext xD1
    have kp13 := kp12.ext xD1
    have klkp13 := kp13.1
    have lekp13 := xD1.len
    have glD1 := blt gD1
    repeat' (first | with_reducible refine iteI (fun _ => ?_) (fun _ => ?_) | ((first | unfold AOpsC | unfold AOpsD | skip); simp (maxSteps := 1000000) (disch := (first | omega | assumption | (simp only [List.length_append, List.length_cons, List.length_nil, List.length_set]; omega))) only [go_sem, ↓skipC, ↓exitC, ↓retC, ↓seqC, ↓blockC, ↓condC, ↓regC, ↓drawC, ↓drawStep, ↓AOpC, ↓AOpF, ↓AOpE, ↓AEff, ↓contE_at, ↓contC_at, ↓keepC_at, ↓keepW_at, ↓keepO_at, ↓keepL_at, ↓map_parts, ↓reduceIte, reduceCtorEq, Nat.reduceLT, Nat.reduceEqDiff, Nat.reduceAdd, Nat.reduceMul, Nat.reduceLeDiff, Nat.reduceSub, Nat.reduceBEq, Nat.reduceBNe, Nat.reduceBneDiff, Nat.reduceBeqDiff, ag_29, ag_39, by_29, by_39, nf_29, nf_39, pl_29, pl_39, ps_29, ps_39, sz_29, sz_39, ze_29, ze_39, Sp4, Dr4, ↓qa0, ↓qb0, ↓qc0, ↓qd0, ↓pa0, ↓pb0, ↓pc0, ↓pd0, ↓p1, ↓q1]))
    have iD0 := gD0.is4
    have dD0_0 := iD0.1.dec3
    have oD0_0 : ok3 63 _ _ := ⟨_, iD0.1, ma0⟩
    have dD0_1 := iD0.2.1.dec
    have oD0_1 : okI _ _ := ⟨_, iD0.2.1, mb0⟩
    have dD0_2 := iD0.2.2.1.dec
    have oD0_2 : okI _ _ := ⟨_, iD0.2.2.1, mc0⟩
    have dD0_3 := iD0.2.2.2.dec
    have oD0_3 : okI _ _ := ⟨_, iD0.2.2.2, md0⟩
    have dD1 := (show IsR 76 2 enc2 _ _ _ from ⟨bD1, 0, rfl, gD1⟩).dec2
    have oD1 : ok2 _ _ _ := ⟨es1, ⟨bD1, 0, rfl, gD1⟩, m1⟩
    unfold SRvE
    simp only [dD0_0, oD0_0, dD0_1, oD0_1, dD0_2, oD0_2, dD0_3, oD0_3, dD1, oD1, true_and, and_self, and_true]
    refine fun H14 bh_0 bh_1 bh_2 bh_3 vh_0 vh_1 vh_2 vh_3 hh xh => ?_
    have glh := fun c => hh.lt (c := c)
    have gnh := fun c => hh.low (c := c)
    replace hw := hw.ext xh
    replace rg := rg.ext xh
    replace gD0 := gD0.ext xh
    replace gD1 := xh.blk gD1
    have kp14 := kp13.ext xh
    have klkp14 := kp14.1
    have lekp14 := xh.len
    repeat' (first | with_reducible refine iteI (fun _ => ?_) (fun _ => ?_) | ((first | unfold AOpsC | unfold AOpsD | skip); simp (maxSteps := 1000000) (disch := (first | omega | assumption | (simp only [List.length_append, List.length_cons, List.length_nil, List.length_set]; omega))) only [go_sem, ↓skipC, ↓exitC, ↓retC, ↓seqC, ↓blockC, ↓condC, ↓regC, ↓drawC, ↓drawStep, ↓AOpC, ↓AOpF, ↓AOpE, ↓AEff, ↓contE_at, ↓contC_at, ↓keepC_at, ↓keepW_at, ↓keepO_at, ↓keepL_at, ↓map_parts, ↓reduceIte, reduceCtorEq, Nat.reduceLT, Nat.reduceEqDiff, Nat.reduceAdd, Nat.reduceMul, Nat.reduceLeDiff, Nat.reduceSub, Nat.reduceBEq, Nat.reduceBNe, Nat.reduceBneDiff, Nat.reduceBeqDiff, ag_29, ag_39, by_29, by_39, nf_29, nf_39, pl_29, pl_39, ps_29, ps_39, sz_29, sz_39, ze_29, ze_39, Sp4, Dr4, ↓qa0, ↓qb0, ↓qc0, ↓qd0, ↓pa0, ↓pb0, ↓pc0, ↓pd0, ↓p1, ↓q1]))
    unfold SEqState
    refine ⟨_, _, _, _, _, _, _, _, hh.is4, hw.is4, hL, ?_⟩
    repeat' (first | with_reducible refine iteI (fun _ => ?_) (fun _ => ?_) | ((first | unfold AOpsC | unfold AOpsD | skip); simp (maxSteps := 1000000) (disch := (first | omega | assumption | (simp only [List.length_append, List.length_cons, List.length_nil, List.length_set]; omega))) only [go_sem, ↓skipC, ↓exitC, ↓retC, ↓seqC, ↓blockC, ↓condC, ↓regC, ↓drawC, ↓drawStep, ↓AOpC, ↓AOpF, ↓AOpE, ↓AEff, ↓contE_at, ↓contC_at, ↓keepC_at, ↓keepW_at, ↓keepO_at, ↓keepL_at, ↓map_parts, ↓reduceIte, reduceCtorEq, Nat.reduceLT, Nat.reduceEqDiff, Nat.reduceAdd, Nat.reduceMul, Nat.reduceLeDiff, Nat.reduceSub, Nat.reduceBEq, Nat.reduceBNe, Nat.reduceBneDiff, Nat.reduceBeqDiff, ag_29, ag_39, by_29, by_39, nf_29, nf_39, pl_29, pl_39, ps_29, ps_39, sz_29, sz_39, ze_29, ze_39, Sp4, Dr4, ↓qa0, ↓qb0, ↓qc0, ↓qd0, ↓pa0, ↓pb0, ↓pc0, ↓pd0, ↓p1, ↓q1]))
    unfold SHeldSt
    refine ⟨_, _, _, _, _, rg, ⟨rfl, rfl, rfl, rfl⟩, ⟨hL1, hL2, hL3, hL4⟩, by omega, by omega, ?_⟩
    repeat' (first | with_reducible refine iteI (fun _ => ?_) (fun _ => ?_) | ((first | unfold AOpsC | unfold AOpsD | skip); simp (maxSteps := 1000000) (disch := (first | omega | assumption | (simp only [List.length_append, List.length_cons, List.length_nil, List.length_set]; omega))) only [go_sem, ↓skipC, ↓exitC, ↓retC, ↓seqC, ↓blockC, ↓condC, ↓regC, ↓drawC, ↓drawStep, ↓AOpC, ↓AOpF, ↓AOpE, ↓AEff, ↓contE_at, ↓contC_at, ↓keepC_at, ↓keepW_at, ↓keepO_at, ↓keepL_at, ↓map_parts, ↓reduceIte, reduceCtorEq, Nat.reduceLT, Nat.reduceEqDiff, Nat.reduceAdd, Nat.reduceMul, Nat.reduceLeDiff, Nat.reduceSub, Nat.reduceBEq, Nat.reduceBNe, Nat.reduceBneDiff, Nat.reduceBeqDiff, ag_29, ag_39, by_29, by_39, nf_29, nf_39, pl_29, pl_39, ps_29, ps_39, sz_29, sz_39, ze_29, ze_39, Sp4, Dr4, ↓qa0, ↓qb0, ↓qc0, ↓qd0, ↓pa0, ↓pb0, ↓pc0, ↓pd0, ↓p1, ↓q1]))
    exact hK _
  · exact h.elim

/- the law -/
theorem law_ok {blks : List Blk} {x0 x1 x2 x3 x4 x5 : AV} (s0 : AvSh blks (.int .i64) x0) (s1 : AvSh blks (.rows 121 3 .i64) x1) (s2 : AvSh blks (.rows 3 1 .i64) x2) (s3 : AvSh blks (.rows 3 1 .i64) x3) (s4 : AvSh blks (.rows 3 1 .i64) x4) (s5 : AvSh blks (.rows 80 2 .i64) x5) : AF Try.prog blks.length 4 [.agg [x0, x1, x2, x3, x4], x5] blks fun v _ => v = .bool true := by
  obtain ⟨n0, rfl, _⟩ := s0
  obtain ⟨l0, ha0, na0⟩ := row3 s1
  obtain ⟨ms0, hb0, nb0⟩ := row1 s2
  obtain ⟨ts0, hc0, nc0⟩ := row1 s3
  obtain ⟨bs0, hd0, nd0⟩ := row1 s4
  obtain ⟨es1, h1, n1⟩ := row2 s5
  exact f4_ok (show SLaw _ _ _ from ⟨l0, ms0, ts0, bs0, es1, ⟨⟨ha0, hb0, hc0, hd0⟩, h1⟩, ⟨⟨na0, nb0, nc0, nd0⟩, n1⟩, fun _ => rfl⟩)

end Go.Proofs.Ytaalpmbopkbdiaa
