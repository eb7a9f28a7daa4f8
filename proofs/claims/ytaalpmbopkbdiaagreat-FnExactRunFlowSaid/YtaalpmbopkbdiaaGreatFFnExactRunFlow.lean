/- What functions of the program compute, said in the abstract logic; no conditions. -/
import Derived.Test.YtaalpmbopkbdiaaGreatGIn
import Derived.Test.YtaalpmbopkbdiaaGreatGIds
import Derived.Test.YtaalpmbopkbdiaaGreatGRes
import Derived.Test.YtaalpmbopkbdiaaGreatGMesh
import Derived.Test.YtaalpmbopkbdiaaGreatGBal
import Derived.Test.YtaalpmbopkbdiaaGreatGDiv
import Derived.Test.YtaalpmbopkbdiaaGreatGIdx
import Derived.Test.YtaalpmbopkbdiaaGreatGState
import Derived.Test.YtaalpmbopkbdiaaGreatGShare
import Derived.Test.YtaalpmbopkbdiaaGreatGFlux
import Derived.Test.YtaalpmbopkbdiaaGreatGFlux2
import Derived.Test.YtaalpmbopkbdiaaGreatGOut
import Derived.Test.YtaalpmbopkbdiaaGreatGInts
import Derived.Test.YtaalpmbopkbdiaaGreatGStTo
import Derived.Test.YtaalpmbopkbdiaaGreatGResS
import Derived.Test.YtaalpmbopkbdiaaGreatGCopy
import Derived.Test.YtaalpmbopkbdiaaGreatGOwn
import Derived.Test.YtaalpmbopkbdiaaGreatGRem
import Derived.Test.YtaalpmbopkbdiaaGreatGBordP
import Derived.Test.YtaalpmbopkbdiaaGreatGDry
import Derived.Test.YtaalpmbopkbdiaaGreatGDecay
import Derived.Test.YtaalpmbopkbdiaaGreatGPlan
import Derived.Test.YtaalpmbopkbdiaaGreatGRainP
import Derived.Test.YtaalpmbopkbdiaaGreatGSoakP
import Derived.Test.YtaalpmbopkbdiaaGreatGCost
import Derived.Test.YtaalpmbopkbdiaaGreatGAct
import Derived.Test.YtaalpmbopkbdiaaGreatGMove
import Derived.Test.YtaalpmbopkbdiaaGreatGMoveW
import Derived.Test.YtaalpmbopkbdiaaGreatGStepQ
import Derived.Test.YtaalpmbopkbdiaaGreatGStepS
import Derived.Test.YtaalpmbopkbdiaaGreatGLedP
import Derived.Test.YtaalpmbopkbdiaaGreatGStepOk
import Derived.Test.YtaalpmbopkbdiaaGreatGMacP
import Derived.Test.YtaalpmbopkbdiaaGreatGGeo
import Derived.Test.YtaalpmbopkbdiaaGreatGBalw
import Derived.Test.YtaalpmbopkbdiaaGreatGSplS
import Derived.Test.YtaalpmbopkbdiaaGreatGRepl
import Derived.Test.YtaalpmbopkbdiaaGreatGSplI
import Derived.Test.YtaalpmbopkbdiaaGreatGMerge
import Derived.Test.YtaalpmbopkbdiaaGreatGMergeW
import Derived.Test.YtaalpmbopkbdiaaGreatGNb
import Derived.Test.YtaalpmbopkbdiaaGreatGWish
import Derived.Test.YtaalpmbopkbdiaaGreatGCont
import Derived.Test.YtaalpmbopkbdiaaGreatGAdP
import Derived.Test.YtaalpmbopkbdiaaGreatGAdW
import Derived.Test.YtaalpmbopkbdiaaGreatGLed
import Derived.Test.YtaalpmbopkbdiaaGreatGMacR
import Derived.Test.YtaalpmbopkbdiaaGreatGRunM
import Derived.Test.YtaalpmbopkbdiaaGreatGFlowR

namespace Go.Proofs.YtaalpmbopkbdiaaGreat
open Go
set_option linter.unusedSimpArgs false
set_option linter.unusedVariables false
set_option maxRecDepth 100000
set_option maxHeartbeats 8000000
attribute [local go_sem] st0 AC thenA andC locLoadB KsSW_same KsSW_grow oldLoadB noBlkB KsSL_same KsOS_same KsOS_grow pv ev put upd dstOk cv cvc binI setB Value.oneCell' EndA resA resA1 List.mapM_cons List.mapM_nil Option.pure_def Option.bind_eq_bind noLocV noLoc1 noLoc noLocs plainV cellsA newVarA putCells condA lam0 inBlockA cur lenA rowA writeA dstA appendC appendZ mapPut mapGet avoidsB avoidB clearB Array.toList_append Op.operands Call.operands newSlot Nat.zero_add Nat.add_zero Nat.succ_ne_self Nat.lt_add_one Nat.zero_lt_succ true_and and_true true_or or_true false_or or_false and_self true_implies forall_const Bool.false_eq_true Bool.true_eq_false false_implies implies_true imp_self ne_eq not_false_eq_true not_true_eq_false false_and and_false List.getElem?_toArray List.getElem?_cons_succ List.getElem?_cons_zero Option.bind_some Option.map_some Bool.not_true Bool.not_false List.getD_cons_zero List.getD_cons_succ Option.some.injEq exists_eq_left' AV.bool.injEq List.map_cons List.map_nil List.all_cons List.all_nil Bool.and_self Bool.and_true Bool.true_and List.append_nil List.cons_append List.nil_append List.length_cons List.length_nil List.drop_zero List.take_zero List.drop_succ_cons List.take_succ_cons List.take_nil List.drop_nil List.not_mem_nil List.mem_cons List.contains_nil List.contains_cons Bool.or_self Bool.or_true Bool.true_or Bool.false_or Bool.or_false Bool.and_false Bool.false_and KsS_same KsS_grow skipV KsS_ext KsSW_ext KsOS_ext rep1 rep2 rep3 rep4 rep5 List.flatten_cons List.flatten_nil partsA isPtr fillA List.size_toArray ltT ltF leT leF ltTn ltFn leTn leFn eqTi eqFi wrapId toNat1 intGet boolGet memD app_get app_last app_lst app_set app_setL app_setF set_ne set_eq gt_iff_lt ge_iff_le decide_eq_true_eq len2 len3 get20 get21 drop2 put2 get30 get31 get32 drop3 put3 putI pairEta bneTi bneFi beqTi beqFi bne_eq_false_iff_eq beq_eq_false_iff_ne beq_iff_eq bne_iff_ne Int.toNat_natCast Nat.mul_one List.length_map Bool.not_eq_true Bool.not_eq_false Bool.decide_eq_true decide_true decide_false Bool.not_eq_true' Bool.not_eq_false' decide_eq_false_iff_not eq_self Decidable.not_not
attribute [local go_sem ↓] skipC exitC retC seqC blockC condC regC drawC drawStep AOpC AOpF AOpE AEff contE_at contC_at keepC_at keepW_at keepO_at keepL_at map_parts
attribute [local go_sem] reduceCtorEq Nat.reduceLT Nat.reduceEqDiff Nat.reduceAdd Nat.reduceMul Nat.reduceLeDiff Nat.reduceSub Nat.reduceBEq Nat.reduceBNe Nat.reduceBneDiff Nat.reduceBeqDiff
attribute [local go_sem ↓] reduceIte
attribute [local go_sem] ag_27 ag_3 ag_34 ag_49 ag_51 by_27 by_3 by_34 by_49 by_51 en_3 fi_51_0 fi_51_1 fi_51_2 fi_51_3 in_3 nf_27 nf_34 nf_49 nf_51 pl_27 pl_34 pl_49 pl_51 ps_27 ps_34 ps_49 ps_51 sz_27 sz_3 sz_34 sz_49 sz_51 ze_27 ze_3 ze_34 ze_49 ze_51

def SEqL : List AV → List Blk → (AV → List Blk → Prop) → Prop
  | [.agg [.int .i64 a, .int .i64 b, .int .i64 c, .int .i64 d], .agg [.int .i64 e, .int .i64 f, .int .i64 g, .int .i64 h]], η, K => K (.bool (decide (a = e ∧ b = f ∧ c = g ∧ d = h))) η
  | _, _, _ => False

/- laws.eqLedger -/
theorem f23_ok {lo : Nat} {args : List AV} {η : List Blk} {K : AV → List Blk → Prop} (h : SEqL args η K) : AF Tryz.prog lo 23 args η K := by
  unfold SEqL at h
  split at h
  · refine AF_run noSp_ok D0 [] [.tmp 4] hm Tryz.func23 rfl (by decide) Tryz.ntmps23 rfl (by kernel_rfl) (Nat.le_of_ble_eq_true rfl) ?_; intro hlo
    repeat' (first | with_reducible refine iteI (fun _ => ?_) (fun _ => ?_) | ((first | unfold AOpsC | unfold AOpsD | skip); simp (maxSteps := 1000000) (disch := (first | omega | assumption | (simp only [List.length_append, List.length_cons, List.length_nil, List.length_set]; omega))) only [go_sem, AOpsD]))
    all_goals simp_all
  · exact h.elim

def SLaw : List AV → List Blk → (AV → List Blk → Prop) → Prop
  | [.agg [.int .i64 r0, v0, va0, vb0, vc0], .agg [.int .i64 p1_0, .int .i64 p1_1, .int .i64 p1_2, .int .i64 p1_3, .int .i64 p1_4, .int .i64 p1_5, .int .i64 p1_6, .int .i64 p1_7, .int .i64 p1_8], .int .i64 y2, .int .i64 y3], η, K => ∃ (l0 : List (Int × Int × Int)) (ms0 : List Int) (ts0 : List Int) (bs0 : List Int), (ROWS4 η v0 va0 vb0 vc0 l0 ms0 ts0 bs0) ∧ (len4 maxLen l0 ms0 ts0 bs0) ∧ ∀ H, K (.bool true) H
  | _, _, _ => False

/- laws.FnExactRunFlow -/
def Sp6 (lo : Nat) : Spec := fun g args η K => match g with | 7 => SSzState args η K | 10 => SToStN args η K | 13 => SEqState args η K | 15 => SMarkSt lo args η K | 17 => SHeldSt args η K | 21 => SSame9 args η K | 23 => SEqL args η K | 24 => SRunF args η K | 25 => SRunF args η K | _ => False
theorem Sp6_ok {lo : Nat} : Sound Tryz.prog lo (Sp6 lo) := by
  intro g args η K h
  unfold Sp6 at h
  split at h
  · exact .inl (f7_ok h)
  · exact .inl (f10N_ok h)
  · exact .inl (f13_ok h)
  · exact .inl (f15_ok h)
  · exact .inl (f17_ok h)
  · exact .inl (f21_ok h)
  · exact .inl (f23_ok h)
  · exact .inl (f24_ok h)
  · exact .inl (f25_ok h)
  · exact h.elim
def Dr6 : Draws := fun id => match id with | 5 => ([0, 1, 0, 7, 0, 0, 63, 127, 255, 255, 0, 0, 3583, 8191], [1, 3], [(0, 10), (1, 10), (2, 10), (3, 10), (4, 10), (5, 10), (6, 10), (7, 10), (8, 10), (9, 10), (11, 10), (0, 11), (1, 11), (2, 11), (3, 11), (4, 11), (5, 11), (6, 11), (7, 11), (8, 11), (9, 11)], (.one 10 (.one 11 (.one 0 (.one 2 (.one 4 (.one 5 (.one 1 (.one 3 (.one 6 (.one 7 (.one 8 (.one 9 (.one 12 (.one 13 .nil))))))))))))))) | 7 => ([0, 0, 2, 0, 0, 31, 63, 127, 127, 0, 0, 1791, 4095], [2], [(0, 13), (1, 13), (2, 13), (3, 13), (4, 13), (5, 13), (6, 13), (7, 13), (8, 13), (10, 13), (0, 14), (1, 14), (2, 14), (3, 14), (4, 14), (5, 14), (6, 14), (7, 14), (8, 14)], (.one 9 (.one 10 (.one 0 (.one 1 (.one 3 (.one 4 (.one 2 (.one 5 (.one 6 (.one 7 (.one 8 (.one 11 (.one 12 .nil)))))))))))))) | 10 => ([0, 0, 2, 7, 15], [2], [], (.one 0 (.one 1 (.one 2 (.one 3 (.one 4 .nil)))))) | 24 => ([0, 1, 0, 7, 0, 0, 63, 127, 255, 255, 0, 0, 3583, 8191], [1, 3], [(0, 18), (1, 18), (2, 18), (3, 18), (4, 18), (5, 18), (6, 18), (7, 18), (8, 18), (9, 18), (11, 18), (0, 19), (1, 19), (2, 19), (3, 19), (4, 19), (5, 19), (6, 19), (7, 19), (8, 19), (9, 19)], (.one 10 (.one 11 (.one 0 (.one 2 (.one 4 (.one 5 (.one 1 (.one 3 (.one 6 (.one 7 (.one 8 (.one 9 (.one 12 (.one 13 .nil))))))))))))))) | _ => ([], [], [], .nil)
theorem f6_ok {lo : Nat} {args : List AV} {η : List Blk} {K : AV → List Blk → Prop} (h : SLaw args η K) : AF Tryz.prog lo 6 args η K := by
  unfold SLaw at h
  split at h
  · obtain ⟨l0, ms0, ts0, bs0, hr0, hn0, hK⟩ := h
    rename_i r0 v0 va0 vb0 vc0 p1_0 p1_1 p1_2 p1_3 p1_4 p1_5 p1_6 p1_7 p1_8 y2 y3
    have hml : maxLen = 9223372036854775807 := rfl
    obtain ⟨qa0, qb0, qc0, qd0⟩ := hr0.noLoc
    obtain ⟨pa0, pb0, pc0, pd0⟩ := hr0.noLoc1
    obtain ⟨hna0, hnb0, hnc0, hnd0⟩ := hn0
    refine AF_run Sp6_ok Dr6 [] [.tmp 8] hm Tryz.func6 rfl (by decide) Tryz.ntmps6 rfl (by kernel_rfl) (Nat.le_of_ble_eq_true rfl) ?_; intro hlo
    repeat' (first | with_reducible refine iteI (fun _ => ?_) (fun _ => ?_) | ((first | unfold AOpsC | unfold AOpsD | skip); simp (maxSteps := 1000000) (disch := (first | omega | assumption | (simp only [List.length_append, List.length_cons, List.length_nil, List.length_set]; omega))) only [go_sem, Sp6, SSame9, SEqL, Dr6, ↓qa0, ↓qb0, ↓qc0, ↓qd0, ↓pa0, ↓pb0, ↓pc0, ↓pd0]))
    unfold SSzState
    refine ⟨by simp, l0, ms0, ts0, bs0, hr0, ⟨hna0, hnb0, hnc0, hnd0⟩, ?_⟩
    unfold sz4
    by_cases hsz0 : ((l0.length : Int) + (ms0.length : Int) + (ts0.length : Int) + (bs0.length : Int)) ≤ 1048576
    case neg =>
      rw [if_neg hsz0]
      repeat' (first | with_reducible refine iteI (fun _ => ?_) (fun _ => ?_) | ((first | unfold AOpsC | unfold AOpsD | skip); simp (maxSteps := 1000000) (disch := (first | omega | assumption | (simp only [List.length_append, List.length_cons, List.length_nil, List.length_set]; omega))) only [go_sem, Sp6, SSame9, SEqL, Dr6]))
      exact hK _
    rw [if_pos hsz0]
    have ma0 : l0.length ≤ 1048576 := by omega
    have mb0 : ms0.length ≤ 1048576 := by omega
    have mc0 : ts0.length ≤ 1048576 := by omega
    have md0 : bs0.length ≤ 1048576 := by omega
    have m0 : len4 1048576 l0 ms0 ts0 bs0 := ⟨ma0, mb0, mc0, md0⟩
    repeat' (first | with_reducible refine iteI (fun _ => ?_) (fun _ => ?_) | ((first | unfold AOpsC | unfold AOpsD | skip); simp (maxSteps := 1000000) (disch := (first | omega | assumption | (simp only [List.length_append, List.length_cons, List.length_nil, List.length_set]; omega))) only [go_sem, Sp6, SSame9, SEqL, Dr6, ↓qa0, ↓qb0, ↓qc0, ↓qd0, ↓pa0, ↓pb0, ↓pc0, ↓pd0]))
    have kp0 : Keep η.length η η := Keep.refl η
    unfold SToStN
    refine ⟨l0, ms0, ts0, bs0, hr0.keep kp0, m0, fun H1 bA0_0 bA0_1 bA0_2 bA0_3 gA0 xA0 => ?_⟩
    have kp1 := kp0.ext xA0
    have klkp1 := kp1.1
    have lekp1 := xA0.len
    have glA0 := fun c => gA0.lt (c := c)
    have gnA0 := fun c => gA0.low (c := c)
    repeat' (first | with_reducible refine iteI (fun _ => ?_) (fun _ => ?_) | ((first | unfold AOpsC | unfold AOpsD | skip); simp (maxSteps := 1000000) (disch := (first | omega | assumption | (simp only [List.length_append, List.length_cons, List.length_nil, List.length_set]; omega))) only [go_sem, Sp6, SSame9, SEqL, Dr6, ↓qa0, ↓qb0, ↓qc0, ↓qd0, ↓pa0, ↓pb0, ↓pc0, ↓pd0]))
    have iA0 := gA0.is4
    have dA0_0 := iA0.1.dec3
    have oA0_0 : ok3 69 _ _ := ⟨_, iA0.1, ma0⟩
    have dA0_1 := iA0.2.1.dec
    have oA0_1 : okI _ _ := ⟨_, iA0.2.1, mb0⟩
    have dA0_2 := iA0.2.2.1.dec
    have oA0_2 : okI _ _ := ⟨_, iA0.2.2.1, mc0⟩
    have dA0_3 := iA0.2.2.2.dec
    have oA0_3 : okI _ _ := ⟨_, iA0.2.2.2, md0⟩
    unfold SRunF
    simp only [dA0_0, oA0_0, dA0_1, oA0_1, dA0_2, oA0_2, dA0_3, oA0_3, true_and, and_self, and_true]
    refine fun H2 bw_0 bw_1 bw_2 bw_3 vw_0 vw_1 vw_2 vw_3 hw xw => ?_
    have glw := fun c => hw.lt (c := c)
    have gnw := fun c => hw.low (c := c)
    replace gA0 := gA0.ext xw
    have kp2 := kp1.ext xw
    have klkp2 := kp2.1
    have lekp2 := xw.len
    repeat' (first | with_reducible refine iteI (fun _ => ?_) (fun _ => ?_) | ((first | unfold AOpsC | unfold AOpsD | skip); simp (maxSteps := 1000000) (disch := (first | omega | assumption | (simp only [List.length_append, List.length_cons, List.length_nil, List.length_set]; omega))) only [go_sem, Sp6, SSame9, SEqL, Dr6, ↓qa0, ↓qb0, ↓qc0, ↓qd0, ↓pa0, ↓pb0, ↓pc0, ↓pd0]))
    unfold SToStN
    refine ⟨l0, ms0, ts0, bs0, hr0.keep kp2, m0, fun H3 bB0_0 bB0_1 bB0_2 bB0_3 gB0 xB0 => ?_⟩
    replace hw := hw.ext xB0
    have kp3 := kp2.ext xB0
    have klkp3 := kp3.1
    have lekp3 := xB0.len
    have glB0 := fun c => gB0.lt (c := c)
    have gnB0 := fun c => gB0.low (c := c)
    repeat' (first | with_reducible refine iteI (fun _ => ?_) (fun _ => ?_) | ((first | unfold AOpsC | unfold AOpsD | skip); simp (maxSteps := 1000000) (disch := (first | omega | assumption | (simp only [List.length_append, List.length_cons, List.length_nil, List.length_set]; omega))) only [go_sem, Sp6, SSame9, SEqL, Dr6, ↓qa0, ↓qb0, ↓qc0, ↓qd0, ↓pa0, ↓pb0, ↓pc0, ↓pd0]))
    have iB0 := gB0.is4
    have dB0_0 := iB0.1.dec3
    have oB0_0 : ok3 69 _ _ := ⟨_, iB0.1, ma0⟩
    have dB0_1 := iB0.2.1.dec
    have oB0_1 : okI _ _ := ⟨_, iB0.2.1, mb0⟩
    have dB0_2 := iB0.2.2.1.dec
    have oB0_2 : okI _ _ := ⟨_, iB0.2.2.1, mc0⟩
    have dB0_3 := iB0.2.2.2.dec
    have oB0_3 : okI _ _ := ⟨_, iB0.2.2.2, md0⟩
    unfold SRunF
    simp only [dB0_0, oB0_0, dB0_1, oB0_1, dB0_2, oB0_2, dB0_3, oB0_3, true_and, and_self, and_true]
    refine fun H4 bg_0 bg_1 bg_2 bg_3 vg_0 vg_1 vg_2 vg_3 hg xg => ?_
    have glg := fun c => hg.lt (c := c)
    have gng := fun c => hg.low (c := c)
    replace hw := hw.ext xg
    replace gB0 := gB0.ext xg
    have kp4 := kp3.ext xg
    have klkp4 := kp4.1
    have lekp4 := xg.len
    repeat' (first | with_reducible refine iteI (fun _ => ?_) (fun _ => ?_) | ((first | unfold AOpsC | unfold AOpsD | skip); simp (maxSteps := 1000000) (disch := (first | omega | assumption | (simp only [List.length_append, List.length_cons, List.length_nil, List.length_set]; omega))) only [go_sem, Sp6, SSame9, SEqL, Dr6, ↓qa0, ↓qb0, ↓qc0, ↓qd0, ↓pa0, ↓pb0, ↓pc0, ↓pd0]))
    have hL : len4 1048576 (flR r0 l0 ms0 ts0 bs0 p1_0 p1_1 p1_2 p1_3 p1_4 p1_5 p1_6 p1_7 p1_8 y2 y3).1 (flR r0 l0 ms0 ts0 bs0 p1_0 p1_1 p1_2 p1_3 p1_4 p1_5 p1_6 p1_7 p1_8 y2 y3).2.1 (flR r0 l0 ms0 ts0 bs0 p1_0 p1_1 p1_2 p1_3 p1_4 p1_5 p1_6 p1_7 p1_8 y2 y3).2.2 bs0 := flR_le m0
    obtain ⟨hL1, hL2, hL3, hL4⟩ := id hL
    unfold SEqState
    refine ⟨_, _, _, _, _, _, _, _, hg.is4, hw.is4, hL, ?_⟩
    repeat' (first | with_reducible refine iteI (fun _ => ?_) (fun _ => ?_) | ((first | unfold AOpsC | unfold AOpsD | skip); simp (maxSteps := 1000000) (disch := (first | omega | assumption | (simp only [List.length_append, List.length_cons, List.length_nil, List.length_set]; omega))) only [go_sem, Sp6, SSame9, SEqL, Dr6, ↓qa0, ↓qb0, ↓qc0, ↓qd0, ↓pa0, ↓pb0, ↓pc0, ↓pd0]))
    unfold SToStN
    refine ⟨l0, ms0, ts0, bs0, hr0.keep kp4, m0, fun H5 bC00_0 bC00_1 bC00_2 bC00_3 gC00 xC00 => ?_⟩
    replace hw := hw.ext xC00
    replace gB0 := gB0.ext xC00
    replace hg := hg.ext xC00
    have kp5 := kp4.ext xC00
    have klkp5 := kp5.1
    have lekp5 := xC00.len
    have glC00 := fun c => gC00.lt (c := c)
    have gnC00 := fun c => gC00.low (c := c)
    repeat' (first | with_reducible refine iteI (fun _ => ?_) (fun _ => ?_) | ((first | unfold AOpsC | unfold AOpsD | skip); simp (maxSteps := 1000000) (disch := (first | omega | assumption | (simp only [List.length_append, List.length_cons, List.length_nil, List.length_set]; omega))) only [go_sem, Sp6, SSame9, SEqL, Dr6, ↓qa0, ↓qb0, ↓qc0, ↓qd0, ↓pa0, ↓pb0, ↓pc0, ↓pd0]))
    unfold SEqState
    refine ⟨l0, ms0, ts0, bs0, l0, ms0, ts0, bs0, gB0.is4, gC00.is4, m0, ?_⟩
    repeat' (first | with_reducible refine iteI (fun _ => ?_) (fun _ => ?_) | ((first | unfold AOpsC | unfold AOpsD | skip); simp (maxSteps := 1000000) (disch := (first | omega | assumption | (simp only [List.length_append, List.length_cons, List.length_nil, List.length_set]; omega))) only [go_sem, Sp6, SSame9, SEqL, Dr6, ↓qa0, ↓qb0, ↓qc0, ↓qd0, ↓pa0, ↓pb0, ↓pc0, ↓pd0]))
    unfold SMarkSt
    refine ⟨l0, ms0, ts0, bs0, _, gB0, by omega, ⟨rfl, rfl, rfl, rfl⟩, m0, by omega, by omega, fun H6 tM0 rM0 => ?_⟩
    replace hw := hw.touch tM0 (fun c (e : hit4 bB0_0 bB0_1 bB0_2 bB0_3 c) e2 => by have := gnB0 c e; have := glB0 c e; have := gnw c e2; have := glw c e2; omega)
    replace hg := hg.touch tM0 (fun c (e : hit4 bB0_0 bB0_1 bB0_2 bB0_3 c) e2 => by have := gnB0 c e; have := glB0 c e; have := gng c e2; have := glg c e2; omega)
    have kp6 := kp5.touch tM0 (fun c (hc : hit4 bB0_0 bB0_1 bB0_2 bB0_3 c) => by have := gnB0 c hc; have := glB0 c hc; omega)
    have klkp6 := kp6.1
    repeat' (first | with_reducible refine iteI (fun _ => ?_) (fun _ => ?_) | ((first | unfold AOpsC | unfold AOpsD | skip); simp (maxSteps := 1000000) (disch := (first | omega | assumption | (simp only [List.length_append, List.length_cons, List.length_nil, List.length_set]; omega))) only [go_sem, Sp6, SSame9, SEqL, Dr6, ↓qa0, ↓qb0, ↓qc0, ↓qd0, ↓pa0, ↓pb0, ↓pc0, ↓pd0]))
    unfold SEqState
    refine ⟨_, _, _, _, _, _, _, _, hg.is4, hw.is4, hL, ?_⟩
    repeat' (first | with_reducible refine iteI (fun _ => ?_) (fun _ => ?_) | ((first | unfold AOpsC | unfold AOpsD | skip); simp (maxSteps := 1000000) (disch := (first | omega | assumption | (simp only [List.length_append, List.length_cons, List.length_nil, List.length_set]; omega))) only [go_sem, Sp6, SSame9, SEqL, Dr6, ↓qa0, ↓qb0, ↓qc0, ↓qd0, ↓pa0, ↓pb0, ↓pc0, ↓pd0]))
    unfold SMarkSt
    refine ⟨_, _, _, _, _, hg, by omega, ⟨rfl, rfl, rfl, rfl⟩, hL, by omega, by omega, fun H7 tg rg => ?_⟩
    replace hw := hw.touch tg (fun c (e : hit4 bg_0 bg_1 bg_2 bg_3 c) e2 => by have := gng c e; have := glw c e2; omega)
    have kp7 := kp6.touch tg (fun c (hc : hit4 bg_0 bg_1 bg_2 bg_3 c) => by have := gng c hc; omega)
    have klkp7 := kp7.1
    repeat' (first | with_reducible refine iteI (fun _ => ?_) (fun _ => ?_) | ((first | unfold AOpsC | unfold AOpsD | skip); simp (maxSteps := 1000000) (disch := (first | omega | assumption | (simp only [List.length_append, List.length_cons, List.length_nil, List.length_set]; omega))) only [go_sem, Sp6, SSame9, SEqL, Dr6, ↓qa0, ↓qb0, ↓qc0, ↓qd0, ↓pa0, ↓pb0, ↓pc0, ↓pd0]))
    unfold SHeldSt
    refine ⟨_, _, _, _, _, rg, ⟨rfl, rfl, rfl, rfl⟩, ⟨hL1, hL2, hL3, hL4⟩, by omega, by omega, ?_⟩
    repeat' (first | with_reducible refine iteI (fun _ => ?_) (fun _ => ?_) | ((first | unfold AOpsC | unfold AOpsD | skip); simp (maxSteps := 1000000) (disch := (first | omega | assumption | (simp only [List.length_append, List.length_cons, List.length_nil, List.length_set]; omega))) only [go_sem, Sp6, SSame9, SEqL, Dr6, ↓qa0, ↓qb0, ↓qc0, ↓qd0, ↓pa0, ↓pb0, ↓pc0, ↓pd0]))
    unfold SToStN
    refine ⟨l0, ms0, ts0, bs0, hr0.keep kp7, m0, fun H8 bD0_0 bD0_1 bD0_2 bD0_3 gD0 xD0 => ?_⟩
    replace hw := hw.ext xD0
    replace rg := rg.ext xD0
    have kp8 := kp7.ext xD0
    have klkp8 := kp8.1
    have lekp8 := xD0.len
    have glD0 := fun c => gD0.lt (c := c)
    have gnD0 := fun c => gD0.low (c := c)
    repeat' (first | with_reducible refine iteI (fun _ => ?_) (fun _ => ?_) | ((first | unfold AOpsC | unfold AOpsD | skip); simp (maxSteps := 1000000) (disch := (first | omega | assumption | (simp only [List.length_append, List.length_cons, List.length_nil, List.length_set]; omega))) only [go_sem, Sp6, SSame9, SEqL, Dr6, ↓qa0, ↓qb0, ↓qc0, ↓qd0, ↓pa0, ↓pb0, ↓pc0, ↓pd0]))
    have iD0 := gD0.is4
    have dD0_0 := iD0.1.dec3
    have oD0_0 : ok3 69 _ _ := ⟨_, iD0.1, ma0⟩
    have dD0_1 := iD0.2.1.dec
    have oD0_1 : okI _ _ := ⟨_, iD0.2.1, mb0⟩
    have dD0_2 := iD0.2.2.1.dec
    have oD0_2 : okI _ _ := ⟨_, iD0.2.2.1, mc0⟩
    have dD0_3 := iD0.2.2.2.dec
    have oD0_3 : okI _ _ := ⟨_, iD0.2.2.2, md0⟩
    unfold SRunF
    simp only [dD0_0, oD0_0, dD0_1, oD0_1, dD0_2, oD0_2, dD0_3, oD0_3, true_and, and_self, and_true]
    refine fun H9 bh_0 bh_1 bh_2 bh_3 vh_0 vh_1 vh_2 vh_3 hh xh => ?_
    have glh := fun c => hh.lt (c := c)
    have gnh := fun c => hh.low (c := c)
    replace hw := hw.ext xh
    replace rg := rg.ext xh
    replace gD0 := gD0.ext xh
    have kp9 := kp8.ext xh
    have klkp9 := kp9.1
    have lekp9 := xh.len
    repeat' (first | with_reducible refine iteI (fun _ => ?_) (fun _ => ?_) | ((first | unfold AOpsC | unfold AOpsD | skip); simp (maxSteps := 1000000) (disch := (first | omega | assumption | (simp only [List.length_append, List.length_cons, List.length_nil, List.length_set]; omega))) only [go_sem, Sp6, SSame9, SEqL, Dr6, ↓qa0, ↓qb0, ↓qc0, ↓qd0, ↓pa0, ↓pb0, ↓pc0, ↓pd0]))
    unfold SEqState
    refine ⟨_, _, _, _, _, _, _, _, hh.is4, hw.is4, hL, ?_⟩
    repeat' (first | with_reducible refine iteI (fun _ => ?_) (fun _ => ?_) | ((first | unfold AOpsC | unfold AOpsD | skip); simp (maxSteps := 1000000) (disch := (first | omega | assumption | (simp only [List.length_append, List.length_cons, List.length_nil, List.length_set]; omega))) only [go_sem, Sp6, SSame9, SEqL, Dr6, ↓qa0, ↓qb0, ↓qc0, ↓qd0, ↓pa0, ↓pb0, ↓pc0, ↓pd0]))
    unfold SHeldSt
    refine ⟨_, _, _, _, _, rg, ⟨rfl, rfl, rfl, rfl⟩, ⟨hL1, hL2, hL3, hL4⟩, by omega, by omega, ?_⟩
    repeat' (first | with_reducible refine iteI (fun _ => ?_) (fun _ => ?_) | ((first | unfold AOpsC | unfold AOpsD | skip); simp (maxSteps := 1000000) (disch := (first | omega | assumption | (simp only [List.length_append, List.length_cons, List.length_nil, List.length_set]; omega))) only [go_sem, Sp6, SSame9, SEqL, Dr6, ↓qa0, ↓qb0, ↓qc0, ↓qd0, ↓pa0, ↓pb0, ↓pc0, ↓pd0]))
    exact hK _
  · exact h.elim

/- the law -/
theorem law_ok {blks : List Blk} {x0 x1 x2 x3 x4 x5 x6 x7 x8 x9 x10 x11 x12 x13 x14 x15 : AV} (s0 : AvSh blks (.int .i64) x0) (s1 : AvSh blks (.rows 97 3 .i64) x1) (s2 : AvSh blks (.rows 3 1 .i64) x2) (s3 : AvSh blks (.rows 3 1 .i64) x3) (s4 : AvSh blks (.rows 3 1 .i64) x4) (s5 : AvSh blks (.int .i64) x5) (s6 : AvSh blks (.int .i64) x6) (s7 : AvSh blks (.int .i64) x7) (s8 : AvSh blks (.int .i64) x8) (s9 : AvSh blks (.int .i64) x9) (s10 : AvSh blks (.int .i64) x10) (s11 : AvSh blks (.int .i64) x11) (s12 : AvSh blks (.int .i64) x12) (s13 : AvSh blks (.int .i64) x13) (s14 : AvSh blks (.int .i64) x14) (s15 : AvSh blks (.int .i64) x15) : AF Tryz.prog blks.length 6 [.agg [x0, x1, x2, x3, x4], .agg [x5, x6, x7, x8, x9, x10, x11, x12, x13], x14, x15] blks fun v _ => v = .bool true := by
  obtain ⟨n0, rfl, _⟩ := s0
  obtain ⟨l0, ha0, na0⟩ := row3 s1
  obtain ⟨ms0, hb0, nb0⟩ := row1 s2
  obtain ⟨ts0, hc0, nc0⟩ := row1 s3
  obtain ⟨bs0, hd0, nd0⟩ := row1 s4
  obtain ⟨y1_0, rfl, _⟩ := s5
  obtain ⟨y1_1, rfl, _⟩ := s6
  obtain ⟨y1_2, rfl, _⟩ := s7
  obtain ⟨y1_3, rfl, _⟩ := s8
  obtain ⟨y1_4, rfl, _⟩ := s9
  obtain ⟨y1_5, rfl, _⟩ := s10
  obtain ⟨y1_6, rfl, _⟩ := s11
  obtain ⟨y1_7, rfl, _⟩ := s12
  obtain ⟨y1_8, rfl, _⟩ := s13
  obtain ⟨y2, rfl, _⟩ := s14
  obtain ⟨y3, rfl, _⟩ := s15
  exact f6_ok (show SLaw _ _ _ from ⟨l0, ms0, ts0, bs0, ⟨ha0, hb0, hc0, hd0⟩, ⟨na0, nb0, nc0, nd0⟩, fun _ => rfl⟩)

end Go.Proofs.YtaalpmbopkbdiaaGreat
