/- What functions of the program compute, said in the abstract logic; no conditions. -/
import Derived.Test.YtaalpmbopkbdiaaGreatGBase
import Derived.Test.YtaalpmbopkbdiaaGreatGIn
import Derived.Test.YtaalpmbopkbdiaaGreatGIds
import Derived.Test.YtaalpmbopkbdiaaGreatGRes
import Derived.Test.YtaalpmbopkbdiaaGreatGIdx
import Derived.Test.YtaalpmbopkbdiaaGreatGMesh
import Derived.Test.YtaalpmbopkbdiaaGreatGBal
import Derived.Test.YtaalpmbopkbdiaaGreatGState
import Derived.Test.YtaalpmbopkbdiaaGreatGShare
import Derived.Test.YtaalpmbopkbdiaaGreatGCost
import Derived.Test.YtaalpmbopkbdiaaGreatGMeshN
import Derived.Test.YtaalpmbopkbdiaaGreatGGeo
import Derived.Test.YtaalpmbopkbdiaaGreatGCopy
import Derived.Test.YtaalpmbopkbdiaaGreatGBalc
import Derived.Test.YtaalpmbopkbdiaaGreatGBalw
import Derived.Test.YtaalpmbopkbdiaaGreatGOut
import Derived.Test.YtaalpmbopkbdiaaGreatGInts
import Derived.Test.YtaalpmbopkbdiaaGreatGStTo
import Derived.Test.YtaalpmbopkbdiaaGreatGResS
import Derived.Test.YtaalpmbopkbdiaaGreatGOwn
import Derived.Test.YtaalpmbopkbdiaaGreatGDiv
import Derived.Test.YtaalpmbopkbdiaaGreatGFlux
import Derived.Test.YtaalpmbopkbdiaaGreatGFlux2
import Derived.Test.YtaalpmbopkbdiaaGreatGRem
import Derived.Test.YtaalpmbopkbdiaaGreatGAct
import Derived.Test.YtaalpmbopkbdiaaGreatGMove
import Derived.Test.YtaalpmbopkbdiaaGreatGStepQ
import Derived.Test.YtaalpmbopkbdiaaGreatGSteep
import Derived.Test.YtaalpmbopkbdiaaGreatGLedP
import Derived.Test.YtaalpmbopkbdiaaGreatGStepOk
import Derived.Test.YtaalpmbopkbdiaaGreatGSplS
import Derived.Test.YtaalpmbopkbdiaaGreatGRepl
import Derived.Test.YtaalpmbopkbdiaaGreatGSplI
import Derived.Test.YtaalpmbopkbdiaaGreatGMerge
import Derived.Test.YtaalpmbopkbdiaaGreatGMergeW
import Derived.Test.YtaalpmbopkbdiaaGreatGNb
import Derived.Test.YtaalpmbopkbdiaaGreatGWish
import Derived.Test.YtaalpmbopkbdiaaGreatGCont
import Derived.Test.YtaalpmbopkbdiaaGreatGAdP
import Derived.Test.YtaalpmbopkbdiaaGreatGRmP
import Derived.Test.YtaalpmbopkbdiaaGreatGRmW
import Derived.Test.YtaalpmbopkbdiaaGreatGRmS
import Derived.Test.YtaalpmbopkbdiaaGreatGRmZ

namespace Go.Proofs.YtaalpmbopkbdiaaGreat
open Go
set_option linter.unusedSimpArgs false
set_option linter.unusedVariables false
set_option maxRecDepth 100000
set_option maxHeartbeats 8000000
attribute [local go_sem] st0 AC thenA andC locLoadB KsSW_same KsSW_grow oldLoadB noBlkB KsSL_same KsOS_same KsOS_grow pv ev put upd dstOk cv cvc binI setB Value.oneCell' EndA resA resA1 List.mapM_cons List.mapM_nil Option.pure_def Option.bind_eq_bind noLocV noLoc1 noLoc noLocs plainV cellsA newVarA putCells condA lam0 inBlockA cur lenA rowA writeA dstA appendC appendZ mapPut mapGet avoidsB avoidB clearB Array.toList_append Op.operands Call.operands newSlot Nat.zero_add Nat.add_zero Nat.succ_ne_self Nat.lt_add_one Nat.zero_lt_succ true_and and_true true_or or_true false_or or_false and_self true_implies forall_const Bool.false_eq_true Bool.true_eq_false false_implies implies_true imp_self ne_eq not_false_eq_true not_true_eq_false false_and and_false List.getElem?_toArray List.getElem?_cons_succ List.getElem?_cons_zero Option.bind_some Option.map_some Bool.not_true Bool.not_false List.getD_cons_zero List.getD_cons_succ Option.some.injEq exists_eq_left' AV.bool.injEq List.map_cons List.map_nil List.all_cons List.all_nil Bool.and_self Bool.and_true Bool.true_and List.append_nil List.cons_append List.nil_append List.length_cons List.length_nil List.drop_zero List.take_zero List.drop_succ_cons List.take_succ_cons List.take_nil List.drop_nil List.not_mem_nil List.mem_cons List.contains_nil List.contains_cons Bool.or_self Bool.or_true Bool.true_or Bool.false_or Bool.or_false Bool.and_false Bool.false_and KsS_same KsS_grow skipV KsS_ext KsSW_ext KsOS_ext rep1 rep2 rep3 rep4 rep5 List.flatten_cons List.flatten_nil partsA isPtr fillA List.size_toArray ltT ltF leT leF ltTn ltFn leTn leFn eqTi eqFi wrapId toNat1 intGet boolGet memD app_get app_last app_lst app_set app_setL app_setF set_ne set_eq gt_iff_lt ge_iff_le decide_eq_true_eq len2 len3 get20 get21 drop2 put2 get30 get31 get32 drop3 put3 putI pairEta bneTi bneFi beqTi beqFi bne_eq_false_iff_eq beq_eq_false_iff_ne beq_iff_eq bne_iff_ne Int.toNat_natCast Nat.mul_one List.length_map Bool.not_eq_true Bool.not_eq_false Bool.decide_eq_true decide_true decide_false Bool.not_eq_true' Bool.not_eq_false' decide_eq_false_iff_not eq_self Decidable.not_not
attribute [local go_sem ↓] skipC exitC retC seqC blockC condC regC drawC drawStep AOpC AOpF AOpE AEff contE_at contC_at keepC_at keepW_at keepO_at keepL_at map_parts
attribute [local go_sem] reduceCtorEq Nat.reduceLT Nat.reduceEqDiff Nat.reduceAdd Nat.reduceMul Nat.reduceLeDiff Nat.reduceSub Nat.reduceBEq Nat.reduceBNe Nat.reduceBneDiff Nat.reduceBeqDiff
attribute [local go_sem ↓] reduceIte
attribute [local go_sem] ag_24 ag_27 ag_32 ag_34 bo_4 by_24 by_27 by_32 by_34 nf_24 nf_27 nf_32 nf_34 pl_24 pl_27 pl_32 pl_34 ps_24 ps_27 ps_32 ps_34 sz_24 sz_27 sz_32 sz_34 ze_24 ze_27 ze_32 ze_34

theorem rmR_ok {r : Int} {m : List Id3} {bs : List Int} (hm : meshB r m = true) : ∀ (n : Nat) {l : List Id3} {ms ts : List Int}, muR r m l = n → meshB r l = true → celB r l ms ts bs = true → meshB r (rmR r m l ms ts).1 = true ∧ celB r (rmR r m l ms ts).1 (rmR r m l ms ts).2.1 (rmR r m l ms ts).2.2 bs = true := by
  intro n
  induction n using Nat.strongRecOn with
  | ind n ih =>
    intro l ms ts hn hl hC
    by_cases h : stnI l m < 0
    · rw [rm_end h]
      exact ⟨hl, hC⟩
    · obtain ⟨i, _, _, hh⟩ := rm_step hm hl hC (by omega)
      rcases hh with ⟨_, _, _, mu, h1, h2, h3⟩ | ⟨_, k, d, _, _, _, _, _, mu, h1, h2, h3⟩
      · rw [h3]
        exact ih _ (by omega) rfl h1 h2
      · rw [h3]
        exact ih _ (by omega) rfl h1 h2
theorem rmS_le {r : Int} {l : List Id3} {ms ts bs : List Int} {q : Int} {m : List Id3} (hg : rmG r l ms ts bs q m = true) (h : len4 1048576 l ms ts bs) : len4 1048576 (rmR r m l ms ts).1 (rmR r m l ms ts).2.1 (rmR r m l ms ts).2.2 bs := by
  obtain ⟨e1, e2, e3⟩ := rmG_t hg
  subst e3
  have hMm : meshB r m = true := by simp only [balB, Bool.and_eq_true] at e2; exact e2.1
  have e1' := e1
  simp only [okB, balB, Bool.and_eq_true] at e1'
  obtain ⟨h1, h2⟩ := rmR_ok hMm _ rfl e1'.1.1 e1'.2
  have h3 := mesh_len h1
  obtain ⟨k3, k4, k5, k6, k7, k8⟩ := celT h2
  obtain ⟨_, _, _, h4⟩ := h
  exact ⟨by omega, by omega, by omega, h4⟩

def SToMeshN : List AV → List Blk → (AV → List Blk → Prop) → Prop
  | [.agg [.int .i64 r, v]], η, K => ∃ l : List (Int × Int × Int), RowR 97 3 enc3 η v l ∧ l.length ≤ 1048576 ∧ ∀ H b, η.length ≤ b → H[b]? = some ⟨0, 69, 3, (l.map enc3).flatten⟩ → Ext η H → K (.agg [.int .i64 r, .sl b 0 0 l.length]) H
  | _, _, _ => False
theorem toMeshN {args : List AV} {η : List Blk} {K : AV → List Blk → Prop} (h : SToMeshN args η K) : SToMesh args η K := by
  unfold SToMeshN at h
  split at h
  · obtain ⟨l, h1, h2, h3⟩ := h
    exact ⟨l, h1, h2, h3 _ _ (Nat.le_refl _) (app_last _ _) ((Ext.refl _).app _)⟩
  · exact h.elim

def SLaw : List AV → List Blk → (AV → List Blk → Prop) → Prop
  | [.agg [.int .i64 r0, v0, va0, vb0, vc0], .agg [.int .i64 r1, v1]], η, K => ∃ (l0 : List (Int × Int × Int)) (ms0 : List Int) (ts0 : List Int) (bs0 : List Int) (l1 : List (Int × Int × Int)), (ROWS4 η v0 va0 vb0 vc0 l0 ms0 ts0 bs0 ∧ RowR 97 3 enc3 η v1 l1) ∧ (len4 maxLen l0 ms0 ts0 bs0 ∧ l1.length ≤ maxLen) ∧ ∀ H, K (.bool true) H
  | _, _, _ => False

/- laws.FnExactRemapState -/
def Sp3 (lo : Nat) : Spec := fun g args η K => match g with | 7 => SSzState args η K | 8 => SSzMesh args η K | 9 => SRms lo args η K | 10 => SToStN args η K | 11 => SToMesh args η K | 12 => SRms lo args η K | 13 => SEqSU args η K | 14 => SEqMesh args η K | 15 => SMarkSU lo args η K | 16 => SMarkMesh lo args η K | 17 => SHeldSU args η K | _ => False
theorem Sp3_ok {lo : Nat} : Sound Tryz.prog lo (Sp3 lo) := by
  intro g args η K h
  unfold Sp3 at h
  split at h
  · exact .inl (f7_ok h)
  · exact .inl (f8_ok h)
  · exact .inl (f9_ok h)
  · exact .inl (f10N_ok h)
  · exact .inl (f11_ok h)
  · exact .inl (f12_ok h)
  · exact .inl (eqSU_ok h)
  · exact .inl (f14_ok h)
  · exact .inl (markSU_ok h)
  · exact .inl (f16_ok h)
  · exact .inl (heldSU_ok h)
  · exact h.elim
def Dr3 : Draws := fun id => match id with | 8 => ([0, 1, 0, 7, 15, 31, 63, 63, 0, 383, 1023], [1], [(0, 6), (1, 6), (2, 6), (3, 6), (4, 6), (5, 6), (6, 6), (7, 6)], (.one 8 (.one 0 (.one 2 (.one 1 (.one 3 (.one 4 (.one 5 (.one 6 (.one 7 (.one 9 (.one 10 .nil)))))))))))) | 14 => ([0, 0, 2, 7, 15], [2], [], (.one 0 (.one 1 (.one 2 (.one 3 (.one 4 .nil)))))) | 16 => ([0, 0, 2, 7, 15], [2], [], (.one 0 (.one 1 (.one 2 (.one 3 (.one 4 .nil)))))) | 31 => ([0, 1, 0, 7, 15, 31, 63, 63, 0, 383, 1023], [1], [(0, 15), (1, 15), (2, 15), (3, 15), (4, 15), (5, 15), (6, 15), (7, 15)], (.one 8 (.one 0 (.one 2 (.one 1 (.one 3 (.one 4 (.one 5 (.one 6 (.one 7 (.one 9 (.one 10 .nil)))))))))))) | _ => ([], [], [], .nil)
theorem f3_ok {lo : Nat} {args : List AV} {η : List Blk} {K : AV → List Blk → Prop} (h : SLaw args η K) : AF Tryz.prog lo 3 args η K := by
  unfold SLaw at h
  split at h
  · obtain ⟨l0, ms0, ts0, bs0, l1, ⟨hr0, hr1⟩, ⟨hn0, hn1⟩, hK⟩ := h
    rename_i r0 v0 va0 vb0 vc0 r1 v1
    have hml : maxLen = 9223372036854775807 := rfl
    obtain ⟨qa0, qb0, qc0, qd0⟩ := hr0.noLoc
    obtain ⟨pa0, pb0, pc0, pd0⟩ := hr0.noLoc1
    obtain ⟨hna0, hnb0, hnc0, hnd0⟩ := hn0
    have p1 := (noLocR hr1).1
    have q1 := (noLocR hr1).2
    refine AF_run Sp3_ok Dr3 [] [.tmp 4] hm Tryz.func3 rfl (by decide) Tryz.ntmps3 rfl (by kernel_rfl) (Nat.le_of_ble_eq_true rfl) ?_; intro hlo
    repeat' (first | with_reducible refine iteI (fun _ => ?_) (fun _ => ?_) | ((first | unfold AOpsC | unfold AOpsD | skip); simp (maxSteps := 1000000) (disch := (first | omega | assumption | (simp only [List.length_append, List.length_cons, List.length_nil, List.length_set]; omega))) only [go_sem, Sp3, Dr3, ↓qa0, ↓qb0, ↓qc0, ↓qd0, ↓pa0, ↓pb0, ↓pc0, ↓pd0, ↓p1, ↓q1]))
    unfold SSzState
    refine ⟨by simp, l0, ms0, ts0, bs0, hr0, ⟨hna0, hnb0, hnc0, hnd0⟩, ?_⟩
    unfold sz4
    by_cases hsz0 : ((l0.length : Int) + (ms0.length : Int) + (ts0.length : Int) + (bs0.length : Int)) ≤ 1048576
    case neg =>
      rw [if_neg hsz0]
      repeat' (first | with_reducible refine iteI (fun _ => ?_) (fun _ => ?_) | ((first | unfold AOpsC | unfold AOpsD | skip); simp (maxSteps := 1000000) (disch := (first | omega | assumption | (simp only [List.length_append, List.length_cons, List.length_nil, List.length_set]; omega))) only [go_sem, Sp3, Dr3]))
      exact hK _
    rw [if_pos hsz0]
    have ma0 : l0.length ≤ 1048576 := by omega
    have mb0 : ms0.length ≤ 1048576 := by omega
    have mc0 : ts0.length ≤ 1048576 := by omega
    have md0 : bs0.length ≤ 1048576 := by omega
    have m0 : len4 1048576 l0 ms0 ts0 bs0 := ⟨ma0, mb0, mc0, md0⟩
    repeat' (first | with_reducible refine iteI (fun _ => ?_) (fun _ => ?_) | ((first | unfold AOpsC | unfold AOpsD | skip); simp (maxSteps := 1000000) (disch := (first | omega | assumption | (simp only [List.length_append, List.length_cons, List.length_nil, List.length_set]; omega))) only [go_sem, Sp3, Dr3, ↓qa0, ↓qb0, ↓qc0, ↓qd0, ↓pa0, ↓pb0, ↓pc0, ↓pd0, ↓p1, ↓q1]))
    unfold SSzMesh
    refine ⟨l1, hr1, hn1, by omega, by omega, ?_⟩
    by_cases hsz1 : (l1.length : Int) ≤ 1048576 - ((l0.length : Int) + (ms0.length : Int) + (ts0.length : Int) + (bs0.length : Int))
    case neg =>
      rw [szI_neg hsz1]
      repeat' (first | with_reducible refine iteI (fun _ => ?_) (fun _ => ?_) | ((first | unfold AOpsC | unfold AOpsD | skip); simp (maxSteps := 1000000) (disch := (first | omega | assumption | (simp only [List.length_append, List.length_cons, List.length_nil, List.length_set]; omega))) only [go_sem, Sp3, Dr3]))
      exact hK _
    rw [szI_pos hsz1]
    have m1 : l1.length ≤ 1048576 := by omega
    repeat' (first | with_reducible refine iteI (fun _ => ?_) (fun _ => ?_) | ((first | unfold AOpsC | unfold AOpsD | skip); simp (maxSteps := 1000000) (disch := (first | omega | assumption | (simp only [List.length_append, List.length_cons, List.length_nil, List.length_set]; omega))) only [go_sem, Sp3, Dr3, ↓qa0, ↓qb0, ↓qc0, ↓qd0, ↓pa0, ↓pb0, ↓pc0, ↓pd0, ↓p1, ↓q1]))
    have kp0 : Keep η.length η η := Keep.refl η
    unfold SToStN
    refine ⟨l0, ms0, ts0, bs0, hr0.keep kp0, m0, fun H1 bA0_0 bA0_1 bA0_2 bA0_3 gA0 xA0 => ?_⟩
    have kp1 := kp0.ext xA0
    have klkp1 := kp1.1
    have lekp1 := xA0.len
    have glA0 := fun c => gA0.lt (c := c)
    have gnA0 := fun c => gA0.low (c := c)
    repeat' (first | with_reducible refine iteI (fun _ => ?_) (fun _ => ?_) | ((first | unfold AOpsC | unfold AOpsD | skip); simp (maxSteps := 1000000) (disch := (first | omega | assumption | (simp only [List.length_append, List.length_cons, List.length_nil, List.length_set]; omega))) only [go_sem, Sp3, Dr3, ↓qa0, ↓qb0, ↓qc0, ↓qd0, ↓pa0, ↓pb0, ↓pc0, ↓pd0, ↓p1, ↓q1]))
    refine toMeshN ⟨l1, hr1.keep kp1, m1, fun H2 bA1 pA1 gA1 xA1 => ?_⟩
    replace gA0 := gA0.ext xA1
    have kp2 := kp1.ext xA1
    have klkp2 := kp2.1
    have lekp2 := xA1.len
    have glA1 := blt gA1
    repeat' (first | with_reducible refine iteI (fun _ => ?_) (fun _ => ?_) | ((first | unfold AOpsC | unfold AOpsD | skip); simp (maxSteps := 1000000) (disch := (first | omega | assumption | (simp only [List.length_append, List.length_cons, List.length_nil, List.length_set]; omega))) only [go_sem, Sp3, Dr3, ↓qa0, ↓qb0, ↓qc0, ↓qd0, ↓pa0, ↓pb0, ↓pc0, ↓pd0, ↓p1, ↓q1]))
    cases eg : rmG r0 l0 ms0 ts0 bs0 r1 l1
    · have iA0 := gA0.is4
      have dA0_0 := iA0.1.dec3
      have oA0_0 : ok3 69 _ _ := ⟨_, iA0.1, ma0⟩
      have dA0_1 := iA0.2.1.dec
      have oA0_1 : okI _ _ := ⟨_, iA0.2.1, mb0⟩
      have dA0_2 := iA0.2.2.1.dec
      have oA0_2 : okI _ _ := ⟨_, iA0.2.2.1, mc0⟩
      have dA0_3 := iA0.2.2.2.dec
      have oA0_3 : okI _ _ := ⟨_, iA0.2.2.2, md0⟩
      have dA1 := (show IsR 69 3 enc3 _ _ _ from ⟨bA1, 0, rfl, gA1⟩).dec3
      have oA1 : ok3 _ _ _ := ⟨l1, ⟨bA1, 0, rfl, gA1⟩, m1⟩
      unfold SRms
      simp only [dA0_0, oA0_0, dA0_1, oA0_1, dA0_2, oA0_2, dA0_3, oA0_3, dA1, oA1, true_and, and_self, and_true]
      refine ⟨fun e => absurd (eg.symm.trans e) Bool.false_ne_true, fun _ H3 xw => ?_⟩
      replace gA0 := gA0.ext xw
      replace gA1 := xw.blk gA1
      have kp3 := kp2.ext xw
      have klkp3 := kp3.1
      have lekp3 := xw.len
      repeat' (first | with_reducible refine iteI (fun _ => ?_) (fun _ => ?_) | ((first | unfold AOpsC | unfold AOpsD | skip); simp (maxSteps := 1000000) (disch := (first | omega | assumption | (simp only [List.length_append, List.length_cons, List.length_nil, List.length_set]; omega))) only [go_sem, Sp3, Dr3, ↓qa0, ↓qb0, ↓qc0, ↓qd0, ↓pa0, ↓pb0, ↓pc0, ↓pd0, ↓p1, ↓q1]))
      unfold SToStN
      refine ⟨l0, ms0, ts0, bs0, hr0.keep kp3, m0, fun H4 bB0_0 bB0_1 bB0_2 bB0_3 gB0 xB0 => ?_⟩
      have kp4 := kp3.ext xB0
      have klkp4 := kp4.1
      have lekp4 := xB0.len
      have glB0 := fun c => gB0.lt (c := c)
      have gnB0 := fun c => gB0.low (c := c)
      repeat' (first | with_reducible refine iteI (fun _ => ?_) (fun _ => ?_) | ((first | unfold AOpsC | unfold AOpsD | skip); simp (maxSteps := 1000000) (disch := (first | omega | assumption | (simp only [List.length_append, List.length_cons, List.length_nil, List.length_set]; omega))) only [go_sem, Sp3, Dr3, ↓qa0, ↓qb0, ↓qc0, ↓qd0, ↓pa0, ↓pb0, ↓pc0, ↓pd0, ↓p1, ↓q1]))
      refine toMeshN ⟨l1, hr1.keep kp4, m1, fun H5 bB1 pB1 gB1 xB1 => ?_⟩
      replace gB0 := gB0.ext xB1
      have kp5 := kp4.ext xB1
      have klkp5 := kp5.1
      have lekp5 := xB1.len
      have glB1 := blt gB1
      repeat' (first | with_reducible refine iteI (fun _ => ?_) (fun _ => ?_) | ((first | unfold AOpsC | unfold AOpsD | skip); simp (maxSteps := 1000000) (disch := (first | omega | assumption | (simp only [List.length_append, List.length_cons, List.length_nil, List.length_set]; omega))) only [go_sem, Sp3, Dr3, ↓qa0, ↓qb0, ↓qc0, ↓qd0, ↓pa0, ↓pb0, ↓pc0, ↓pd0, ↓p1, ↓q1]))
      have iB0 := gB0.is4
      have dB0_0 := iB0.1.dec3
      have oB0_0 : ok3 69 _ _ := ⟨_, iB0.1, ma0⟩
      have dB0_1 := iB0.2.1.dec
      have oB0_1 : okI _ _ := ⟨_, iB0.2.1, mb0⟩
      have dB0_2 := iB0.2.2.1.dec
      have oB0_2 : okI _ _ := ⟨_, iB0.2.2.1, mc0⟩
      have dB0_3 := iB0.2.2.2.dec
      have oB0_3 : okI _ _ := ⟨_, iB0.2.2.2, md0⟩
      have dB1 := (show IsR 69 3 enc3 _ _ _ from ⟨bB1, 0, rfl, gB1⟩).dec3
      have oB1 : ok3 _ _ _ := ⟨l1, ⟨bB1, 0, rfl, gB1⟩, m1⟩
      unfold SRms
      simp only [dB0_0, oB0_0, dB0_1, oB0_1, dB0_2, oB0_2, dB0_3, oB0_3, dB1, oB1, true_and, and_self, and_true]
      refine ⟨fun e => absurd (eg.symm.trans e) Bool.false_ne_true, fun _ H6 xg => ?_⟩
      replace gB0 := gB0.ext xg
      replace gB1 := xg.blk gB1
      have kp6 := kp5.ext xg
      have klkp6 := kp6.1
      have lekp6 := xg.len
      repeat' (first | with_reducible refine iteI (fun _ => ?_) (fun _ => ?_) | ((first | unfold AOpsC | unfold AOpsD | skip); simp (maxSteps := 1000000) (disch := (first | omega | assumption | (simp only [List.length_append, List.length_cons, List.length_nil, List.length_set]; omega))) only [go_sem, Sp3, Dr3, ↓qa0, ↓qb0, ↓qc0, ↓qd0, ↓pa0, ↓pb0, ↓pc0, ↓pd0, ↓p1, ↓q1]))
      unfold SEqSU
      refine Or.inr ?_
      simp only [SZS2]
      repeat' (first | with_reducible refine iteI (fun _ => ?_) (fun _ => ?_) | ((first | unfold AOpsC | unfold AOpsD | skip); simp (maxSteps := 1000000) (disch := (first | omega | assumption | (simp only [List.length_append, List.length_cons, List.length_nil, List.length_set]; omega))) only [go_sem, Sp3, Dr3, ↓qa0, ↓qb0, ↓qc0, ↓qd0, ↓pa0, ↓pb0, ↓pc0, ↓pd0, ↓p1, ↓q1]))
      unfold SToStN
      refine ⟨l0, ms0, ts0, bs0, hr0.keep kp6, m0, fun H7 bC00_0 bC00_1 bC00_2 bC00_3 gC00 xC00 => ?_⟩
      replace gB0 := gB0.ext xC00
      replace gB1 := xC00.blk gB1
      have kp7 := kp6.ext xC00
      have klkp7 := kp7.1
      have lekp7 := xC00.len
      have glC00 := fun c => gC00.lt (c := c)
      have gnC00 := fun c => gC00.low (c := c)
      repeat' (first | with_reducible refine iteI (fun _ => ?_) (fun _ => ?_) | ((first | unfold AOpsC | unfold AOpsD | skip); simp (maxSteps := 1000000) (disch := (first | omega | assumption | (simp only [List.length_append, List.length_cons, List.length_nil, List.length_set]; omega))) only [go_sem, Sp3, Dr3, ↓qa0, ↓qb0, ↓qc0, ↓qd0, ↓pa0, ↓pb0, ↓pc0, ↓pd0, ↓p1, ↓q1]))
      unfold SEqSU
      refine Or.inl ?_
      unfold SEqState
      refine ⟨l0, ms0, ts0, bs0, l0, ms0, ts0, bs0, gB0.is4, gC00.is4, m0, ?_⟩
      repeat' (first | with_reducible refine iteI (fun _ => ?_) (fun _ => ?_) | ((first | unfold AOpsC | unfold AOpsD | skip); simp (maxSteps := 1000000) (disch := (first | omega | assumption | (simp only [List.length_append, List.length_cons, List.length_nil, List.length_set]; omega))) only [go_sem, Sp3, Dr3, ↓qa0, ↓qb0, ↓qc0, ↓qd0, ↓pa0, ↓pb0, ↓pc0, ↓pd0, ↓p1, ↓q1]))
      refine toMeshN ⟨l1, hr1.keep kp7, m1, fun H8 bC11 pC11 gC11 xC11 => ?_⟩
      replace gB0 := gB0.ext xC11
      replace gB1 := xC11.blk gB1
      have kp8 := kp7.ext xC11
      have klkp8 := kp8.1
      have lekp8 := xC11.len
      have glC11 := blt gC11
      repeat' (first | with_reducible refine iteI (fun _ => ?_) (fun _ => ?_) | ((first | unfold AOpsC | unfold AOpsD | skip); simp (maxSteps := 1000000) (disch := (first | omega | assumption | (simp only [List.length_append, List.length_cons, List.length_nil, List.length_set]; omega))) only [go_sem, Sp3, Dr3, ↓qa0, ↓qb0, ↓qc0, ↓qd0, ↓pa0, ↓pb0, ↓pc0, ↓pd0, ↓p1, ↓q1]))
      unfold SEqMesh
      refine ⟨l1, l1, ⟨bB1, 0, rfl, gB1⟩, ⟨bC11, 0, rfl, gC11⟩, m1, ?_⟩
      repeat' (first | with_reducible refine iteI (fun _ => ?_) (fun _ => ?_) | ((first | unfold AOpsC | unfold AOpsD | skip); simp (maxSteps := 1000000) (disch := (first | omega | assumption | (simp only [List.length_append, List.length_cons, List.length_nil, List.length_set]; omega))) only [go_sem, Sp3, Dr3, ↓qa0, ↓qb0, ↓qc0, ↓qd0, ↓pa0, ↓pb0, ↓pc0, ↓pd0, ↓p1, ↓q1]))
      unfold SMarkSU
      refine Or.inl ?_
      unfold SMarkSt
      refine ⟨l0, ms0, ts0, bs0, _, gB0, by omega, ⟨rfl, rfl, rfl, rfl⟩, m0, by omega, by omega, fun H9 tM0 rM0 => ?_⟩
      replace gB1 := tM0.blk (fun (e : hit4 bB0_0 bB0_1 bB0_2 bB0_3 bB1) => by have := gnB0 _ e; have := glB0 _ e; omega) gB1
      have kp9 := kp8.touch tM0 (fun c (hc : hit4 bB0_0 bB0_1 bB0_2 bB0_3 c) => by have := gnB0 c hc; have := glB0 c hc; omega)
      have klkp9 := kp9.1
      repeat' (first | with_reducible refine iteI (fun _ => ?_) (fun _ => ?_) | ((first | unfold AOpsC | unfold AOpsD | skip); simp (maxSteps := 1000000) (disch := (first | omega | assumption | (simp only [List.length_append, List.length_cons, List.length_nil, List.length_set]; omega))) only [go_sem, Sp3, Dr3, ↓qa0, ↓qb0, ↓qc0, ↓qd0, ↓pa0, ↓pb0, ↓pc0, ↓pd0, ↓p1, ↓q1]))
      unfold SMarkMesh
      refine ⟨l1, ⟨bB1, 0, rfl, gB1⟩, fun c (hc : bB1 = c) => by omega, m1, by omega, by omega, fun H10 tM1 rM1 => ?_⟩
      have kp10 := kp9.touch tM1 (fun c (hc : bB1 = c) => by skip; omega)
      have klkp10 := kp10.1
      repeat' (first | with_reducible refine iteI (fun _ => ?_) (fun _ => ?_) | ((first | unfold AOpsC | unfold AOpsD | skip); simp (maxSteps := 1000000) (disch := (first | omega | assumption | (simp only [List.length_append, List.length_cons, List.length_nil, List.length_set]; omega))) only [go_sem, Sp3, Dr3, ↓qa0, ↓qb0, ↓qc0, ↓qd0, ↓pa0, ↓pb0, ↓pc0, ↓pd0, ↓p1, ↓q1]))
      unfold SEqSU
      refine Or.inr ?_
      simp only [SZS2]
      repeat' (first | with_reducible refine iteI (fun _ => ?_) (fun _ => ?_) | ((first | unfold AOpsC | unfold AOpsD | skip); simp (maxSteps := 1000000) (disch := (first | omega | assumption | (simp only [List.length_append, List.length_cons, List.length_nil, List.length_set]; omega))) only [go_sem, Sp3, Dr3, ↓qa0, ↓qb0, ↓qc0, ↓qd0, ↓pa0, ↓pb0, ↓pc0, ↓pd0, ↓p1, ↓q1]))
      unfold SMarkSU
      refine Or.inr ?_
      simp only [SZSq]
      refine ⟨by omega, ?_⟩
      repeat' (first | with_reducible refine iteI (fun _ => ?_) (fun _ => ?_) | ((first | unfold AOpsC | unfold AOpsD | skip); simp (maxSteps := 1000000) (disch := (first | omega | assumption | (simp only [List.length_append, List.length_cons, List.length_nil, List.length_set]; omega))) only [go_sem, Sp3, Dr3, ↓qa0, ↓qb0, ↓qc0, ↓qd0, ↓pa0, ↓pb0, ↓pc0, ↓pd0, ↓p1, ↓q1]))
      unfold SHeldSU
      refine Or.inr ?_
      simp only [SZSq]
      refine ⟨by omega, ?_⟩
      repeat' (first | with_reducible refine iteI (fun _ => ?_) (fun _ => ?_) | ((first | unfold AOpsC | unfold AOpsD | skip); simp (maxSteps := 1000000) (disch := (first | omega | assumption | (simp only [List.length_append, List.length_cons, List.length_nil, List.length_set]; omega))) only [go_sem, Sp3, Dr3, ↓qa0, ↓qb0, ↓qc0, ↓qd0, ↓pa0, ↓pb0, ↓pc0, ↓pd0, ↓p1, ↓q1]))
      unfold SToStN
      refine ⟨l0, ms0, ts0, bs0, hr0.keep kp10, m0, fun H11 bD0_0 bD0_1 bD0_2 bD0_3 gD0 xD0 => ?_⟩
      have kp11 := kp10.ext xD0
      have klkp11 := kp11.1
      have lekp11 := xD0.len
      have glD0 := fun c => gD0.lt (c := c)
      have gnD0 := fun c => gD0.low (c := c)
      repeat' (first | with_reducible refine iteI (fun _ => ?_) (fun _ => ?_) | ((first | unfold AOpsC | unfold AOpsD | skip); simp (maxSteps := 1000000) (disch := (first | omega | assumption | (simp only [List.length_append, List.length_cons, List.length_nil, List.length_set]; omega))) only [go_sem, Sp3, Dr3, ↓qa0, ↓qb0, ↓qc0, ↓qd0, ↓pa0, ↓pb0, ↓pc0, ↓pd0, ↓p1, ↓q1]))
      refine toMeshN ⟨l1, hr1.keep kp11, m1, fun H12 bD1 pD1 gD1 xD1 => ?_⟩
      replace gD0 := gD0.ext xD1
      have kp12 := kp11.ext xD1
      have klkp12 := kp12.1
      have lekp12 := xD1.len
      have glD1 := blt gD1
      repeat' (first | with_reducible refine iteI (fun _ => ?_) (fun _ => ?_) | ((first | unfold AOpsC | unfold AOpsD | skip); simp (maxSteps := 1000000) (disch := (first | omega | assumption | (simp only [List.length_append, List.length_cons, List.length_nil, List.length_set]; omega))) only [go_sem, Sp3, Dr3, ↓qa0, ↓qb0, ↓qc0, ↓qd0, ↓pa0, ↓pb0, ↓pc0, ↓pd0, ↓p1, ↓q1]))
      have iD0 := gD0.is4
      have dD0_0 := iD0.1.dec3
      have oD0_0 : ok3 69 _ _ := ⟨_, iD0.1, ma0⟩
      have dD0_1 := iD0.2.1.dec
      have oD0_1 : okI _ _ := ⟨_, iD0.2.1, mb0⟩
      have dD0_2 := iD0.2.2.1.dec
      have oD0_2 : okI _ _ := ⟨_, iD0.2.2.1, mc0⟩
      have dD0_3 := iD0.2.2.2.dec
      have oD0_3 : okI _ _ := ⟨_, iD0.2.2.2, md0⟩
      have dD1 := (show IsR 69 3 enc3 _ _ _ from ⟨bD1, 0, rfl, gD1⟩).dec3
      have oD1 : ok3 _ _ _ := ⟨l1, ⟨bD1, 0, rfl, gD1⟩, m1⟩
      unfold SRms
      simp only [dD0_0, oD0_0, dD0_1, oD0_1, dD0_2, oD0_2, dD0_3, oD0_3, dD1, oD1, true_and, and_self, and_true]
      refine ⟨fun e => absurd (eg.symm.trans e) Bool.false_ne_true, fun _ H13 xh => ?_⟩
      replace gD0 := gD0.ext xh
      replace gD1 := xh.blk gD1
      have kp13 := kp12.ext xh
      have klkp13 := kp13.1
      have lekp13 := xh.len
      repeat' (first | with_reducible refine iteI (fun _ => ?_) (fun _ => ?_) | ((first | unfold AOpsC | unfold AOpsD | skip); simp (maxSteps := 1000000) (disch := (first | omega | assumption | (simp only [List.length_append, List.length_cons, List.length_nil, List.length_set]; omega))) only [go_sem, Sp3, Dr3, ↓qa0, ↓qb0, ↓qc0, ↓qd0, ↓pa0, ↓pb0, ↓pc0, ↓pd0, ↓p1, ↓q1]))
      unfold SEqSU
      refine Or.inr ?_
      simp only [SZS2]
      repeat' (first | with_reducible refine iteI (fun _ => ?_) (fun _ => ?_) | ((first | unfold AOpsC | unfold AOpsD | skip); simp (maxSteps := 1000000) (disch := (first | omega | assumption | (simp only [List.length_append, List.length_cons, List.length_nil, List.length_set]; omega))) only [go_sem, Sp3, Dr3, ↓qa0, ↓qb0, ↓qc0, ↓qd0, ↓pa0, ↓pb0, ↓pc0, ↓pd0, ↓p1, ↓q1]))
      unfold SHeldSU
      refine Or.inr ?_
      simp only [SZSq]
      refine ⟨by omega, ?_⟩
      repeat' (first | with_reducible refine iteI (fun _ => ?_) (fun _ => ?_) | ((first | unfold AOpsC | unfold AOpsD | skip); simp (maxSteps := 1000000) (disch := (first | omega | assumption | (simp only [List.length_append, List.length_cons, List.length_nil, List.length_set]; omega))) only [go_sem, Sp3, Dr3, ↓qa0, ↓qb0, ↓qc0, ↓qd0, ↓pa0, ↓pb0, ↓pc0, ↓pd0, ↓p1, ↓q1]))
      exact hK _
    · have iA0 := gA0.is4
      have dA0_0 := iA0.1.dec3
      have oA0_0 : ok3 69 _ _ := ⟨_, iA0.1, ma0⟩
      have dA0_1 := iA0.2.1.dec
      have oA0_1 : okI _ _ := ⟨_, iA0.2.1, mb0⟩
      have dA0_2 := iA0.2.2.1.dec
      have oA0_2 : okI _ _ := ⟨_, iA0.2.2.1, mc0⟩
      have dA0_3 := iA0.2.2.2.dec
      have oA0_3 : okI _ _ := ⟨_, iA0.2.2.2, md0⟩
      have dA1 := (show IsR 69 3 enc3 _ _ _ from ⟨bA1, 0, rfl, gA1⟩).dec3
      have oA1 : ok3 _ _ _ := ⟨l1, ⟨bA1, 0, rfl, gA1⟩, m1⟩
      unfold SRms
      simp only [dA0_0, oA0_0, dA0_1, oA0_1, dA0_2, oA0_2, dA0_3, oA0_3, dA1, oA1, true_and, and_self, and_true]
      refine ⟨fun _ H3 bw_0 bw_1 bw_2 bw_3 vw_0 vw_1 vw_2 vw_3 hw xw => ?_, fun e => absurd (e.symm.trans eg) Bool.false_ne_true⟩
      have glw := fun c => hw.lt (c := c)
      have gnw := fun c => hw.low (c := c)
      replace gA0 := gA0.ext xw
      replace gA1 := xw.blk gA1
      have kp3 := kp2.ext xw
      have klkp3 := kp3.1
      have lekp3 := xw.len
      repeat' (first | with_reducible refine iteI (fun _ => ?_) (fun _ => ?_) | ((first | unfold AOpsC | unfold AOpsD | skip); simp (maxSteps := 1000000) (disch := (first | omega | assumption | (simp only [List.length_append, List.length_cons, List.length_nil, List.length_set]; omega))) only [go_sem, Sp3, Dr3, ↓qa0, ↓qb0, ↓qc0, ↓qd0, ↓pa0, ↓pb0, ↓pc0, ↓pd0, ↓p1, ↓q1]))
      unfold SToStN
      refine ⟨l0, ms0, ts0, bs0, hr0.keep kp3, m0, fun H4 bB0_0 bB0_1 bB0_2 bB0_3 gB0 xB0 => ?_⟩
      replace hw := hw.ext xB0
      have kp4 := kp3.ext xB0
      have klkp4 := kp4.1
      have lekp4 := xB0.len
      have glB0 := fun c => gB0.lt (c := c)
      have gnB0 := fun c => gB0.low (c := c)
      repeat' (first | with_reducible refine iteI (fun _ => ?_) (fun _ => ?_) | ((first | unfold AOpsC | unfold AOpsD | skip); simp (maxSteps := 1000000) (disch := (first | omega | assumption | (simp only [List.length_append, List.length_cons, List.length_nil, List.length_set]; omega))) only [go_sem, Sp3, Dr3, ↓qa0, ↓qb0, ↓qc0, ↓qd0, ↓pa0, ↓pb0, ↓pc0, ↓pd0, ↓p1, ↓q1]))
      refine toMeshN ⟨l1, hr1.keep kp4, m1, fun H5 bB1 pB1 gB1 xB1 => ?_⟩
      replace hw := hw.ext xB1
      replace gB0 := gB0.ext xB1
      have kp5 := kp4.ext xB1
      have klkp5 := kp5.1
      have lekp5 := xB1.len
      have glB1 := blt gB1
      repeat' (first | with_reducible refine iteI (fun _ => ?_) (fun _ => ?_) | ((first | unfold AOpsC | unfold AOpsD | skip); simp (maxSteps := 1000000) (disch := (first | omega | assumption | (simp only [List.length_append, List.length_cons, List.length_nil, List.length_set]; omega))) only [go_sem, Sp3, Dr3, ↓qa0, ↓qb0, ↓qc0, ↓qd0, ↓pa0, ↓pb0, ↓pc0, ↓pd0, ↓p1, ↓q1]))
      have iB0 := gB0.is4
      have dB0_0 := iB0.1.dec3
      have oB0_0 : ok3 69 _ _ := ⟨_, iB0.1, ma0⟩
      have dB0_1 := iB0.2.1.dec
      have oB0_1 : okI _ _ := ⟨_, iB0.2.1, mb0⟩
      have dB0_2 := iB0.2.2.1.dec
      have oB0_2 : okI _ _ := ⟨_, iB0.2.2.1, mc0⟩
      have dB0_3 := iB0.2.2.2.dec
      have oB0_3 : okI _ _ := ⟨_, iB0.2.2.2, md0⟩
      have dB1 := (show IsR 69 3 enc3 _ _ _ from ⟨bB1, 0, rfl, gB1⟩).dec3
      have oB1 : ok3 _ _ _ := ⟨l1, ⟨bB1, 0, rfl, gB1⟩, m1⟩
      unfold SRms
      simp only [dB0_0, oB0_0, dB0_1, oB0_1, dB0_2, oB0_2, dB0_3, oB0_3, dB1, oB1, true_and, and_self, and_true]
      refine ⟨fun _ H6 bg_0 bg_1 bg_2 bg_3 vg_0 vg_1 vg_2 vg_3 hg xg => ?_, fun e => absurd (e.symm.trans eg) Bool.false_ne_true⟩
      have glg := fun c => hg.lt (c := c)
      have gng := fun c => hg.low (c := c)
      replace hw := hw.ext xg
      replace gB0 := gB0.ext xg
      replace gB1 := xg.blk gB1
      have kp6 := kp5.ext xg
      have klkp6 := kp6.1
      have lekp6 := xg.len
      repeat' (first | with_reducible refine iteI (fun _ => ?_) (fun _ => ?_) | ((first | unfold AOpsC | unfold AOpsD | skip); simp (maxSteps := 1000000) (disch := (first | omega | assumption | (simp only [List.length_append, List.length_cons, List.length_nil, List.length_set]; omega))) only [go_sem, Sp3, Dr3, ↓qa0, ↓qb0, ↓qc0, ↓qd0, ↓pa0, ↓pb0, ↓pc0, ↓pd0, ↓p1, ↓q1]))
      have hL : len4 1048576 (rmR r0 l1 l0 ms0 ts0).1 (rmR r0 l1 l0 ms0 ts0).2.1 (rmR r0 l1 l0 ms0 ts0).2.2 bs0 := rmS_le eg m0
      obtain ⟨hL1, hL2, hL3, hL4⟩ := id hL
      unfold SEqSU
      refine Or.inl ?_
      unfold SEqState
      refine ⟨_, _, _, _, _, _, _, _, hg.is4, hw.is4, hL, ?_⟩
      repeat' (first | with_reducible refine iteI (fun _ => ?_) (fun _ => ?_) | ((first | unfold AOpsC | unfold AOpsD | skip); simp (maxSteps := 1000000) (disch := (first | omega | assumption | (simp only [List.length_append, List.length_cons, List.length_nil, List.length_set]; omega))) only [go_sem, Sp3, Dr3, ↓qa0, ↓qb0, ↓qc0, ↓qd0, ↓pa0, ↓pb0, ↓pc0, ↓pd0, ↓p1, ↓q1]))
      unfold SToStN
      refine ⟨l0, ms0, ts0, bs0, hr0.keep kp6, m0, fun H7 bC00_0 bC00_1 bC00_2 bC00_3 gC00 xC00 => ?_⟩
      replace hw := hw.ext xC00
      replace gB0 := gB0.ext xC00
      replace gB1 := xC00.blk gB1
      replace hg := hg.ext xC00
      have kp7 := kp6.ext xC00
      have klkp7 := kp7.1
      have lekp7 := xC00.len
      have glC00 := fun c => gC00.lt (c := c)
      have gnC00 := fun c => gC00.low (c := c)
      repeat' (first | with_reducible refine iteI (fun _ => ?_) (fun _ => ?_) | ((first | unfold AOpsC | unfold AOpsD | skip); simp (maxSteps := 1000000) (disch := (first | omega | assumption | (simp only [List.length_append, List.length_cons, List.length_nil, List.length_set]; omega))) only [go_sem, Sp3, Dr3, ↓qa0, ↓qb0, ↓qc0, ↓qd0, ↓pa0, ↓pb0, ↓pc0, ↓pd0, ↓p1, ↓q1]))
      unfold SEqSU
      refine Or.inl ?_
      unfold SEqState
      refine ⟨l0, ms0, ts0, bs0, l0, ms0, ts0, bs0, gB0.is4, gC00.is4, m0, ?_⟩
      repeat' (first | with_reducible refine iteI (fun _ => ?_) (fun _ => ?_) | ((first | unfold AOpsC | unfold AOpsD | skip); simp (maxSteps := 1000000) (disch := (first | omega | assumption | (simp only [List.length_append, List.length_cons, List.length_nil, List.length_set]; omega))) only [go_sem, Sp3, Dr3, ↓qa0, ↓qb0, ↓qc0, ↓qd0, ↓pa0, ↓pb0, ↓pc0, ↓pd0, ↓p1, ↓q1]))
      refine toMeshN ⟨l1, hr1.keep kp7, m1, fun H8 bC11 pC11 gC11 xC11 => ?_⟩
      replace hw := hw.ext xC11
      replace gB0 := gB0.ext xC11
      replace gB1 := xC11.blk gB1
      replace hg := hg.ext xC11
      have kp8 := kp7.ext xC11
      have klkp8 := kp8.1
      have lekp8 := xC11.len
      have glC11 := blt gC11
      repeat' (first | with_reducible refine iteI (fun _ => ?_) (fun _ => ?_) | ((first | unfold AOpsC | unfold AOpsD | skip); simp (maxSteps := 1000000) (disch := (first | omega | assumption | (simp only [List.length_append, List.length_cons, List.length_nil, List.length_set]; omega))) only [go_sem, Sp3, Dr3, ↓qa0, ↓qb0, ↓qc0, ↓qd0, ↓pa0, ↓pb0, ↓pc0, ↓pd0, ↓p1, ↓q1]))
      unfold SEqMesh
      refine ⟨l1, l1, ⟨bB1, 0, rfl, gB1⟩, ⟨bC11, 0, rfl, gC11⟩, m1, ?_⟩
      repeat' (first | with_reducible refine iteI (fun _ => ?_) (fun _ => ?_) | ((first | unfold AOpsC | unfold AOpsD | skip); simp (maxSteps := 1000000) (disch := (first | omega | assumption | (simp only [List.length_append, List.length_cons, List.length_nil, List.length_set]; omega))) only [go_sem, Sp3, Dr3, ↓qa0, ↓qb0, ↓qc0, ↓qd0, ↓pa0, ↓pb0, ↓pc0, ↓pd0, ↓p1, ↓q1]))
      unfold SMarkSU
      refine Or.inl ?_
      unfold SMarkSt
      refine ⟨l0, ms0, ts0, bs0, _, gB0, by omega, ⟨rfl, rfl, rfl, rfl⟩, m0, by omega, by omega, fun H9 tM0 rM0 => ?_⟩
      replace hw := hw.touch tM0 (fun c (e : hit4 bB0_0 bB0_1 bB0_2 bB0_3 c) e2 => by have := gnB0 c e; have := glB0 c e; have := gnw c e2; have := glw c e2; omega)
      replace gB1 := tM0.blk (fun (e : hit4 bB0_0 bB0_1 bB0_2 bB0_3 bB1) => by have := gnB0 _ e; have := glB0 _ e; omega) gB1
      replace hg := hg.touch tM0 (fun c (e : hit4 bB0_0 bB0_1 bB0_2 bB0_3 c) e2 => by have := gnB0 c e; have := glB0 c e; have := gng c e2; have := glg c e2; omega)
      have kp9 := kp8.touch tM0 (fun c (hc : hit4 bB0_0 bB0_1 bB0_2 bB0_3 c) => by have := gnB0 c hc; have := glB0 c hc; omega)
      have klkp9 := kp9.1
      repeat' (first | with_reducible refine iteI (fun _ => ?_) (fun _ => ?_) | ((first | unfold AOpsC | unfold AOpsD | skip); simp (maxSteps := 1000000) (disch := (first | omega | assumption | (simp only [List.length_append, List.length_cons, List.length_nil, List.length_set]; omega))) only [go_sem, Sp3, Dr3, ↓qa0, ↓qb0, ↓qc0, ↓qd0, ↓pa0, ↓pb0, ↓pc0, ↓pd0, ↓p1, ↓q1]))
      unfold SMarkMesh
      refine ⟨l1, ⟨bB1, 0, rfl, gB1⟩, fun c (hc : bB1 = c) => by omega, m1, by omega, by omega, fun H10 tM1 rM1 => ?_⟩
      replace hw := hw.touch tM1 (fun c (e : bB1 = c) e2 => by skip; have := gnw c e2; have := glw c e2; omega)
      replace hg := hg.touch tM1 (fun c (e : bB1 = c) e2 => by skip; have := gng c e2; have := glg c e2; omega)
      have kp10 := kp9.touch tM1 (fun c (hc : bB1 = c) => by skip; omega)
      have klkp10 := kp10.1
      repeat' (first | with_reducible refine iteI (fun _ => ?_) (fun _ => ?_) | ((first | unfold AOpsC | unfold AOpsD | skip); simp (maxSteps := 1000000) (disch := (first | omega | assumption | (simp only [List.length_append, List.length_cons, List.length_nil, List.length_set]; omega))) only [go_sem, Sp3, Dr3, ↓qa0, ↓qb0, ↓qc0, ↓qd0, ↓pa0, ↓pb0, ↓pc0, ↓pd0, ↓p1, ↓q1]))
      unfold SEqSU
      refine Or.inl ?_
      unfold SEqState
      refine ⟨_, _, _, _, _, _, _, _, hg.is4, hw.is4, hL, ?_⟩
      repeat' (first | with_reducible refine iteI (fun _ => ?_) (fun _ => ?_) | ((first | unfold AOpsC | unfold AOpsD | skip); simp (maxSteps := 1000000) (disch := (first | omega | assumption | (simp only [List.length_append, List.length_cons, List.length_nil, List.length_set]; omega))) only [go_sem, Sp3, Dr3, ↓qa0, ↓qb0, ↓qc0, ↓qd0, ↓pa0, ↓pb0, ↓pc0, ↓pd0, ↓p1, ↓q1]))
      unfold SMarkSU
      refine Or.inl ?_
      unfold SMarkSt
      refine ⟨_, _, _, _, _, hg, by omega, ⟨rfl, rfl, rfl, rfl⟩, hL, by omega, by omega, fun H11 tg rg => ?_⟩
      replace hw := hw.touch tg (fun c (e : hit4 bg_0 bg_1 bg_2 bg_3 c) e2 => by have := gng c e; have := glw c e2; omega)
      have kp11 := kp10.touch tg (fun c (hc : hit4 bg_0 bg_1 bg_2 bg_3 c) => by have := gng c hc; omega)
      have klkp11 := kp11.1
      repeat' (first | with_reducible refine iteI (fun _ => ?_) (fun _ => ?_) | ((first | unfold AOpsC | unfold AOpsD | skip); simp (maxSteps := 1000000) (disch := (first | omega | assumption | (simp only [List.length_append, List.length_cons, List.length_nil, List.length_set]; omega))) only [go_sem, Sp3, Dr3, ↓qa0, ↓qb0, ↓qc0, ↓qd0, ↓pa0, ↓pb0, ↓pc0, ↓pd0, ↓p1, ↓q1]))
      unfold SHeldSU
      refine Or.inl ?_
      unfold SHeldSt
      refine ⟨_, _, _, _, _, rg, ⟨rfl, rfl, rfl, rfl⟩, ⟨hL1, hL2, hL3, hL4⟩, by omega, by omega, ?_⟩
      repeat' (first | with_reducible refine iteI (fun _ => ?_) (fun _ => ?_) | ((first | unfold AOpsC | unfold AOpsD | skip); simp (maxSteps := 1000000) (disch := (first | omega | assumption | (simp only [List.length_append, List.length_cons, List.length_nil, List.length_set]; omega))) only [go_sem, Sp3, Dr3, ↓qa0, ↓qb0, ↓qc0, ↓qd0, ↓pa0, ↓pb0, ↓pc0, ↓pd0, ↓p1, ↓q1]))
      unfold SToStN
      refine ⟨l0, ms0, ts0, bs0, hr0.keep kp11, m0, fun H12 bD0_0 bD0_1 bD0_2 bD0_3 gD0 xD0 => ?_⟩
      replace hw := hw.ext xD0
      replace rg := rg.ext xD0
      have kp12 := kp11.ext xD0
      have klkp12 := kp12.1
      have lekp12 := xD0.len
      have glD0 := fun c => gD0.lt (c := c)
      have gnD0 := fun c => gD0.low (c := c)
      repeat' (first | with_reducible refine iteI (fun _ => ?_) (fun _ => ?_) | ((first | unfold AOpsC | unfold AOpsD | skip); simp (maxSteps := 1000000) (disch := (first | omega | assumption | (simp only [List.length_append, List.length_cons, List.length_nil, List.length_set]; omega))) only [go_sem, Sp3, Dr3, ↓qa0, ↓qb0, ↓qc0, ↓qd0, ↓pa0, ↓pb0, ↓pc0, ↓pd0, ↓p1, ↓q1]))
      refine toMeshN ⟨l1, hr1.keep kp12, m1, fun H13 bD1 pD1 gD1 xD1 => ?_⟩
      replace hw := hw.ext xD1
      replace rg := rg.ext xD1
      replace gD0 := gD0.ext xD1
      have kp13 := kp12.ext xD1
      have klkp13 := kp13.1
      have lekp13 := xD1.len
      have glD1 := blt gD1
      repeat' (first | with_reducible refine iteI (fun _ => ?_) (fun _ => ?_) | ((first | unfold AOpsC | unfold AOpsD | skip); simp (maxSteps := 1000000) (disch := (first | omega | assumption | (simp only [List.length_append, List.length_cons, List.length_nil, List.length_set]; omega))) only [go_sem, Sp3, Dr3, ↓qa0, ↓qb0, ↓qc0, ↓qd0, ↓pa0, ↓pb0, ↓pc0, ↓pd0, ↓p1, ↓q1]))
      have iD0 := gD0.is4
      have dD0_0 := iD0.1.dec3
      have oD0_0 : ok3 69 _ _ := ⟨_, iD0.1, ma0⟩
      have dD0_1 := iD0.2.1.dec
      have oD0_1 : okI _ _ := ⟨_, iD0.2.1, mb0⟩
      have dD0_2 := iD0.2.2.1.dec
      have oD0_2 : okI _ _ := ⟨_, iD0.2.2.1, mc0⟩
      have dD0_3 := iD0.2.2.2.dec
      have oD0_3 : okI _ _ := ⟨_, iD0.2.2.2, md0⟩
      have dD1 := (show IsR 69 3 enc3 _ _ _ from ⟨bD1, 0, rfl, gD1⟩).dec3
      have oD1 : ok3 _ _ _ := ⟨l1, ⟨bD1, 0, rfl, gD1⟩, m1⟩
      unfold SRms
      simp only [dD0_0, oD0_0, dD0_1, oD0_1, dD0_2, oD0_2, dD0_3, oD0_3, dD1, oD1, true_and, and_self, and_true]
      refine ⟨fun _ H14 bh_0 bh_1 bh_2 bh_3 vh_0 vh_1 vh_2 vh_3 hh xh => ?_, fun e => absurd (e.symm.trans eg) Bool.false_ne_true⟩
      have glh := fun c => hh.lt (c := c)
      have gnh := fun c => hh.low (c := c)
      replace hw := hw.ext xh
      replace rg := rg.ext xh
      replace gD0 := gD0.ext xh
      replace gD1 := xh.blk gD1
      have kp14 := kp13.ext xh
      have klkp14 := kp14.1
      have lekp14 := xh.len
      repeat' (first | with_reducible refine iteI (fun _ => ?_) (fun _ => ?_) | ((first | unfold AOpsC | unfold AOpsD | skip); simp (maxSteps := 1000000) (disch := (first | omega | assumption | (simp only [List.length_append, List.length_cons, List.length_nil, List.length_set]; omega))) only [go_sem, Sp3, Dr3, ↓qa0, ↓qb0, ↓qc0, ↓qd0, ↓pa0, ↓pb0, ↓pc0, ↓pd0, ↓p1, ↓q1]))
      unfold SEqSU
      refine Or.inl ?_
      unfold SEqState
      refine ⟨_, _, _, _, _, _, _, _, hh.is4, hw.is4, hL, ?_⟩
      repeat' (first | with_reducible refine iteI (fun _ => ?_) (fun _ => ?_) | ((first | unfold AOpsC | unfold AOpsD | skip); simp (maxSteps := 1000000) (disch := (first | omega | assumption | (simp only [List.length_append, List.length_cons, List.length_nil, List.length_set]; omega))) only [go_sem, Sp3, Dr3, ↓qa0, ↓qb0, ↓qc0, ↓qd0, ↓pa0, ↓pb0, ↓pc0, ↓pd0, ↓p1, ↓q1]))
      unfold SHeldSU
      refine Or.inl ?_
      unfold SHeldSt
      refine ⟨_, _, _, _, _, rg, ⟨rfl, rfl, rfl, rfl⟩, ⟨hL1, hL2, hL3, hL4⟩, by omega, by omega, ?_⟩
      repeat' (first | with_reducible refine iteI (fun _ => ?_) (fun _ => ?_) | ((first | unfold AOpsC | unfold AOpsD | skip); simp (maxSteps := 1000000) (disch := (first | omega | assumption | (simp only [List.length_append, List.length_cons, List.length_nil, List.length_set]; omega))) only [go_sem, Sp3, Dr3, ↓qa0, ↓qb0, ↓qc0, ↓qd0, ↓pa0, ↓pb0, ↓pc0, ↓pd0, ↓p1, ↓q1]))
      exact hK _
  · exact h.elim

/- the law -/
theorem law_ok {blks : List Blk} {x0 x1 x2 x3 x4 x5 x6 : AV} (s0 : AvSh blks (.int .i64) x0) (s1 : AvSh blks (.rows 97 3 .i64) x1) (s2 : AvSh blks (.rows 3 1 .i64) x2) (s3 : AvSh blks (.rows 3 1 .i64) x3) (s4 : AvSh blks (.rows 3 1 .i64) x4) (s5 : AvSh blks (.int .i64) x5) (s6 : AvSh blks (.rows 97 3 .i64) x6) : AF Tryz.prog blks.length 3 [.agg [x0, x1, x2, x3, x4], .agg [x5, x6]] blks fun v _ => v = .bool true := by
  obtain ⟨n0, rfl, _⟩ := s0
  obtain ⟨l0, ha0, na0⟩ := row3 s1
  obtain ⟨ms0, hb0, nb0⟩ := row1 s2
  obtain ⟨ts0, hc0, nc0⟩ := row1 s3
  obtain ⟨bs0, hd0, nd0⟩ := row1 s4
  obtain ⟨n5, rfl, _⟩ := s5
  obtain ⟨l1, h1, n1⟩ := row3 s6
  exact f3_ok (show SLaw _ _ _ from ⟨l0, ms0, ts0, bs0, l1, ⟨⟨ha0, hb0, hc0, hd0⟩, h1⟩, ⟨⟨na0, nb0, nc0, nd0⟩, n1⟩, fun _ => rfl⟩)

end Go.Proofs.YtaalpmbopkbdiaaGreat
