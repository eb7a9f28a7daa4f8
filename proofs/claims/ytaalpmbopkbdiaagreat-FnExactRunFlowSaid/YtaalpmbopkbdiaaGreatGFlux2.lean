/- What functions of the program compute, said in the abstract logic; no conditions. -/
import Derived.Test.YtaalpmbopkbdiaaGreatGRes
import Derived.Test.YtaalpmbopkbdiaaGreatGFlux

namespace Go.Proofs.YtaalpmbopkbdiaaGreat
open Go
set_option linter.unusedSimpArgs false
set_option linter.unusedVariables false
set_option maxRecDepth 100000
set_option maxHeartbeats 8000000
attribute [local go_sem] st0 AC thenA andC locLoadB KsSW_same KsSW_grow oldLoadB noBlkB KsSL_same KsOS_same KsOS_grow pv ev put upd dstOk cv cvc binI setB Value.oneCell' EndA resA resA1 List.mapM_cons List.mapM_nil Option.pure_def Option.bind_eq_bind noLocV noLoc1 noLoc noLocs plainV cellsA newVarA putCells condA lam0 inBlockA cur lenA rowA writeA dstA appendC appendZ mapPut mapGet avoidsB avoidB clearB Array.toList_append Op.operands Call.operands newSlot Nat.zero_add Nat.add_zero Nat.succ_ne_self Nat.lt_add_one Nat.zero_lt_succ true_and and_true true_or or_true false_or or_false and_self true_implies forall_const Bool.false_eq_true Bool.true_eq_false false_implies implies_true imp_self ne_eq not_false_eq_true not_true_eq_false false_and and_false List.getElem?_toArray List.getElem?_cons_succ List.getElem?_cons_zero Option.bind_some Option.map_some Bool.not_true Bool.not_false List.getD_cons_zero List.getD_cons_succ Option.some.injEq exists_eq_left' AV.bool.injEq List.map_cons List.map_nil List.all_cons List.all_nil Bool.and_self Bool.and_true Bool.true_and List.append_nil List.cons_append List.nil_append List.length_cons List.length_nil List.drop_zero List.take_zero List.drop_succ_cons List.take_succ_cons List.take_nil List.drop_nil List.not_mem_nil List.mem_cons List.contains_nil List.contains_cons Bool.or_self Bool.or_true Bool.true_or Bool.false_or Bool.or_false Bool.and_false Bool.false_and KsS_same KsS_grow skipV KsS_ext KsSW_ext KsOS_ext rep1 rep2 rep3 rep4 rep5 List.flatten_cons List.flatten_nil partsA isPtr fillA List.size_toArray ltT ltF leT leF ltTn ltFn leTn leFn eqTi eqFi wrapId toNat1 intGet boolGet memD app_get app_last app_lst app_set app_setL app_setF set_ne set_eq gt_iff_lt ge_iff_le decide_eq_true_eq len2 len3 get20 get21 drop2 put2 get30 get31 get32 drop3 put3 putI pairEta bneTi bneFi beqTi beqFi bne_eq_false_iff_eq beq_eq_false_iff_ne beq_iff_eq bne_iff_ne Int.toNat_natCast Nat.mul_one List.length_map Bool.not_eq_true Bool.not_eq_false Bool.decide_eq_true decide_true decide_false Bool.not_eq_true' Bool.not_eq_false' decide_eq_false_iff_not eq_self Decidable.not_not
attribute [local go_sem ↓] skipC exitC retC seqC blockC condC regC drawC drawStep AOpC AOpF AOpE AEff contE_at contC_at keepC_at keepW_at keepO_at keepL_at map_parts
attribute [local go_sem] reduceCtorEq Nat.reduceLT Nat.reduceEqDiff Nat.reduceAdd Nat.reduceMul Nat.reduceLeDiff Nat.reduceSub Nat.reduceBEq Nat.reduceBNe Nat.reduceBneDiff Nat.reduceBeqDiff
attribute [local go_sem ↓] reduceIte
attribute [local go_sem] ag_25 ag_3 ag_30 ag_34 ag_69 by_25 by_3 by_30 by_34 by_69 el_25 el_30 en_3 fi_32_1 fi_34_0 fi_34_1 fi_69_1 in_3 nf_34 nf_69 pl_34 pl_69 ps_34 ps_69 sz_25 sz_3 sz_30 sz_34 sz_69 ze_25 ze_3 ze_30 ze_34 ze_69

theorem clamp_eq {n lo hi : Int} (h : lo ≤ hi) : (if (if hi < n then hi else n) < lo then lo else (if hi < n then hi else n)) = clampI n lo hi := by
  unfold clampI
  have h0 : ¬ hi < lo := by omega
  by_cases h1 : hi < n
  · have h2 : ¬ n < lo := by omega
    simp only [h0, h1, h2, if_true, if_false]
  · by_cases h2 : n < lo
    · simp only [h0, h1, h2, if_true, if_false]
    · simp only [h0, h1, h2, if_false]
def SFluxQ : List AV → List Blk → (AV → List Blk → Prop) → Prop
  | [.int .i64 sa, .int .i64 sb, .int .i64 ma, .int .i64 mb, .int .i64 la, .int .i64 lb], η, K => ((0 ≤ ma ∧ ma ≤ 10000000) ∧ (0 ≤ mb ∧ mb ≤ 10000000) ∧ (0 ≤ sa ∧ sa ≤ 1000000000) ∧ (0 ≤ sb ∧ sb ≤ 1000000000)) ∧ K (.int .i64 (fluxP la ma sa lb mb sb)) η
  | _, _, _ => False
theorem clampI_bd {n lo hi : Int} (h : lo ≤ hi) : lo ≤ clampI n lo hi ∧ clampI n lo hi ≤ hi := by
  unfold clampI
  rw [if_neg (by omega)]
  repeat' split
  all_goals omega
theorem flux_bd {r : Int} {l : List Id3} {ms ts bs : List Int} (h : okB r l ms ts bs = true) {i : Nat} (hi : i + 1 < l.length) : -((ms.getD (i + 1) 0).tdiv 4) ≤ fluxI l ms bs i ∧ fluxI l ms bs i ≤ (ms.getD i 0).tdiv 4 := by
  obtain ⟨k1, k2, k3, k4, k5, k6, k7, k8⟩ := okT h
  have m1 := cells_at k7 (i := i) (by omega)
  have m2 := cells_at k7 (i := i + 1) (by omega)
  have q1 : 0 ≤ (ms.getD i 0).tdiv 4 := Int.tdiv_nonneg m1.1 (by omega)
  have q2 : 0 ≤ (ms.getD (i + 1) 0).tdiv 4 := Int.tdiv_nonneg m2.1 (by omega)
  exact clampI_bd (by omega)

/- spec.l09Pair -/
def Sp157 (lo : Nat) : Spec := fun g args η K => match g with | 142 => SWd args η K | 168 => SDivT args η K | _ => False
theorem Sp157_ok {lo : Nat} : Sound Tryz.prog lo (Sp157 lo) := by
  intro g args η K h
  unfold Sp157 at h
  split at h
  · exact .inl (f142_ok h)
  · exact .inl (f168_ok h)
  · exact h.elim
theorem f157_ok {lo : Nat} {args : List AV} {η : List Blk} {K : AV → List Blk → Prop} (h : SFluxQ args η K) : AF Tryz.prog lo 157 args η K := by
  unfold SFluxQ at h
  split at h
  · obtain ⟨⟨⟨h1, h2⟩, ⟨h3, h4⟩, ⟨h5, h6⟩, h7, h8⟩, hK⟩ := h
    rename_i sa sb ma mb la lb
    have w1 := wd_bd la
    have w2 := wd_bd lb
    have w3 := wd_bd (maxI la lb)
    have p := mul16 (X := 1000000000) (d := sa - sb) (by omega) w3 (by omega)
    have q1 := tdiv_bd (a := ma) (b := 4) (X := 10000000) (by omega) (by omega)
    have q2 := tdiv_bd (a := mb) (b := 4) (X := 10000000) (by omega) (by omega)
    have q3 : 0 ≤ ma.tdiv 4 := Int.tdiv_nonneg h1 (by omega)
    have q4 : 0 ≤ mb.tdiv 4 := Int.tdiv_nonneg h3 (by omega)
    unfold fluxP at hK
    rw [← clamp_eq (by omega)] at hK
    unfold maxI at p w3 hK
    refine AF_run Sp157_ok D0 [] [.tmp 12] hm Tryz.func157 rfl (by decide) Tryz.ntmps157 rfl (by kernel_rfl) (Nat.le_of_ble_eq_true rfl) ?_; intro hlo
    by_cases hm' : la < lb
    · rw [if_pos hm'] at p w3 hK
      repeat' (first | with_reducible refine iteI (fun _ => ?_) (fun _ => ?_) | ((first | unfold AOpsC | unfold AOpsD | skip); simp (maxSteps := 1000000) (disch := (first | omega | assumption | (simp only [List.length_append, List.length_cons, List.length_nil, List.length_set]; omega))) only [go_sem, Sp157, SWd, SDivT, maxStep, minStep, List.foldl_cons, List.foldl_nil, Int.zero_sub]))
      exact hK
    · rw [if_neg hm'] at p w3 hK
      repeat' (first | with_reducible refine iteI (fun _ => ?_) (fun _ => ?_) | ((first | unfold AOpsC | unfold AOpsD | skip); simp (maxSteps := 1000000) (disch := (first | omega | assumption | (simp only [List.length_append, List.length_cons, List.length_nil, List.length_set]; omega))) only [go_sem, Sp157, SWd, SDivT, maxStep, minStep, List.foldl_cons, List.foldl_nil, Int.zero_sub]))
      exact hK
  · exact h.elim

/- spec.l09Flux -/
def Sp136 (lo : Nat) : Spec := fun g args η K => match g with | 154 => SSurf args η K | 157 => SFluxQ args η K | _ => False
theorem Sp136_ok {lo : Nat} : Sound Tryz.prog lo (Sp136 lo) := by
  intro g args η K h
  unfold Sp136 at h
  split at h
  · exact .inl (f154_ok h)
  · exact .inl (f157_ok h)
  · exact h.elim
def Dr136 : Draws := fun id => match id with | 1 => ([0, 0, 3, 0, 0, 16, 63, 0, 128, 0, 896, 1920, 0, 4096, 0, 16384, 61440, 126976, 0, 262144, 786432, 0, 3932160, 8126464, 16515072, 0, 33554432, 100663296, 0, 268435456, 1040187392, 2113929216, 4261412864, 8589934591, 17179869183], [2, 6], [], (.one 0 (.one 1 (.one 3 (.one 4 (.one 5 (.one 7 (.one 8 (.one 9 (.one 10 (.one 11 (.one 12 (.one 13 (.one 14 (.one 15 (.one 16 (.one 17 (.one 18 (.one 19 (.one 20 (.one 21 (.one 22 (.one 23 (.one 24 (.one 25 (.one 26 (.one 27 (.one 28 (.one 29 (.one 30 (.one 31 (.one 32 (.one 2 (.one 6 (.one 33 (.one 34 .nil)))))))))))))))))))))))))))))))))))) | _ => ([], [], [], .nil)
theorem f136_ok {lo : Nat} {args : List AV} {η : List Blk} {K : AV → List Blk → Prop} (h : SFlux args η K) : AF Tryz.prog lo 136 args η K := by
  unfold SFlux at h
  split at h
  · obtain ⟨⟨⟨⟨l, hr, hl⟩, ⟨ms, ha, hla⟩, ⟨ts, hb, hlb⟩, ⟨bs, hc, hlc⟩⟩, e1, i0, i1⟩, hK⟩ := h
    rename_i r _ _ _ _ i
    rw [hr.dec3] at i1 e1
    rw [ha.dec, hb.dec, hc.dec] at e1
    have d1 := hr.dec3
    have d2 := ha.dec
    have d3 := hb.dec
    have d4 := hc.dec
    have o1 : ok3 69 _ _ := ⟨l, hr, hl⟩
    have o2 : okI _ _ := ⟨ms, ha, hla⟩
    have o3 : okI _ _ := ⟨ts, hb, hlb⟩
    have o4 : okI _ _ := ⟨bs, hc, hlc⟩
    simp only [d1, d2, d3, d4] at hK
    have hr' := hr
    have ha' := ha
    have hb' := hb
    have hc' := hc
    obtain ⟨b0, v0, rfl, hb0⟩ := hr'
    obtain ⟨b1, v1, rfl, hb1⟩ := ha'
    obtain ⟨b2, v2, rfl, hb2⟩ := hb'
    obtain ⟨b3, v3, rfl, hb3⟩ := hc'
    obtain ⟨j, rfl⟩ : ∃ j : Nat, i = j := ⟨i.toNat, by omega⟩
    rw [Int.toNat_natCast] at hK
    obtain ⟨k1, k2, k3, k4, k5, k6, k7, k8⟩ := okT e1
    have j1 : j < l.length := by omega
    have m1 := cells_at k7 (i := j) (by omega)
    have j2 : j + 1 < l.length := by omega
    have m2 := cells_at k7 (i := j + 1) (by omega)
    have s1 := surf_bd e1 j1
    have s2 := surf_bd e1 j2
    refine AF_run Sp136_ok Dr136 [] [.tmp 4] hm Tryz.func136 rfl (by decide) Tryz.ntmps136 rfl (by kernel_rfl) (Nat.le_of_ble_eq_true rfl) ?_; intro hlo
    repeat' (first | with_reducible refine iteI (fun _ => ?_) (fun _ => ?_) | ((first | unfold AOpsC | unfold AOpsD | skip); simp (maxSteps := 1000000) (disch := (first | omega | assumption | (simp only [List.length_append, List.length_cons, List.length_nil, List.length_set]; omega))) only [go_sem, Sp136, SSurf, SFluxQ, Dr136, hb0, hb1, hb2, hb3, d1, d2, d3, d4, o1, o2, o3, o4, e1]))
    exact hK
  · exact h.elim

end Go.Proofs.YtaalpmbopkbdiaaGreat
