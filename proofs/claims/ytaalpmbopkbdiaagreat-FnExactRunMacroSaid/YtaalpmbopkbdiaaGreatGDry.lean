/- What functions of the program compute, said in the abstract logic; no conditions. -/
import Derived.Test.YtaalpmbopkbdiaaGreatGShare
namespace Go.Proofs.YtaalpmbopkbdiaaGreat
open Go
set_option linter.unusedSimpArgs false
set_option linter.unusedVariables false
set_option maxRecDepth 100000
set_option maxHeartbeats 8000000
attribute [local go_sem] st0 AC thenA andC locLoadB KsSW_same KsSW_grow oldLoadB noBlkB KsSL_same KsOS_same KsOS_grow pv ev put upd dstOk cv cvc binI setB Value.oneCell' EndA resA resA1 List.mapM_cons List.mapM_nil Option.pure_def Option.bind_eq_bind noLocV noLoc1 noLoc noLocs plainV cellsA newVarA putCells condA lam0 inBlockA cur lenA rowA writeA dstA appendC appendZ mapPut mapGet avoidsB avoidB clearB Array.toList_append Op.operands Call.operands newSlot Nat.zero_add Nat.add_zero Nat.succ_ne_self Nat.lt_add_one Nat.zero_lt_succ true_and and_true true_or or_true false_or or_false and_self true_implies forall_const Bool.false_eq_true Bool.true_eq_false false_implies implies_true imp_self ne_eq not_false_eq_true not_true_eq_false false_and and_false List.getElem?_toArray List.getElem?_cons_succ List.getElem?_cons_zero Option.bind_some Option.map_some Bool.not_true Bool.not_false List.getD_cons_zero List.getD_cons_succ Option.some.injEq exists_eq_left' AV.bool.injEq List.map_cons List.map_nil List.all_cons List.all_nil Bool.and_self Bool.and_true Bool.true_and List.append_nil List.cons_append List.nil_append List.length_cons List.length_nil List.drop_zero List.take_zero List.drop_succ_cons List.take_succ_cons List.take_nil List.drop_nil List.not_mem_nil List.mem_cons List.contains_nil List.contains_cons Bool.or_self Bool.or_true Bool.true_or Bool.false_or Bool.or_false Bool.and_false Bool.false_and KsS_same KsS_grow skipV KsS_ext KsSW_ext KsOS_ext rep1 rep2 rep3 rep4 rep5 List.flatten_cons List.flatten_nil partsA isPtr fillA List.size_toArray ltT ltF leT leF ltTn ltFn leTn leFn eqTi eqFi wrapId toNat1 intGet boolGet memD app_get app_last app_lst app_set app_setL app_setF set_ne set_eq gt_iff_lt ge_iff_le decide_eq_true_eq len2 len3 get20 get21 drop2 put2 get30 get31 get32 drop3 put3 putI pairEta bneTi bneFi beqTi beqFi bne_eq_false_iff_eq beq_eq_false_iff_ne beq_iff_eq bne_iff_ne Int.toNat_natCast Nat.mul_one List.length_map Bool.not_eq_true Bool.not_eq_false Bool.decide_eq_true decide_true decide_false Bool.not_eq_true' Bool.not_eq_false' decide_eq_false_iff_not eq_self Decidable.not_not
attribute [local go_sem ↓] skipC exitC retC seqC blockC condC regC drawC drawStep AOpC AOpF AOpE AEff contE_at contC_at keepC_at keepW_at keepO_at keepL_at map_parts
attribute [local go_sem] reduceCtorEq Nat.reduceLT Nat.reduceEqDiff Nat.reduceAdd Nat.reduceMul Nat.reduceLeDiff Nat.reduceSub Nat.reduceBEq Nat.reduceBNe Nat.reduceBneDiff Nat.reduceBeqDiff
attribute [local go_sem ↓] reduceIte

end Go.Proofs.YtaalpmbopkbdiaaGreat
namespace Go.Proofs.YtaalpmbopkbdiaaGreat
open Go
set_option linter.unusedSimpArgs false
set_option linter.unusedVariables false
set_option maxRecDepth 100000
set_option maxHeartbeats 8000000
attribute [local go_sem] st0 AC thenA andC locLoadB KsSW_same KsSW_grow oldLoadB noBlkB KsSL_same KsOS_same KsOS_grow pv ev put upd dstOk cv cvc binI setB Value.oneCell' EndA resA resA1 List.mapM_cons List.mapM_nil Option.pure_def Option.bind_eq_bind noLocV noLoc1 noLoc noLocs plainV cellsA newVarA putCells condA lam0 inBlockA cur lenA rowA writeA dstA appendC appendZ mapPut mapGet avoidsB avoidB clearB Array.toList_append Op.operands Call.operands newSlot Nat.zero_add Nat.add_zero Nat.succ_ne_self Nat.lt_add_one Nat.zero_lt_succ true_and and_true true_or or_true false_or or_false and_self true_implies forall_const Bool.false_eq_true Bool.true_eq_false false_implies implies_true imp_self ne_eq not_false_eq_true not_true_eq_false false_and and_false List.getElem?_toArray List.getElem?_cons_succ List.getElem?_cons_zero Option.bind_some Option.map_some Bool.not_true Bool.not_false List.getD_cons_zero List.getD_cons_succ Option.some.injEq exists_eq_left' AV.bool.injEq List.map_cons List.map_nil List.all_cons List.all_nil Bool.and_self Bool.and_true Bool.true_and List.append_nil List.cons_append List.nil_append List.length_cons List.length_nil List.drop_zero List.take_zero List.drop_succ_cons List.take_succ_cons List.take_nil List.drop_nil List.not_mem_nil List.mem_cons List.contains_nil List.contains_cons Bool.or_self Bool.or_true Bool.true_or Bool.false_or Bool.or_false Bool.and_false Bool.false_and KsS_same KsS_grow skipV KsS_ext KsSW_ext KsOS_ext rep1 rep2 rep3 rep4 rep5 List.flatten_cons List.flatten_nil partsA isPtr fillA List.size_toArray ltT ltF leT leF ltTn ltFn leTn leFn eqTi eqFi wrapId toNat1 intGet boolGet memD app_get app_last app_lst app_set app_setL app_setF set_ne set_eq gt_iff_lt ge_iff_le decide_eq_true_eq len2 len3 get20 get21 drop2 put2 get30 get31 get32 drop3 put3 putI pairEta bneTi bneFi beqTi beqFi bne_eq_false_iff_eq beq_eq_false_iff_ne beq_iff_eq bne_iff_ne Int.toNat_natCast Nat.mul_one List.length_map Bool.not_eq_true Bool.not_eq_false Bool.decide_eq_true decide_true decide_false Bool.not_eq_true' Bool.not_eq_false' decide_eq_false_iff_not eq_self Decidable.not_not
attribute [local go_sem ↓] skipC exitC retC seqC blockC condC regC drawC drawStep AOpC AOpF AOpE AEff contE_at contC_at keepC_at keepW_at keepO_at keepL_at map_parts
attribute [local go_sem] reduceCtorEq Nat.reduceLT Nat.reduceEqDiff Nat.reduceAdd Nat.reduceMul Nat.reduceLeDiff Nat.reduceSub Nat.reduceBEq Nat.reduceBNe Nat.reduceBneDiff Nat.reduceBeqDiff
attribute [local go_sem ↓] reduceIte
attribute [local go_sem] ag_3 ag_30 ag_34 ag_69 by_3 by_30 by_34 by_69 el_30 en_3 fi_32_1 fi_34_0 fi_69_1 in_3 nf_34 nf_69 pl_34 pl_69 ps_34 ps_69 sz_3 sz_30 sz_34 sz_69 ze_3 ze_30 ze_34 ze_69

def partI (a lv : Int) : Int := (a * wdI lv).tdiv 16
theorem part_bd {a : Int} (h : 0 ≤ a ∧ a ≤ 10000) (lv : Int) : 0 ≤ a * wdI lv ∧ a * wdI lv ≤ 160000 ∧ 0 ≤ partI a lv ∧ partI a lv ≤ 160000 := by
  have w := wd_bd lv
  have h1 : 0 ≤ a * wdI lv := Int.mul_nonneg h.1 w.1
  have h2 : a * wdI lv ≤ a * 16 := Int.mul_le_mul_of_nonneg_left w.2 h.1
  have h3 : 0 ≤ (a * wdI lv).tdiv 16 := Int.tdiv_nonneg h1 (by omega)
  have h4 : (a * wdI lv).tdiv 16 ≤ a * wdI lv := Int.tdiv_le_self _ h1
  unfold partI
  omega
def SPart : List AV → List Blk → (AV → List Blk → Prop) → Prop
  | [.int .i64 a, .int .i64 lv], η, K => (0 ≤ a ∧ a ≤ 10000) ∧ K (.int .i64 ((a * wdI lv).tdiv 16)) η
  | _, _, _ => False
def SPartOf : List AV → List Blk → (AV → List Blk → Prop) → Prop
  | [.agg [.int .i64 r, v, a, b, c], .int .i64 x, .int .i64 i], η, K => (ok3 69 η v ∧ okI η a ∧ okI η b ∧ okI η c ∧ (0 ≤ x ∧ x ≤ 10000) ∧ 0 ≤ i ∧ i < (dec3 69 η v).length) ∧ K (.int .i64 ((x * wdI ((dec3 69 η v).getD i.toNat (0, 0, 0)).2.1).tdiv 16)) η
  | _, _, _ => False
def SRain : List AV → List Blk → (AV → List Blk → Prop) → Prop
  | [.int .i64 x], η, K => K (.bool (inB x 0 10000)) η
  | _, _, _ => False

/- impl.isRain -/
def Sp100 (lo : Nat) : Spec := fun g args η K => match g with | 59 => SIn args η K | _ => False
theorem Sp100_ok {lo : Nat} : Sound Tryz.prog lo (Sp100 lo) := by
  intro g args η K h
  unfold Sp100 at h
  split at h
  · exact .inl (f59_ok h)
  · exact h.elim
theorem f100_ok {lo : Nat} {args : List AV} {η : List Blk} {K : AV → List Blk → Prop} (h : SRain args η K) : AF Tryz.prog lo 100 args η K := by
  unfold SRain at h
  split at h
  · refine AF_run Sp100_ok D0 [] [.tmp 2] hm Tryz.func100 rfl (by decide) Tryz.ntmps100 rfl (by kernel_rfl) (Nat.le_of_ble_eq_true rfl) ?_; intro hlo
    repeat' (first | with_reducible refine iteI (fun _ => ?_) (fun _ => ?_) | ((first | unfold AOpsC | unfold AOpsD | skip); simp (maxSteps := 1000000) (disch := (first | omega | assumption | (simp only [List.length_append, List.length_cons, List.length_nil, List.length_set]; omega))) only [go_sem, Sp100, SIn]))
    exact h
  · exact h.elim

/- spec.l14Part -/
def Sp133 (lo : Nat) : Spec := fun g args η K => match g with | 142 => SWd args η K | _ => False
theorem Sp133_ok {lo : Nat} : Sound Tryz.prog lo (Sp133 lo) := by
  intro g args η K h
  unfold Sp133 at h
  split at h
  · exact .inl (f142_ok h)
  · exact h.elim
theorem f133_ok {lo : Nat} {args : List AV} {η : List Blk} {K : AV → List Blk → Prop} (h : SPart args η K) : AF Tryz.prog lo 133 args η K := by
  unfold SPart at h
  split at h
  · obtain ⟨hb, hK⟩ := h
    rename_i a lv
    have p1 := part_bd hb lv
    unfold partI at p1
    refine AF_run Sp133_ok D0 [] [.tmp 4] hm Tryz.func133 rfl (by decide) Tryz.ntmps133 rfl (by kernel_rfl) (Nat.le_of_ble_eq_true rfl) ?_; intro hlo
    repeat' (first | with_reducible refine iteI (fun _ => ?_) (fun _ => ?_) | ((first | unfold AOpsC | unfold AOpsD | skip); simp (maxSteps := 1000000) (disch := (first | omega | assumption | (simp only [List.length_append, List.length_cons, List.length_nil, List.length_set]; omega))) only [go_sem, Sp133, SWd]))
    exact hK
  · exact h.elim

/- (impl.State).partOf -/
def Sp139 (lo : Nat) : Spec := fun g args η K => match g with | 145 => SWd args η K | _ => False
theorem Sp139_ok {lo : Nat} : Sound Tryz.prog lo (Sp139 lo) := by
  intro g args η K h
  unfold Sp139 at h
  split at h
  · exact .inl (f145_ok h)
  · exact h.elim
theorem f139_ok {lo : Nat} {args : List AV} {η : List Blk} {K : AV → List Blk → Prop} (h : SPartOf args η K) : AF Tryz.prog lo 139 args η K := by
  unfold SPartOf at h
  split at h
  · obtain ⟨⟨⟨l, hr, hl⟩, ⟨ms, ha, hla⟩, ⟨ts, hb, hlb⟩, ⟨bs, hc, hlc⟩, hx, i0, i1⟩, hK⟩ := h
    rename_i r _ _ _ _ x i
    rw [hr.dec3] at i1
    have d1 := hr.dec3
    have d2 := ha.dec
    have d3 := hb.dec
    have d4 := hc.dec
    have o1 : ok3 69 _ _ := ⟨l, hr, hl⟩
    have o2 : okI _ _ := ⟨ms, ha, hla⟩
    have o3 : okI _ _ := ⟨ts, hb, hlb⟩
    have o4 : okI _ _ := ⟨bs, hc, hlc⟩
    simp only [d1, d2, d3, d4] at hK
    have hr' := hr
    have ha' := ha
    have hb' := hb
    have hc' := hc
    obtain ⟨b0, v0, rfl, hb0⟩ := hr'
    obtain ⟨b1, v1, rfl, hb1⟩ := ha'
    obtain ⟨b2, v2, rfl, hb2⟩ := hb'
    obtain ⟨b3, v3, rfl, hb3⟩ := hc'
    obtain ⟨j, rfl⟩ : ∃ j : Nat, i = j := ⟨i.toNat, by omega⟩
    rw [Int.toNat_natCast] at hK
    have p1 := part_bd hx (l.getD j (0, 0, 0)).2.1
    unfold partI at p1
    refine AF_run Sp139_ok D0 [] [.tmp 6] hm Tryz.func139 rfl (by decide) Tryz.ntmps139 rfl (by kernel_rfl) (Nat.le_of_ble_eq_true rfl) ?_; intro hlo
    repeat' (first | with_reducible refine iteI (fun _ => ?_) (fun _ => ?_) | ((first | unfold AOpsC | unfold AOpsD | skip); simp (maxSteps := 1000000) (disch := (first | omega | assumption | (simp only [List.length_append, List.length_cons, List.length_nil, List.length_set]; omega))) only [go_sem, Sp139, SWd, hb0, hb1, hb2, hb3, d1, d2, d3, d4, o1, o2, o3, o4]))
    exact hK
  · exact h.elim

end Go.Proofs.YtaalpmbopkbdiaaGreat
