/- What functions of the program compute, said in the abstract logic; no conditions. -/
import Derived.Test.YtaalpmbopkbdiaaGreatGState

namespace Go.Proofs.YtaalpmbopkbdiaaGreat
open Go
set_option linter.unusedSimpArgs false
set_option linter.unusedVariables false
set_option maxRecDepth 100000
set_option maxHeartbeats 8000000
attribute [local go_sem] st0 AC thenA andC locLoadB KsSW_same KsSW_grow oldLoadB noBlkB KsSL_same KsOS_same KsOS_grow pv ev put upd dstOk cv cvc binI setB Value.oneCell' EndA resA resA1 List.mapM_cons List.mapM_nil Option.pure_def Option.bind_eq_bind noLocV noLoc1 noLoc noLocs plainV cellsA newVarA putCells condA lam0 inBlockA cur lenA rowA writeA dstA appendC appendZ mapPut mapGet avoidsB avoidB clearB Array.toList_append Op.operands Call.operands newSlot Nat.zero_add Nat.add_zero Nat.succ_ne_self Nat.lt_add_one Nat.zero_lt_succ true_and and_true true_or or_true false_or or_false and_self true_implies forall_const Bool.false_eq_true Bool.true_eq_false false_implies implies_true imp_self ne_eq not_false_eq_true not_true_eq_false false_and and_false List.getElem?_toArray List.getElem?_cons_succ List.getElem?_cons_zero Option.bind_some Option.map_some Bool.not_true Bool.not_false List.getD_cons_zero List.getD_cons_succ Option.some.injEq exists_eq_left' AV.bool.injEq List.map_cons List.map_nil List.all_cons List.all_nil Bool.and_self Bool.and_true Bool.true_and List.append_nil List.cons_append List.nil_append List.length_cons List.length_nil List.drop_zero List.take_zero List.drop_succ_cons List.take_succ_cons List.take_nil List.drop_nil List.not_mem_nil List.mem_cons List.contains_nil List.contains_cons Bool.or_self Bool.or_true Bool.true_or Bool.false_or Bool.or_false Bool.and_false Bool.false_and KsS_same KsS_grow skipV KsS_ext KsSW_ext KsOS_ext rep1 rep2 rep3 rep4 rep5 List.flatten_cons List.flatten_nil partsA isPtr fillA List.size_toArray ltT ltF leT leF ltTn ltFn leTn leFn eqTi eqFi wrapId toNat1 intGet boolGet memD app_get app_last app_lst app_set app_setL app_setF set_ne set_eq gt_iff_lt ge_iff_le decide_eq_true_eq len2 len3 get20 get21 drop2 put2 get30 get31 get32 drop3 put3 putI pairEta bneTi bneFi beqTi beqFi bne_eq_false_iff_eq beq_eq_false_iff_ne beq_iff_eq bne_iff_ne Int.toNat_natCast Nat.mul_one List.length_map Bool.not_eq_true Bool.not_eq_false Bool.decide_eq_true decide_true decide_false Bool.not_eq_true' Bool.not_eq_false' decide_eq_false_iff_not eq_self Decidable.not_not
attribute [local go_sem ↓] skipC exitC retC seqC blockC condC regC drawC drawStep AOpC AOpF AOpE AEff contE_at contC_at keepC_at keepW_at keepO_at keepL_at map_parts
attribute [local go_sem] reduceCtorEq Nat.reduceLT Nat.reduceEqDiff Nat.reduceAdd Nat.reduceMul Nat.reduceLeDiff Nat.reduceSub Nat.reduceBEq Nat.reduceBNe Nat.reduceBneDiff Nat.reduceBeqDiff
attribute [local go_sem ↓] reduceIte
attribute [local go_sem] ag_25 ag_3 ag_30 ag_32 ag_34 ag_69 by_25 by_3 by_30 by_32 by_34 by_69 el_25 el_30 en_3 fi_32_1 fi_34_0 fi_34_1 fi_34_3 fi_69_0 fi_69_1 in_112 in_3 nf_32 nf_34 nf_69 pl_32 pl_34 pl_69 ps_32 ps_34 ps_69 sz_25 sz_3 sz_30 sz_32 sz_34 sz_69 ze_25 ze_3 ze_30 ze_32 ze_34 ze_69

def SHasI : List AV → List Blk → (AV → List Blk → Prop) → Prop
  | [.agg [.int .i64 r, v], .int .i64 i], η, K => ok3 69 η v ∧ K (.bool (inB i 0 ((dec3 69 η v).length - 1))) η
  | _, _, _ => False
def surfI (l : List Id3) (ms bs : List Int) (i : Nat) : Int := bs.getD (l.getD i (0, 0, 0)).1.toNat 0 + ms.getD i 0 * 2 ^ (l.getD i (0, 0, 0)).2.1.toNat
def SSurf : List AV → List Blk → (AV → List Blk → Prop) → Prop
  | [.agg [.int .i64 r, v, a, b, c], .int .i64 i], η, K => ((ok3 69 η v ∧ okI η a ∧ okI η b ∧ okI η c) ∧ okB r (dec3 69 η v) (decI η a) (decI η b) (decI η c) = true ∧ 0 ≤ i ∧ i < (dec3 69 η v).length) ∧ K (.int .i64 (surfI (dec3 69 η v) (decI η a) (decI η c) i.toNat)) η
  | _, _, _ => False
/- (impl.Mesh).has -/
def Sp131 (lo : Nat) : Spec := fun g args η K => match g with | 59 => SIn args η K | _ => False
theorem Sp131_ok {lo : Nat} : Sound Tryz.prog lo (Sp131 lo) := by
  intro g args η K h
  unfold Sp131 at h
  split at h
  · exact .inl (f59_ok h)
  · exact h.elim
theorem f131_ok {lo : Nat} {args : List AV} {η : List Blk} {K : AV → List Blk → Prop} (h : SHasI args η K) : AF Tryz.prog lo 131 args η K := by
  unfold SHasI at h
  split at h
  · obtain ⟨⟨l, hr, hl⟩, hK⟩ := h
    rw [hr.dec3] at hK
    obtain ⟨b, ver, rfl, hb⟩ := hr
    refine AF_run Sp131_ok D0 [] [.tmp 4] hm Tryz.func131 rfl (by decide) Tryz.ntmps131 rfl (by kernel_rfl) (Nat.le_of_ble_eq_true rfl) ?_; intro hlo
    repeat' (first | with_reducible refine iteI (fun _ => ?_) (fun _ => ?_) | ((first | unfold AOpsC | unfold AOpsD | skip); simp (maxSteps := 1000000) (disch := (first | omega | assumption | (simp only [List.length_append, List.length_cons, List.length_nil, List.length_set]; omega))) only [go_sem, Sp131, SIn, hb]))
    exact hK
  · exact h.elim

/- spec.l09Surface -/
def Dr154 : Draws := fun id => match id with | 2 => ([0, 1, 0, 4, 15, 31, 0, 64, 0, 448, 960, 0, 2048, 6144, 16320, 32767, 65535], [], [], (.one 0 (.one 1 (.one 2 (.one 3 (.one 4 (.one 5 (.one 6 (.one 7 (.one 8 (.one 9 (.one 10 (.one 11 (.one 12 (.one 13 (.one 14 (.one 15 (.one 16 .nil)))))))))))))))))) | _ => ([], [], [], .nil)
theorem f154_ok {lo : Nat} {args : List AV} {η : List Blk} {K : AV → List Blk → Prop} (h : SSurf args η K) : AF Tryz.prog lo 154 args η K := by
  unfold SSurf at h
  split at h
  · obtain ⟨⟨⟨⟨l, hr, hl⟩, ⟨ms, ha, hla⟩, ⟨ts, hb, hlb⟩, ⟨bs, hc, hlc⟩⟩, e1, i0, i1⟩, hK⟩ := h
    rename_i r _ _ _ _ i
    rw [hr.dec3] at i1 e1
    rw [ha.dec, hb.dec, hc.dec] at e1
    have d1 := hr.dec3
    have d2 := ha.dec
    have d3 := hb.dec
    have d4 := hc.dec
    have o1 : ok3 69 _ _ := ⟨l, hr, hl⟩
    have o2 : okI _ _ := ⟨ms, ha, hla⟩
    have o3 : okI _ _ := ⟨ts, hb, hlb⟩
    have o4 : okI _ _ := ⟨bs, hc, hlc⟩
    simp only [d1, d2, d3, d4] at hK
    have hr' := hr
    have ha' := ha
    have hb' := hb
    have hc' := hc
    obtain ⟨b0, v0, rfl, hb0⟩ := hr'
    obtain ⟨b1, v1, rfl, hb1⟩ := ha'
    obtain ⟨b2, v2, rfl, hb2⟩ := hb'
    obtain ⟨b3, v3, rfl, hb3⟩ := hc'
    obtain ⟨j, rfl⟩ : ∃ j : Nat, i = j := ⟨i.toNat, by omega⟩
    rw [Int.toNat_natCast] at hK
    obtain ⟨k1, k2, k3, k4, k5, k6, k7, k8⟩ := okT e1
    have j1 : j < l.length := by omega
    have m1 := cells_at k7 (i := j) (by omega)
    have x1 := mesh_root k1 j1
    have x2 := levs_at (mesh_levs k1) j1
    have x3 := bed_at k6 (i := (l.getD j (0, 0, 0)).1.toNat) (by omega)
    unfold surfI at hK
    refine AF_run noSp_ok Dr154 [] [.tmp 4] hm Tryz.func154 rfl (by decide) Tryz.ntmps154 rfl (by kernel_rfl) (Nat.le_of_ble_eq_true rfl) ?_; intro hlo
    rcases lv5 x2 with x4 | x4 | x4 | x4 | x4
    all_goals
      rw [x4] at hK
      simp only [Int.reduceToNat, Nat.min_eq_left, Int.reducePow, IntKind.bits, Int.reduceMul, Int.reduceSub, Int.reduceAdd, Int.reduceFDiv, wrapU, Int.one_mul] at hK
      repeat' (first | with_reducible refine iteI (fun _ => ?_) (fun _ => ?_) | ((first | unfold AOpsC | unfold AOpsD | skip); simp (maxSteps := 1000000) (disch := (first | omega | assumption | (simp only [List.length_append, List.length_cons, List.length_nil, List.length_set]; omega))) only [go_sem, Dr154, hb0, hb1, hb2, hb3, d1, d2, d3, d4, o1, o2, o3, o4, x4, Int.reduceToNat, Nat.min_eq_left, Int.reducePow, IntKind.bits, Int.reduceMul, Int.reduceSub, Int.reduceAdd, Int.reduceFDiv, wrapU, Int.one_mul]))
      exact hK
  · exact h.elim

/- (impl.State).surface -/
def Dr156 : Draws := fun id => match id with | 2 => ([0, 1, 0, 4, 15, 31, 0, 64, 0, 448, 960, 0, 2048, 8128, 16383, 32767], [], [], (.one 0 (.one 1 (.one 2 (.one 3 (.one 4 (.one 5 (.one 6 (.one 7 (.one 8 (.one 9 (.one 10 (.one 11 (.one 12 (.one 13 (.one 14 (.one 15 .nil))))))))))))))))) | _ => ([], [], [], .nil)
theorem f156_ok {lo : Nat} {args : List AV} {η : List Blk} {K : AV → List Blk → Prop} (h : SSurf args η K) : AF Tryz.prog lo 156 args η K := by
  unfold SSurf at h
  split at h
  · obtain ⟨⟨⟨⟨l, hr, hl⟩, ⟨ms, ha, hla⟩, ⟨ts, hb, hlb⟩, ⟨bs, hc, hlc⟩⟩, e1, i0, i1⟩, hK⟩ := h
    rename_i r _ _ _ _ i
    rw [hr.dec3] at i1 e1
    rw [ha.dec, hb.dec, hc.dec] at e1
    have d1 := hr.dec3
    have d2 := ha.dec
    have d3 := hb.dec
    have d4 := hc.dec
    have o1 : ok3 69 _ _ := ⟨l, hr, hl⟩
    have o2 : okI _ _ := ⟨ms, ha, hla⟩
    have o3 : okI _ _ := ⟨ts, hb, hlb⟩
    have o4 : okI _ _ := ⟨bs, hc, hlc⟩
    simp only [d1, d2, d3, d4] at hK
    have hr' := hr
    have ha' := ha
    have hb' := hb
    have hc' := hc
    obtain ⟨b0, v0, rfl, hb0⟩ := hr'
    obtain ⟨b1, v1, rfl, hb1⟩ := ha'
    obtain ⟨b2, v2, rfl, hb2⟩ := hb'
    obtain ⟨b3, v3, rfl, hb3⟩ := hc'
    obtain ⟨j, rfl⟩ : ∃ j : Nat, i = j := ⟨i.toNat, by omega⟩
    rw [Int.toNat_natCast] at hK
    obtain ⟨k1, k2, k3, k4, k5, k6, k7, k8⟩ := okT e1
    have j1 : j < l.length := by omega
    have m1 := cells_at k7 (i := j) (by omega)
    have x1 := mesh_root k1 j1
    have x2 := levs_at (mesh_levs k1) j1
    have x3 := bed_at k6 (i := (l.getD j (0, 0, 0)).1.toNat) (by omega)
    unfold surfI at hK
    refine AF_run noSp_ok Dr156 [] [.tmp 4] hm Tryz.func156 rfl (by decide) Tryz.ntmps156 rfl (by kernel_rfl) (Nat.le_of_ble_eq_true rfl) ?_; intro hlo
    rcases lv5 x2 with x4 | x4 | x4 | x4 | x4
    all_goals
      rw [x4] at hK
      simp only [Int.reduceToNat, Nat.min_eq_left, Int.reducePow, IntKind.bits, Int.reduceMul, Int.reduceSub, Int.reduceAdd, Int.reduceFDiv, wrapU, Int.one_mul] at hK
      repeat' (first | with_reducible refine iteI (fun _ => ?_) (fun _ => ?_) | ((first | unfold AOpsC | unfold AOpsD | skip); simp (maxSteps := 1000000) (disch := (first | omega | assumption | (simp only [List.length_append, List.length_cons, List.length_nil, List.length_set]; omega))) only [go_sem, Dr156, hb0, hb1, hb2, hb3, d1, d2, d3, d4, o1, o2, o3, o4, x4, Int.reduceToNat, Nat.min_eq_left, Int.reducePow, IntKind.bits, Int.reduceMul, Int.reduceSub, Int.reduceAdd, Int.reduceFDiv, wrapU, Int.one_mul]))
      exact hK
  · exact h.elim

end Go.Proofs.YtaalpmbopkbdiaaGreat
