/- What functions of the program compute, said in the abstract logic; no conditions. -/
import Derived.Test.YtaalpmbopkbdiaaGreatGState

namespace Go.Proofs.YtaalpmbopkbdiaaGreat
open Go
set_option linter.unusedSimpArgs false
set_option linter.unusedVariables false
set_option maxRecDepth 100000
set_option maxHeartbeats 8000000
attribute [local go_sem] st0 AC thenA andC locLoadB KsSW_same KsSW_grow oldLoadB noBlkB KsSL_same KsOS_same KsOS_grow pv ev put upd dstOk cv cvc binI setB Value.oneCell' EndA resA resA1 List.mapM_cons List.mapM_nil Option.pure_def Option.bind_eq_bind noLocV noLoc1 noLoc noLocs plainV cellsA newVarA putCells condA lam0 inBlockA cur lenA rowA writeA dstA appendC appendZ mapPut mapGet avoidsB avoidB clearB Array.toList_append Op.operands Call.operands newSlot Nat.zero_add Nat.add_zero Nat.succ_ne_self Nat.lt_add_one Nat.zero_lt_succ true_and and_true true_or or_true false_or or_false and_self true_implies forall_const Bool.false_eq_true Bool.true_eq_false false_implies implies_true imp_self ne_eq not_false_eq_true not_true_eq_false false_and and_false List.getElem?_toArray List.getElem?_cons_succ List.getElem?_cons_zero Option.bind_some Option.map_some Bool.not_true Bool.not_false List.getD_cons_zero List.getD_cons_succ Option.some.injEq exists_eq_left' AV.bool.injEq List.map_cons List.map_nil List.all_cons List.all_nil Bool.and_self Bool.and_true Bool.true_and List.append_nil List.cons_append List.nil_append List.length_cons List.length_nil List.drop_zero List.take_zero List.drop_succ_cons List.take_succ_cons List.take_nil List.drop_nil List.not_mem_nil List.mem_cons List.contains_nil List.contains_cons Bool.or_self Bool.or_true Bool.true_or Bool.false_or Bool.or_false Bool.and_false Bool.false_and KsS_same KsS_grow skipV KsS_ext KsSW_ext KsOS_ext rep1 rep2 rep3 rep4 rep5 List.flatten_cons List.flatten_nil partsA isPtr fillA List.size_toArray ltT ltF leT leF ltTn ltFn leTn leFn eqTi eqFi wrapId toNat1 intGet boolGet memD app_get app_last app_lst app_set app_setL app_setF set_ne set_eq gt_iff_lt ge_iff_le decide_eq_true_eq len2 len3 get20 get21 drop2 put2 get30 get31 get32 drop3 put3 putI pairEta bneTi bneFi beqTi beqFi bne_eq_false_iff_eq beq_eq_false_iff_ne beq_iff_eq bne_iff_ne Int.toNat_natCast Nat.mul_one List.length_map Bool.not_eq_true Bool.not_eq_false Bool.decide_eq_true decide_true decide_false Bool.not_eq_true' Bool.not_eq_false' decide_eq_false_iff_not eq_self Decidable.not_not
attribute [local go_sem ↓] skipC exitC retC seqC blockC condC regC drawC drawStep AOpC AOpF AOpE AEff contE_at contC_at keepC_at keepW_at keepO_at keepL_at map_parts
attribute [local go_sem] reduceCtorEq Nat.reduceLT Nat.reduceEqDiff Nat.reduceAdd Nat.reduceMul Nat.reduceLeDiff Nat.reduceSub Nat.reduceBEq Nat.reduceBNe Nat.reduceBneDiff Nat.reduceBeqDiff
attribute [local go_sem ↓] reduceIte
attribute [local go_sem] ag_25 ag_3 ag_30 ag_32 ag_34 ag_69 by_25 by_3 by_30 by_32 by_34 by_69 el_25 el_30 en_3 fi_32_0 fi_32_1 fi_34_0 fi_34_1 fi_34_2 fi_34_3 in_3 nf_32 nf_34 nf_69 pl_32 pl_34 pl_69 ps_32 ps_34 ps_69 sz_25 sz_3 sz_30 sz_32 sz_34 sz_69 ze_25 ze_3 ze_30 ze_32 ze_34 ze_69

theorem takeFlat (l : List Id3) : ((l.map enc3).flatten).take (l.length * 3) = (l.map enc3).flatten := by
  rw [List.take_of_length_le]; rw [len3]; exact Nat.le_refl _
theorem allI (l : List Int) : (l.map (AV.int .i64)).all noLoc = true := by
  rw [List.all_eq_true]
  intro x hx
  obtain ⟨n, _, rfl⟩ := List.mem_map.1 hx
  rfl
theorem all3 (l : List Id3) : ((l.map enc3).flatten).all noLoc = true := by
  rw [List.all_eq_true]
  intro x hx
  obtain ⟨c, hc, hx⟩ := List.mem_flatten.1 hx
  obtain ⟨p, _, rfl⟩ := List.mem_map.1 hc
  simp only [enc3, List.mem_cons, List.not_mem_nil, or_false] at hx
  rcases hx with rfl | rfl | rfl <;> rfl
def SCloneI : List AV → List Blk → (AV → List Blk → Prop) → Prop
  | [v], η, K => ∃ l : List Int, IsI η v l ∧ l.length ≤ 1048576 ∧ K (.sl η.length 0 0 l.length) (η ++ [⟨0, 3, 1, l.map (.int .i64)⟩])
  | _, _, _ => False
def SClone3 : List AV → List Blk → (AV → List Blk → Prop) → Prop
  | [v], η, K => ∃ l : List Id3, IsR 69 3 enc3 η v l ∧ l.length ≤ 1048576 ∧ K (.sl η.length 0 0 l.length) (η ++ [⟨0, 69, 3, (l.map enc3).flatten⟩])
  | _, _, _ => False
def SCopyM : List AV → List Blk → (AV → List Blk → Prop) → Prop
  | [.agg [.int .i64 r, v]], η, K => ∃ l : List Id3, IsR 69 3 enc3 η v l ∧ l.length ≤ 1048576 ∧ K (.agg [.int .i64 r, .sl η.length 0 0 l.length]) (η ++ [⟨0, 69, 3, (l.map enc3).flatten⟩])
  | _, _, _ => False
def blkL (l : List Id3) : Blk := ⟨0, 69, 3, (l.map enc3).flatten⟩
def blkI (l : List Int) : Blk := ⟨0, 3, 1, l.map (.int .i64)⟩
def SCopyS : List AV → List Blk → (AV → List Blk → Prop) → Prop
  | [.agg [.int .i64 r, v, a, b, c]], η, K => ∃ (l : List Id3) (ms ts bs : List Int), (IsR 69 3 enc3 η v l ∧ IsI η a ms ∧ IsI η b ts ∧ IsI η c bs) ∧ (l.length ≤ 1048576 ∧ ms.length ≤ 1048576 ∧ ts.length ≤ 1048576 ∧ bs.length ≤ 1048576) ∧
      K (.agg [.int .i64 r, .sl η.length 0 0 l.length, .sl (η.length + 1) 0 0 ms.length, .sl (η.length + 2) 0 0 ts.length, .sl (η.length + 3) 0 0 bs.length]) (η ++ [blkL l, blkI ms, blkI ts, blkI bs])
  | _, _, _ => False

/- slices.Clone[[]int,int] -/
theorem f79_ok {lo : Nat} {args : List AV} {η : List Blk} {K : AV → List Blk → Prop} (h : SCloneI args η K) : AF Tryz.prog lo 79 args η K := by
  unfold SCloneI at h
  split at h
  · obtain ⟨l, ⟨b, ver, rfl, hb⟩, hl, hK⟩ := h
    refine AF_run noSp_ok D0 [] [.tmp 2] hm Tryz.func79 rfl (by decide) Tryz.ntmps79 rfl (by kernel_rfl) (Nat.le_of_ble_eq_true rfl) ?_; intro hlo
    repeat' (first | with_reducible refine iteI (fun _ => ?_) (fun _ => ?_) | ((first | unfold AOpsC | unfold AOpsD | skip); simp (maxSteps := 1000000) (disch := (first | omega | assumption | (simp only [List.length_append, List.length_cons, List.length_nil, List.length_set]; omega))) only [go_sem, AOpsD, hb, takeMap, takeFlat, allI, all3, Option.isSome_some]))
    exact hK
  · exact h.elim

/- slices.Clone[[]impl.Id,impl.Id] -/
theorem f120_ok {lo : Nat} {args : List AV} {η : List Blk} {K : AV → List Blk → Prop} (h : SClone3 args η K) : AF Tryz.prog lo 120 args η K := by
  unfold SClone3 at h
  split at h
  · obtain ⟨l, ⟨b, ver, rfl, hb⟩, hl, hK⟩ := h
    refine AF_run noSp_ok D0 [] [.tmp 2] hm Tryz.func120 rfl (by decide) Tryz.ntmps120 rfl (by kernel_rfl) (Nat.le_of_ble_eq_true rfl) ?_; intro hlo
    repeat' (first | with_reducible refine iteI (fun _ => ?_) (fun _ => ?_) | ((first | unfold AOpsC | unfold AOpsD | skip); simp (maxSteps := 1000000) (disch := (first | omega | assumption | (simp only [List.length_append, List.length_cons, List.length_nil, List.length_set]; omega))) only [go_sem, AOpsD, hb, takeMap, takeFlat, allI, all3, Option.isSome_some]))
    exact hK
  · exact h.elim

/- impl.copyMesh -/
def Sp78 (lo : Nat) : Spec := fun g args η K => match g with | 120 => SClone3 args η K | _ => False
theorem Sp78_ok {lo : Nat} : Sound Tryz.prog lo (Sp78 lo) := by
  intro g args η K h
  unfold Sp78 at h
  split at h
  · exact .inl (f120_ok h)
  · exact h.elim
def Dr78 : Draws := fun id => match id with | 1 => ([0, 1, 0, 4, 12, 31, 63], [4], [], (.one 0 (.one 1 (.one 2 (.one 3 (.one 4 (.one 5 (.one 6 .nil)))))))) | _ => ([], [], [], .nil)
theorem f78_ok {lo : Nat} {args : List AV} {η : List Blk} {K : AV → List Blk → Prop} (h : SCopyM args η K) : AF Tryz.prog lo 78 args η K := by
  unfold SCopyM at h
  split at h
  · obtain ⟨l, hr, hl, hK⟩ := h
    have hr' := hr
    obtain ⟨b, ver, rfl, hb⟩ := hr'
    refine AF_run Sp78_ok Dr78 [] [.cell 2 32] hm Tryz.func78 rfl (by decide) Tryz.ntmps78 rfl (by kernel_rfl) (Nat.le_of_ble_eq_true rfl) ?_; intro hlo
    repeat' (first | with_reducible refine iteI (fun _ => ?_) (fun _ => ?_) | ((first | unfold AOpsC | unfold AOpsD | skip); simp (maxSteps := 1000000) (disch := (first | omega | assumption | (simp only [List.length_append, List.length_cons, List.length_nil, List.length_set]; omega))) only [go_sem, Sp78, Dr78, hb, takeFlat, all3]))
    unfold SClone3
    refine ⟨l, hr, hl, ?_⟩
    repeat' (first | with_reducible refine iteI (fun _ => ?_) (fun _ => ?_) | ((first | unfold AOpsC | unfold AOpsD | skip); simp (maxSteps := 1000000) (disch := (first | omega | assumption | (simp only [List.length_append, List.length_cons, List.length_nil, List.length_set]; omega))) only [go_sem, Sp78, Dr78]))
    exact hK
  · exact h.elim

/- spec.l04Copy -/
def Dr67 : Draws := fun id => match id with | 1 => ([0, 1, 0, 0, 8, 28, 63, 127], [5], [], (.one 0 (.one 1 (.one 2 (.one 3 (.one 4 (.one 5 (.one 6 (.one 7 .nil))))))))) | _ => ([], [], [], .nil)
theorem f67_ok {lo : Nat} {args : List AV} {η : List Blk} {K : AV → List Blk → Prop} (h : SCopyM args η K) : AF Tryz.prog lo 67 args η K := by
  unfold SCopyM at h
  split at h
  · obtain ⟨l, hr, hl, hK⟩ := h
    have hr' := hr
    obtain ⟨b, ver, rfl, hb⟩ := hr'
    refine AF_run noSp_ok Dr67 [] [.cell 2 32] hm Tryz.func67 rfl (by decide) Tryz.ntmps67 rfl (by kernel_rfl) (Nat.le_of_ble_eq_true rfl) ?_; intro hlo
    repeat' (first | with_reducible refine iteI (fun _ => ?_) (fun _ => ?_) | ((first | unfold AOpsC | unfold AOpsD | skip); simp (maxSteps := 1000000) (disch := (first | omega | assumption | (simp only [List.length_append, List.length_cons, List.length_nil, List.length_set]; omega))) only [go_sem, Dr67, hb, takeFlat, all3]))
    exact hK
  · exact h.elim

/- impl.copyState -/
def Sp41 (lo : Nat) : Spec := fun g args η K => match g with | 78 => SCopyM args η K | 79 => SCloneI args η K | _ => False
theorem Sp41_ok {lo : Nat} : Sound Tryz.prog lo (Sp41 lo) := by
  intro g args η K h
  unfold Sp41 at h
  split at h
  · exact .inl (f78_ok h)
  · exact .inl (f79_ok h)
  · exact h.elim
def Dr41 : Draws := fun id => match id with | 1 => ([0, 1, 3, 0, 8, 31, 0, 64, 255, 0, 512, 2047, 4095, 8191], [2, 5, 8], [], (.one 0 (.one 1 (.one 3 (.one 4 (.one 6 (.one 7 (.one 9 (.one 10 (.one 2 (.one 5 (.one 8 (.one 11 (.one 12 (.one 13 .nil))))))))))))))) | _ => ([], [], [], .nil)
theorem f41_ok {lo : Nat} {args : List AV} {η : List Blk} {K : AV → List Blk → Prop} (h : SCopyS args η K) : AF Tryz.prog lo 41 args η K := by
  unfold SCopyS at h
  split at h
  · obtain ⟨l, ms, ts, bs, ⟨hr, ha, hb, hc⟩, ⟨n1, n2, n3, n4⟩, hK⟩ := h
    have w1 := hr
    have w2 := ha
    have w3 := hb
    have w4 := hc
    obtain ⟨b0, v0, rfl, hb0⟩ := hr
    obtain ⟨b1, v1, rfl, hb1⟩ := ha
    obtain ⟨b2, v2, rfl, hb2⟩ := hb
    obtain ⟨b3, v3, rfl, hb3⟩ := hc
    have i0 := blt hb0
    have i1 := blt hb1
    have i2 := blt hb2
    have i3 := blt hb3
    refine AF_run Sp41_ok Dr41 [] [.cell 2 34] hm Tryz.func41 rfl (by decide) Tryz.ntmps41 rfl (by kernel_rfl) (Nat.le_of_ble_eq_true rfl) ?_; intro hlo
    repeat' (first | with_reducible refine iteI (fun _ => ?_) (fun _ => ?_) | ((first | unfold AOpsC | unfold AOpsD | skip); simp (maxSteps := 1000000) (disch := (first | omega | assumption | (simp only [List.length_append, List.length_cons, List.length_nil, List.length_set]; omega))) only [go_sem, Sp41, Dr41, hb0, hb1, hb2, hb3, takeMap, allI, all3]))
    unfold SCopyM
    refine ⟨l, (by repeat (first | assumption | exact IsI.last _ _ | exact RowI.last _ _ | exact IsR.last _ _ | exact RowR.last _ _ | refine IsI.app ?_ _ | refine RowI.app ?_ _ | refine IsR.app ?_ _ | refine RowR.app ?_ _)), n1, ?_⟩
    repeat' (first | with_reducible refine iteI (fun _ => ?_) (fun _ => ?_) | ((first | unfold AOpsC | unfold AOpsD | skip); simp (maxSteps := 1000000) (disch := (first | omega | assumption | (simp only [List.length_append, List.length_cons, List.length_nil, List.length_set]; omega))) only [go_sem, Sp41, Dr41, hb0, hb1, hb2, hb3, takeMap, allI, all3]))
    unfold SCloneI
    refine ⟨ms, (by repeat (first | assumption | exact IsI.last _ _ | exact RowI.last _ _ | exact IsR.last _ _ | exact RowR.last _ _ | refine IsI.app ?_ _ | refine RowI.app ?_ _ | refine IsR.app ?_ _ | refine RowR.app ?_ _)), n2, ?_⟩
    repeat' (first | with_reducible refine iteI (fun _ => ?_) (fun _ => ?_) | ((first | unfold AOpsC | unfold AOpsD | skip); simp (maxSteps := 1000000) (disch := (first | omega | assumption | (simp only [List.length_append, List.length_cons, List.length_nil, List.length_set]; omega))) only [go_sem, Sp41, Dr41]))
    unfold SCloneI
    refine ⟨ts, (by repeat (first | assumption | exact IsI.last _ _ | exact RowI.last _ _ | exact IsR.last _ _ | exact RowR.last _ _ | refine IsI.app ?_ _ | refine RowI.app ?_ _ | refine IsR.app ?_ _ | refine RowR.app ?_ _)), n3, ?_⟩
    repeat' (first | with_reducible refine iteI (fun _ => ?_) (fun _ => ?_) | ((first | unfold AOpsC | unfold AOpsD | skip); simp (maxSteps := 1000000) (disch := (first | omega | assumption | (simp only [List.length_append, List.length_cons, List.length_nil, List.length_set]; omega))) only [go_sem, Sp41, Dr41]))
    unfold SCloneI
    refine ⟨bs, (by repeat (first | assumption | exact IsI.last _ _ | exact RowI.last _ _ | exact IsR.last _ _ | exact RowR.last _ _ | refine IsI.app ?_ _ | refine RowI.app ?_ _ | refine IsR.app ?_ _ | refine RowR.app ?_ _)), n4, ?_⟩
    repeat' (first | with_reducible refine iteI (fun _ => ?_) (fun _ => ?_) | ((first | unfold AOpsC | unfold AOpsD | skip); simp (maxSteps := 1000000) (disch := (first | omega | assumption | (simp only [List.length_append, List.length_cons, List.length_nil, List.length_set]; omega))) only [go_sem, Sp41, Dr41]))
    simp only [List.append_assoc, List.cons_append, List.nil_append, List.length_append, List.length_cons, List.length_nil, Nat.zero_add, Nat.add_assoc, Nat.reduceAdd]
    exact hK
  · exact h.elim

/- spec.l07Copy -/
def Sp30 (lo : Nat) : Spec := fun g args η K => match g with | 67 => SCopyM args η K | _ => False
theorem Sp30_ok {lo : Nat} : Sound Tryz.prog lo (Sp30 lo) := by
  intro g args η K h
  unfold Sp30 at h
  split at h
  · exact .inl (f67_ok h)
  · exact h.elim
def Dr30 : Draws := fun id => match id with | 1 => ([0, 1, 3, 0, 0, 16, 63, 0, 0, 256, 1023, 0, 0, 4096, 16383, 32767, 65535], [2, 6, 10], [], (.one 0 (.one 1 (.one 3 (.one 4 (.one 5 (.one 7 (.one 8 (.one 9 (.one 11 (.one 12 (.one 13 (.one 2 (.one 6 (.one 10 (.one 14 (.one 15 (.one 16 .nil)))))))))))))))))) | _ => ([], [], [], .nil)
theorem f30_ok {lo : Nat} {args : List AV} {η : List Blk} {K : AV → List Blk → Prop} (h : SCopyS args η K) : AF Tryz.prog lo 30 args η K := by
  unfold SCopyS at h
  split at h
  · obtain ⟨l, ms, ts, bs, ⟨hr, ha, hb, hc⟩, ⟨n1, n2, n3, n4⟩, hK⟩ := h
    have w1 := hr
    have w2 := ha
    have w3 := hb
    have w4 := hc
    obtain ⟨b0, v0, rfl, hb0⟩ := hr
    obtain ⟨b1, v1, rfl, hb1⟩ := ha
    obtain ⟨b2, v2, rfl, hb2⟩ := hb
    obtain ⟨b3, v3, rfl, hb3⟩ := hc
    have i0 := blt hb0
    have i1 := blt hb1
    have i2 := blt hb2
    have i3 := blt hb3
    refine AF_run Sp30_ok Dr30 [] [.cell 2 34] hm Tryz.func30 rfl (by decide) Tryz.ntmps30 rfl (by kernel_rfl) (Nat.le_of_ble_eq_true rfl) ?_; intro hlo
    repeat' (first | with_reducible refine iteI (fun _ => ?_) (fun _ => ?_) | ((first | unfold AOpsC | unfold AOpsD | skip); simp (maxSteps := 1000000) (disch := (first | omega | assumption | (simp only [List.length_append, List.length_cons, List.length_nil, List.length_set]; omega))) only [go_sem, Sp30, Dr30, hb0, hb1, hb2, hb3, takeMap, allI, all3]))
    unfold SCopyM
    refine ⟨l, (by repeat (first | assumption | exact IsI.last _ _ | exact RowI.last _ _ | exact IsR.last _ _ | exact RowR.last _ _ | refine IsI.app ?_ _ | refine RowI.app ?_ _ | refine IsR.app ?_ _ | refine RowR.app ?_ _)), n1, ?_⟩
    repeat' (first | with_reducible refine iteI (fun _ => ?_) (fun _ => ?_) | ((first | unfold AOpsC | unfold AOpsD | skip); simp (maxSteps := 1000000) (disch := (first | omega | assumption | (simp only [List.length_append, List.length_cons, List.length_nil, List.length_set]; omega))) only [go_sem, Sp30, Dr30, hb0, hb1, hb2, hb3, takeMap, allI, all3]))
    simp only [List.append_assoc, List.cons_append, List.nil_append, List.length_append, List.length_cons, List.length_nil, Nat.zero_add, Nat.add_assoc, Nat.reduceAdd]
    exact hK
  · exact h.elim

end Go.Proofs.YtaalpmbopkbdiaaGreat
