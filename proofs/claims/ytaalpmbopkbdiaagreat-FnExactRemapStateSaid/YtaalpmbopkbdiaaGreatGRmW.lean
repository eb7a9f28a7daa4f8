/- What functions of the program compute, said in the abstract logic; no conditions. -/
import Derived.Test.YtaalpmbopkbdiaaGreatGMergeW
import Derived.Test.YtaalpmbopkbdiaaGreatGRmP

namespace Go.Proofs.YtaalpmbopkbdiaaGreat
open Go
set_option linter.unusedSimpArgs false
set_option linter.unusedVariables false
set_option maxRecDepth 100000
set_option maxHeartbeats 8000000
attribute [local go_sem] st0 AC thenA andC locLoadB KsSW_same KsSW_grow oldLoadB noBlkB KsSL_same KsOS_same KsOS_grow pv ev put upd dstOk cv cvc binI setB Value.oneCell' EndA resA resA1 List.mapM_cons List.mapM_nil Option.pure_def Option.bind_eq_bind noLocV noLoc1 noLoc noLocs plainV cellsA newVarA putCells condA lam0 inBlockA cur lenA rowA writeA dstA appendC appendZ mapPut mapGet avoidsB avoidB clearB Array.toList_append Op.operands Call.operands newSlot Nat.zero_add Nat.add_zero Nat.succ_ne_self Nat.lt_add_one Nat.zero_lt_succ true_and and_true true_or or_true false_or or_false and_self true_implies forall_const Bool.false_eq_true Bool.true_eq_false false_implies implies_true imp_self ne_eq not_false_eq_true not_true_eq_false false_and and_false List.getElem?_toArray List.getElem?_cons_succ List.getElem?_cons_zero Option.bind_some Option.map_some Bool.not_true Bool.not_false List.getD_cons_zero List.getD_cons_succ Option.some.injEq exists_eq_left' AV.bool.injEq List.map_cons List.map_nil List.all_cons List.all_nil Bool.and_self Bool.and_true Bool.true_and List.append_nil List.cons_append List.nil_append List.length_cons List.length_nil List.drop_zero List.take_zero List.drop_succ_cons List.take_succ_cons List.take_nil List.drop_nil List.not_mem_nil List.mem_cons List.contains_nil List.contains_cons Bool.or_self Bool.or_true Bool.true_or Bool.false_or Bool.or_false Bool.and_false Bool.false_and KsS_same KsS_grow skipV KsS_ext KsSW_ext KsOS_ext rep1 rep2 rep3 rep4 rep5 List.flatten_cons List.flatten_nil partsA isPtr fillA List.size_toArray ltT ltF leT leF ltTn ltFn leTn leFn eqTi eqFi wrapId toNat1 intGet boolGet memD app_get app_last app_lst app_set app_setL app_setF set_ne set_eq gt_iff_lt ge_iff_le decide_eq_true_eq len2 len3 get20 get21 drop2 put2 get30 get31 get32 drop3 put3 putI pairEta bneTi bneFi beqTi beqFi bne_eq_false_iff_eq beq_eq_false_iff_ne beq_iff_eq bne_iff_ne Int.toNat_natCast Nat.mul_one List.length_map Bool.not_eq_true Bool.not_eq_false Bool.decide_eq_true decide_true decide_false Bool.not_eq_true' Bool.not_eq_false' decide_eq_false_iff_not eq_self Decidable.not_not
attribute [local go_sem ↓] skipC exitC retC seqC blockC condC regC drawC drawStep AOpC AOpF AOpE AEff contE_at contC_at keepC_at keepW_at keepO_at keepL_at map_parts
attribute [local go_sem] reduceCtorEq Nat.reduceLT Nat.reduceEqDiff Nat.reduceAdd Nat.reduceMul Nat.reduceLeDiff Nat.reduceSub Nat.reduceBEq Nat.reduceBNe Nat.reduceBneDiff Nat.reduceBeqDiff
attribute [local go_sem ↓] reduceIte
attribute [local go_sem] ag_3 ag_30 ag_32 ag_69 by_3 by_30 by_32 by_69 el_30 en_3 fi_32_1 fi_34_0 fi_69_1 in_3 nf_32 nf_69 pl_32 pl_69 ps_32 ps_69 sz_3 sz_30 sz_32 sz_69 ze_3 ze_30 ze_32 ze_69

def SIxId : List AV → List Blk → (AV → List Blk → Prop) → Prop
  | [v, .agg [.int .i64 a, .int .i64 b, .int .i64 c]], η, K => ok3 69 η v ∧ K (.int .i64 (idxR (dec3 69 η v) fun x => decide (x = (a, b, c)))) η
  | _, _, _ => False
def SStn : List AV → List Blk → (AV → List Blk → Prop) → Prop
  | [.agg [.int .i64 r, v], .agg [.int .i64 q, u]], η, K => (ok3 69 η v ∧ ok3 69 η u) ∧ K (.int .i64 (stnI (dec3 69 η v) (dec3 69 η u))) η
  | _, _, _ => False
def SWth : List AV → List Blk → (AV → List Blk → Prop) → Prop
  | [.agg [.int .i64 r, v], .agg [.int .i64 a, .int .i64 b, .int .i64 c]], η, K => ok3 69 η v ∧ K (.bool (wthB (dec3 69 η v) (a, b, c))) η
  | _, _, _ => False
def SDp : List AV → List Blk → (AV → List Blk → Prop) → Prop
  | [.agg [.int .i64 r, v], .agg [.int .i64 a, .int .i64 b, .int .i64 c]], η, K => ok3 69 η v ∧ K (.int .i64 (dpI (dec3 69 η v) (a, b, c))) η
  | _, _, _ => False
def SRs1 : List AV → List Blk → (AV → List Blk → Prop) → Prop
  | [.agg [.int .i64 a, .int .i64 b, .int .i64 c], .ptr p 0 0], η, K => ∃ (r : Int) (v : AV) (ty : Nat) (m : List Id3), η[p]? = some ⟨0, ty, 2, [.int .i64 r, v]⟩ ∧ IsR 69 3 enc3 η v m ∧ m.length ≤ 1048576 ∧ K (.bool (decide (ixL m (a, b, c) < 0))) η
  | _, _, _ => False
def SRm1 : List AV → List Blk → (AV → List Blk → Prop) → Prop
  | [.agg [.int .i64 a, .int .i64 b, .int .i64 c], .ptr p 0 0], η, K => ∃ (d e f : Int) (ty : Nat), η[p]? = some ⟨0, ty, 3, [.int .i64 d, .int .i64 e, .int .i64 f]⟩ ∧ K (.bool (contB (a, b, c) (d, e, f))) η
  | _, _, _ => False
theorem sameI3 (x : Id3) (a b c : Int) : sameInts [(IntKind.i64, a), (.i64, b), (.i64, c)] [(.i64, x.1), (.i64, x.2.1), (.i64, x.2.2)] = decide (x = (a, b, c)) := by
  obtain ⟨d, e, f⟩ := x
  by_cases h : (d, e, f) = (a, b, c)
  · rw [decide_eq_true h]
    simp only [Prod.mk.injEq] at h
    obtain ⟨rfl, rfl, rfl⟩ := h
    simp [sameInts]
  · rw [decide_eq_false h]
    simp only [Prod.mk.injEq] at h
    simp [sameInts]
    omega
theorem sameI3' (x : Id3) (a b c : Int) : sameInts [(IntKind.i64, x.1), (.i64, x.2.1), (.i64, x.2.2)] [(.i64, a), (.i64, b), (.i64, c)] = decide (x = (a, b, c)) := by
  obtain ⟨d, e, f⟩ := x
  by_cases h : (d, e, f) = (a, b, c)
  · rw [decide_eq_true h]
    simp only [Prod.mk.injEq] at h
    obtain ⟨rfl, rfl, rfl⟩ := h
    simp [sameInts]
  · rw [decide_eq_false h]
    simp only [Prod.mk.injEq] at h
    simp [sameInts]
    omega

def invIx (η : List Blk) (a b c : Int) (l : List Id3) (v : AV) (st : St) : Prop := ∃ i : Nat, (i ≤ l.length) ∧ ((l.take i).all (fun x => !decide (x = (a, b, c))) = true) ∧ st.n = 19 ∧ st.τ 0 = v ∧ st.τ 3 = .loc 3 1 0 ∧ st.τ 7 = .int .i64 l.length ∧ st.τ 8 = .int .i64 i ∧ st.lam 3 = ⟨1, [.int .i64 a, .int .i64 b, .int .i64 c]⟩ ∧ st.η = η

/- slices.Index[[]impl.Id,impl.Id] -/
def Dr80 : Draws := fun id => match id with | 4 => ([0, 0, 0, 6, 14, 31], [], [], (.one 0 (.one 1 (.one 2 (.one 3 (.one 4 (.one 5 .nil))))))) | _ => ([], [], [], .nil)
theorem f80_ok {lo : Nat} {args : List AV} {η : List Blk} {K : AV → List Blk → Prop} (h : SIxId args η K) : AF Tryz.prog lo 80 args η K := by
  unfold SIxId at h
  split at h
  · obtain ⟨⟨l, hr, hl⟩, hK⟩ := h
    rename_i a b c
    have d1 := hr.dec3
    simp only [d1] at hK
    obtain ⟨bb, ver, rfl, hb⟩ := hr
    refine AF_run noSp_ok Dr80 [] [.tmp 4] hm Tryz.func80 rfl (by decide) Tryz.ntmps80 rfl (by kernel_rfl) (Nat.le_of_ble_eq_true rfl) ?_; intro hlo
    repeat' (first | with_reducible refine iteI (fun _ => ?_) (fun _ => ?_) | ((first | unfold AOpsC | unfold AOpsD | skip); simp (maxSteps := 1000000) (disch := (first | omega | assumption | (simp only [List.length_append, List.length_cons, List.length_nil, List.length_set]; omega))) only [go_sem, Dr80, hb]))
    refine ⟨invIx η a b c l (.sl bb ver 0 l.length), fun st => ctr l.length st 8, .inl ⟨0, Nat.zero_le _, rfl, rfl, (by first | (simp [upd]; done) | (simp [upd, *]; done) | rfl), (by first | (simp [upd]; done) | (simp [upd, *]; done) | rfl), (by first | (simp [upd]; done) | (simp [upd, *]; done) | rfl), (by first | (simp [upd]; done) | (simp [upd, *]; done) | rfl), (by first | (simp [upd]; done) | (simp [upd, *]; done) | rfl), rfl⟩, ?_⟩
    rintro ⟨n, τ, lam, η'⟩ ⟨i, g0, g1, hn, t0, t3, t7, t8, l3, hη⟩; simp only at hn t0 t3 t7 t8 l3 hη; subst hn hη
    by_cases hlt : i < l.length
    · have hs := sameI3 (l.getD i (0, 0, 0)) a b c
      cases hfx : decide (l.getD i (0, 0, 0) = (a, b, c))
      · have hnx := allR (p := fun x => !decide (x = (a, b, c))) hlt g1 (by simp only [hfx]; rfl)
        rw [hfx] at hs
        repeat' (first | with_reducible refine iteI (fun _ => ?_) (fun _ => ?_) | ((first | unfold AOpsC | unfold AOpsD | skip); simp (maxSteps := 1000000) (disch := (first | omega | assumption | (simp only [List.length_append, List.length_cons, List.length_nil, List.length_set]; omega))) only [go_sem, Dr80, hb, t0, t3, t7, t8, l3, intsOf, hs]))
        refine ⟨⟨i + 1, hlt, hnx, rfl, (by simp [upd, t0, t3, t7, t8]), (by simp [upd, t0, t3, t7, t8]), (by simp [upd, t0, t3, t7, t8]), (by simp [upd, t0, t3, t7, t8]), (by simp [upd, l3]), rfl⟩, (by simp [ctr, upd, t0, t3, t7, t8]; omega)⟩
      · rw [idxR_here (f := fun x => decide (x = (a, b, c))) hlt g1 hfx] at hK
        rw [hfx] at hs
        repeat' (first | with_reducible refine iteI (fun _ => ?_) (fun _ => ?_) | ((first | unfold AOpsC | unfold AOpsD | skip); simp (maxSteps := 1000000) (disch := (first | omega | assumption | (simp only [List.length_append, List.length_cons, List.length_nil, List.length_set]; omega))) only [go_sem, Dr80, hb, t0, t3, t7, t8, l3, intsOf, hs]))
        exact hK
    · obtain rfl : i = l.length := by omega
      rw [List.take_length] at g1
      rw [idxR_none g1] at hK
      repeat' (first | with_reducible refine iteI (fun _ => ?_) (fun _ => ?_) | ((first | unfold AOpsC | unfold AOpsD | skip); simp (maxSteps := 1000000) (disch := (first | omega | assumption | (simp only [List.length_append, List.length_cons, List.length_nil, List.length_set]; omega))) only [go_sem, Dr80, hb, t0, t3, t7, t8, l3]))
      exact hK
  · exact h.elim

/- impl.LeafOf -/
def Sp44 (lo : Nat) : Spec := fun g args η K => match g with | 80 => SIxId args η K | _ => False
theorem Sp44_ok {lo : Nat} : Sound Tryz.prog lo (Sp44 lo) := by
  intro g args η K h
  unfold Sp44 at h
  split at h
  · exact .inl (f80_ok h)
  · exact h.elim
theorem f44_ok {lo : Nat} {args : List AV} {η : List Blk} {K : AV → List Blk → Prop} (h : SLeafOf args η K) : AF Tryz.prog lo 44 args η K := by
  unfold SLeafOf at h
  split at h
  · obtain ⟨⟨l, hr, hl⟩, hK⟩ := h
    rename_i r _ a b c
    have d1 := hr.dec3
    have o1 : ok3 69 _ _ := ⟨l, hr, hl⟩
    simp only [d1] at hK
    obtain ⟨bb, ver, rfl, hb⟩ := hr
    refine AF_run Sp44_ok D0 [] [.tmp 4] hm Tryz.func44 rfl (by decide) Tryz.ntmps44 rfl (by kernel_rfl) (Nat.le_of_ble_eq_true rfl) ?_; intro hlo
    repeat' (first | with_reducible refine iteI (fun _ => ?_) (fun _ => ?_) | ((first | unfold AOpsC | unfold AOpsD | skip); simp (maxSteps := 1000000) (disch := (first | omega | assumption | (simp only [List.length_append, List.length_cons, List.length_nil, List.length_set]; omega))) only [go_sem, Sp44, SIxId, hb, d1, o1]))
    exact hK
  · exact h.elim

/- impl.RemapState$1 -/
def Sp43 (lo : Nat) : Spec := fun g args η K => match g with | 44 => SLeafOf args η K | _ => False
theorem Sp43_ok {lo : Nat} : Sound Tryz.prog lo (Sp43 lo) := by
  intro g args η K h
  unfold Sp43 at h
  split at h
  · exact .inl (f44_ok h)
  · exact h.elim
theorem f43_ok {lo : Nat} {args : List AV} {η : List Blk} {K : AV → List Blk → Prop} (h : SRs1 args η K) : AF Tryz.prog lo 43 args η K := by
  unfold SRs1 at h
  split at h
  · obtain ⟨r, v, ty, m, hp, hs, hmn, hK⟩ := h
    rename_i a b c p
    have d1 := hs.dec3
    have o1 : ok3 69 _ _ := ⟨m, hs, hmn⟩
    obtain ⟨b2, ver2, rfl, hb2⟩ := hs
    have hx : (idxR m fun y => decide (y = (a, b, c))) = ixL m (a, b, c) := rfl
    refine AF_run Sp43_ok D0 [] [.tmp 3] hm Tryz.func43 rfl (by decide) Tryz.ntmps43 rfl (by kernel_rfl) (Nat.le_of_ble_eq_true rfl) ?_; intro hlo
    repeat' (first | with_reducible refine iteI (fun _ => ?_) (fun _ => ?_) | ((first | unfold AOpsC | unfold AOpsD | skip); simp (maxSteps := 1000000) (disch := (first | omega | assumption | (simp only [List.length_append, List.length_cons, List.length_nil, List.length_set]; omega))) only [go_sem, Sp43, SLeafOf, hp, hb2, d1, o1, hx]))
    exact hK
  · exact h.elim

/- (*impl.State).remap$1 -/
def Sp81 (lo : Nat) : Spec := fun g args η K => match g with | 82 => SContB args η K | _ => False
theorem Sp81_ok {lo : Nat} : Sound Tryz.prog lo (Sp81 lo) := by
  intro g args η K h
  unfold Sp81 at h
  split at h
  · exact .inl (f82_ok h)
  · exact h.elim
theorem f81_ok {lo : Nat} {args : List AV} {η : List Blk} {K : AV → List Blk → Prop} (h : SRm1 args η K) : AF Tryz.prog lo 81 args η K := by
  unfold SRm1 at h
  split at h
  · obtain ⟨d, e, f, ty, hp, hK⟩ := h
    refine AF_run Sp81_ok D0 [] [.tmp 3] hm Tryz.func81 rfl (by decide) Tryz.ntmps81 rfl (by kernel_rfl) (Nat.le_of_ble_eq_true rfl) ?_; intro hlo
    repeat' (first | with_reducible refine iteI (fun _ => ?_) (fun _ => ?_) | ((first | unfold AOpsC | unfold AOpsD | skip); simp (maxSteps := 1000000) (disch := (first | omega | assumption | (simp only [List.length_append, List.length_cons, List.length_nil, List.length_set]; omega))) only [go_sem, Sp81, SContB, hp]))
    exact hK
  · exact h.elim

def invSt (η : List Blk) (r q : Int) (v u : AV) (l m : List Id3) (st : St) : Prop := ∃ i : Nat, (i ≤ l.length) ∧ ((l.take i).all (fun x => !decide (ixL m x < 0)) = true) ∧ st.n = 22 ∧ st.τ 2 = .loc 2 1 0 ∧ st.τ 3 = .loc 3 1 0 ∧ st.τ 5 = .int .i64 i ∧ st.lam 2 = ⟨1, [.int .i64 r, v]⟩ ∧ st.lam 3 = ⟨1, [.int .i64 q, u]⟩ ∧ st.η = η

/- spec.l17Strange -/
def Sp31 (lo : Nat) : Spec := fun g args η K => match g with | 68 => SLeafOf args η K | _ => False
theorem Sp31_ok {lo : Nat} : Sound Tryz.prog lo (Sp31 lo) := by
  intro g args η K h
  unfold Sp31 at h
  split at h
  · exact .inl (f68_ok h)
  · exact h.elim
def Dr31 : Draws := fun id => match id with | 4 => ([0, 0, 2, 0, 14, 30, 63, 127], [], [], (.one 0 (.one 1 (.one 2 (.one 3 (.one 4 (.one 5 (.one 6 (.one 7 .nil))))))))) | _ => ([], [], [], .nil)
theorem f31_ok {lo : Nat} {args : List AV} {η : List Blk} {K : AV → List Blk → Prop} (h : SStn args η K) : AF Tryz.prog lo 31 args η K := by
  unfold SStn at h
  split at h
  · obtain ⟨⟨⟨l, hr, hl⟩, ⟨m, hs, hmn⟩⟩, hK⟩ := h
    rename_i r _ q _
    have d1 := hr.dec3
    have d2 := hs.dec3
    have o1 : ok3 69 _ _ := ⟨l, hr, hl⟩
    have o2 : ok3 69 _ _ := ⟨m, hs, hmn⟩
    simp only [d1, d2] at hK
    obtain ⟨b, ver, rfl, hb⟩ := hr
    obtain ⟨b2, ver2, rfl, hb2⟩ := hs
    refine AF_run Sp31_ok Dr31 [] [.tmp 4] hm Tryz.func31 rfl (by decide) Tryz.ntmps31 rfl (by kernel_rfl) (Nat.le_of_ble_eq_true rfl) ?_; intro hlo
    repeat' (first | with_reducible refine iteI (fun _ => ?_) (fun _ => ?_) | ((first | unfold AOpsC | unfold AOpsD | skip); simp (maxSteps := 1000000) (disch := (first | omega | assumption | (simp only [List.length_append, List.length_cons, List.length_nil, List.length_set]; omega))) only [go_sem, Sp31, SLeafOf, Dr31, hb, hb2]))
    refine ⟨invSt η r q (.sl b ver 0 l.length) (.sl b2 ver2 0 m.length) l m, fun st => ctr l.length st 5, .inl ⟨0, Nat.zero_le _, rfl, rfl, (by first | (simp [upd]; done) | (simp [upd, *]; done) | rfl), (by first | (simp [upd]; done) | (simp [upd, *]; done) | rfl), (by first | (simp [upd]; done) | (simp [upd, *]; done) | rfl), (by first | (simp [upd]; done) | (simp [upd, *]; done) | rfl), (by first | (simp [upd]; done) | (simp [upd, *]; done) | rfl), rfl⟩, ?_⟩
    rintro ⟨n, τ, lam, η'⟩ ⟨i, g0, g1, hn, t2, t3, t5, l2, l3, hη⟩; simp only at hn t2 t3 t5 l2 l3 hη; subst hn hη
    by_cases hlt : i < l.length
    · have hX1 : idxR m (fun x => decide (x = l.getD i (0, 0, 0))) = ixL m (l.getD i z3) := rfl
      have hX2 : idxR m (fun x => decide (x = ((l.getD i (0, 0, 0)).1, (l.getD i (0, 0, 0)).2.1, (l.getD i (0, 0, 0)).2.2))) = ixL m (l.getD i z3) := rfl
      by_cases hfx : ixL m (l.getD i z3) < 0
      · have hh : stnI l m = i := idxR_here (f := fun x => decide (ixL m x < 0)) hlt g1 (decide_eq_true hfx)
        rw [hh] at hK
        repeat' (first | with_reducible refine iteI (fun _ => ?_) (fun _ => ?_) | ((first | unfold AOpsC | unfold AOpsD | skip); simp (maxSteps := 1000000) (disch := (first | omega | assumption | (simp only [List.length_append, List.length_cons, List.length_nil, List.length_set]; omega))) only [go_sem, Sp31, SLeafOf, Dr31, hb, hb2, d1, o1, d2, o2, hX1, hX2, t2, t3, t5, l2, l3, hfx]))
        exact hK
      · have hnx := allR (p := fun x => !decide (ixL m x < 0)) hlt g1 (by rw [show l.getD i (0, 0, 0) = l.getD i z3 from rfl, decide_eq_false hfx]; rfl)
        repeat' (first | with_reducible refine iteI (fun _ => ?_) (fun _ => ?_) | ((first | unfold AOpsC | unfold AOpsD | skip); simp (maxSteps := 1000000) (disch := (first | omega | assumption | (simp only [List.length_append, List.length_cons, List.length_nil, List.length_set]; omega))) only [go_sem, Sp31, SLeafOf, Dr31, hb, hb2, d1, o1, d2, o2, hX1, hX2, t2, t3, t5, l2, l3, hfx]))
        refine ⟨⟨i + 1, hlt, hnx, rfl, (by simp [upd, t2, t3, t5]), (by simp [upd, t2, t3, t5]), (by simp [upd, t2, t3, t5]), (by simp [upd, l2, l3]), (by simp [upd, l2, l3]), rfl⟩, (by simp [ctr, upd, t2, t3, t5]; omega)⟩
    · obtain rfl : i = l.length := by omega
      rw [List.take_length] at g1
      have hh : stnI l m = -1 := idxR_none g1
      rw [hh] at hK
      repeat' (first | with_reducible refine iteI (fun _ => ?_) (fun _ => ?_) | ((first | unfold AOpsC | unfold AOpsD | skip); simp (maxSteps := 1000000) (disch := (first | omega | assumption | (simp only [List.length_append, List.length_cons, List.length_nil, List.length_set]; omega))) only [go_sem, Sp31, SLeafOf, Dr31, hb, hb2, t2, t3, t5, l2, l3]))
      exact hK
  · exact h.elim

theorem wth_here {m : List Id3} {x : Id3} {i : Nat} (hi : i < m.length) (h1 : m.getD i z3 ≠ x) (h2 : contB x (m.getD i z3) = true) : wthB m x = true := by
  unfold wthB
  rw [List.any_eq_true]
  exact ⟨_, getD_mem hi, by rw [Bool.and_eq_true, decide_eq_true_eq]; exact ⟨h1, h2⟩⟩
theorem wth_none {m : List Id3} {x : Id3} (h : m.all (fun y => !(decide (y ≠ x) && contB x y)) = true) : wthB m x = false := by
  unfold wthB
  rw [List.any_eq_false]
  intro y hy hf
  have := List.all_eq_true.1 h y hy
  rw [hf] at this
  cases this

def invWt (η : List Blk) (r a b c : Int) (v : AV) (l : List Id3) (st : St) : Prop := ∃ i : Nat, (i ≤ l.length) ∧ ((l.take i).all (fun y => !(decide (y ≠ (a, b, c)) && contB (a, b, c) y)) = true) ∧ st.n = 29 ∧ st.τ 2 = .loc 2 1 0 ∧ st.τ 3 = .loc 3 1 0 ∧ st.τ 5 = .int .i64 i ∧ st.lam 2 = ⟨1, [.int .i64 r, v]⟩ ∧ st.lam 3 = ⟨1, [.int .i64 a, .int .i64 b, .int .i64 c]⟩ ∧ st.η = η

/- spec.l17Within -/
def Sp32 (lo : Nat) : Spec := fun g args η K => match g with | 69 => SContB args η K | _ => False
theorem Sp32_ok {lo : Nat} : Sound Tryz.prog lo (Sp32 lo) := by
  intro g args η K h
  unfold Sp32 at h
  split at h
  · exact .inl (f69_ok h)
  · exact h.elim
def Dr32 : Draws := fun id => match id with | 4 => ([0, 1, 0, 7, 15, 0, 63, 127, 255, 255, 767, 255, 3839, 7935, 16383, 32767], [], [], (.one 0 (.one 1 (.one 2 (.one 3 (.one 4 (.one 5 (.one 6 (.one 7 (.one 8 (.one 9 (.one 10 (.one 11 (.one 12 (.one 13 (.one 14 (.one 15 .nil))))))))))))))))) | _ => ([], [], [], .nil)
theorem f32_ok {lo : Nat} {args : List AV} {η : List Blk} {K : AV → List Blk → Prop} (h : SWth args η K) : AF Tryz.prog lo 32 args η K := by
  unfold SWth at h
  split at h
  · obtain ⟨⟨l, hr, hl⟩, hK⟩ := h
    rename_i r _ a b c
    have d1 := hr.dec3
    simp only [d1] at hK
    obtain ⟨bb, ver, rfl, hb⟩ := hr
    refine AF_run Sp32_ok Dr32 [] [.tmp 4] hm Tryz.func32 rfl (by decide) Tryz.ntmps32 rfl (by kernel_rfl) (Nat.le_of_ble_eq_true rfl) ?_; intro hlo
    repeat' (first | with_reducible refine iteI (fun _ => ?_) (fun _ => ?_) | ((first | unfold AOpsC | unfold AOpsD | skip); simp (maxSteps := 1000000) (disch := (first | omega | assumption | (simp only [List.length_append, List.length_cons, List.length_nil, List.length_set]; omega))) only [go_sem, Sp32, SContB, Dr32, hb]))
    refine ⟨invWt η r a b c (.sl bb ver 0 l.length) l, fun st => ctr l.length st 5, .inl ⟨0, Nat.zero_le _, rfl, rfl, (by first | (simp [upd]; done) | (simp [upd, *]; done) | rfl), (by first | (simp [upd]; done) | (simp [upd, *]; done) | rfl), (by first | (simp [upd]; done) | (simp [upd, *]; done) | rfl), (by first | (simp [upd]; done) | (simp [upd, *]; done) | rfl), (by first | (simp [upd]; done) | (simp [upd, *]; done) | rfl), rfl⟩, ?_⟩
    rintro ⟨n, τ, lam, η'⟩ ⟨i, g0, g1, hn, t2, t3, t5, l2, l3, hη⟩; simp only at hn t2 t3 t5 l2 l3 hη; subst hn hη
    by_cases hlt : i < l.length
    · have hs := sameI3' (l.getD i (0, 0, 0)) a b c
      have hcc : contB (a, b, c) ((l.getD i (0, 0, 0)).1, (l.getD i (0, 0, 0)).2.1, (l.getD i (0, 0, 0)).2.2) = contB (a, b, c) (l.getD i z3) := rfl
      by_cases q1 : l.getD i (0, 0, 0) = (a, b, c)
      · rw [decide_eq_true q1] at hs
        have hnx := allR (p := fun y => !(decide (y ≠ (a, b, c)) && contB (a, b, c) y)) hlt g1 (by rw [decide_eq_false (fun e => e q1)]; rfl)
        repeat' (first | with_reducible refine iteI (fun _ => ?_) (fun _ => ?_) | ((first | unfold AOpsC | unfold AOpsD | skip); simp (maxSteps := 1000000) (disch := (first | omega | assumption | (simp only [List.length_append, List.length_cons, List.length_nil, List.length_set]; omega))) only [go_sem, Sp32, SContB, Dr32, hb, t2, t3, t5, l2, l3, intsOf, hs]))
        refine ⟨⟨i + 1, hlt, hnx, rfl, (by simp [upd, t2, t3, t5]), (by simp [upd, t2, t3, t5]), (by simp [upd, t2, t3, t5]), (by simp [upd, l2, l3]), (by simp [upd, l2, l3]), rfl⟩, (by simp [ctr, upd, t2, t3, t5]; omega)⟩
      · rw [decide_eq_false q1] at hs
        cases q2 : contB (a, b, c) (l.getD i z3)
        · rw [q2] at hcc
          have hnx := allR (p := fun y => !(decide (y ≠ (a, b, c)) && contB (a, b, c) y)) hlt g1 (by rw [show contB (a, b, c) (l.getD i (0, 0, 0)) = false from q2, Bool.and_false]; rfl)
          repeat' (first | with_reducible refine iteI (fun _ => ?_) (fun _ => ?_) | ((first | unfold AOpsC | unfold AOpsD | skip); simp (maxSteps := 1000000) (disch := (first | omega | assumption | (simp only [List.length_append, List.length_cons, List.length_nil, List.length_set]; omega))) only [go_sem, Sp32, SContB, Dr32, hb, t2, t3, t5, l2, l3, intsOf, hs, hcc]))
          refine ⟨⟨i + 1, hlt, hnx, rfl, (by simp [upd, t2, t3, t5]), (by simp [upd, t2, t3, t5]), (by simp [upd, t2, t3, t5]), (by simp [upd, l2, l3]), (by simp [upd, l2, l3]), rfl⟩, (by simp [ctr, upd, t2, t3, t5]; omega)⟩
        · rw [q2] at hcc
          rw [wth_here hlt q1 q2] at hK
          repeat' (first | with_reducible refine iteI (fun _ => ?_) (fun _ => ?_) | ((first | unfold AOpsC | unfold AOpsD | skip); simp (maxSteps := 1000000) (disch := (first | omega | assumption | (simp only [List.length_append, List.length_cons, List.length_nil, List.length_set]; omega))) only [go_sem, Sp32, SContB, Dr32, hb, t2, t3, t5, l2, l3, intsOf, hs, hcc]))
          exact hK
    · obtain rfl : i = l.length := by omega
      rw [List.take_length] at g1
      rw [wth_none g1] at hK
      repeat' (first | with_reducible refine iteI (fun _ => ?_) (fun _ => ?_) | ((first | unfold AOpsC | unfold AOpsD | skip); simp (maxSteps := 1000000) (disch := (first | omega | assumption | (simp only [List.length_append, List.length_cons, List.length_nil, List.length_set]; omega))) only [go_sem, Sp32, SContB, Dr32, hb, t2, t3, t5, l2, l3]))
      exact hK
  · exact h.elim

theorem dpN_0 (l : List Id3) (y : Id3) : dpN l y 0 = -1 := rfl
theorem dpN_yes {l : List Id3} {y : Id3} {n : Nat} (h1 : contB y (l.getD n z3) = true) (h2 : dpN l y n < 0 ∨ (l.getD (dpN l y n).toNat z3).2.1 < (l.getD n z3).2.1) : dpN l y (n + 1) = n := by rw [dpN, if_pos ⟨h1, h2⟩]
theorem dpN_no1 {l : List Id3} {y : Id3} {n : Nat} (h1 : contB y (l.getD n z3) = false) : dpN l y (n + 1) = dpN l y n := by rw [dpN, if_neg (by rw [h1]; simp)]
theorem dpN_no2 {l : List Id3} {y : Id3} {n d : Nat} (h1 : dpN l y n = d) (h2 : ¬ (l.getD d z3).2.1 < (l.getD n z3).2.1) : dpN l y (n + 1) = d := by
  rw [dpN, h1, if_neg]
  rintro ⟨_, a⟩
  rw [Int.toNat_natCast] at a
  rcases a with a | a
  · omega
  · exact h2 a
theorem dpN_two (l : List Id3) (y : Id3) (n : Nat) : dpN l y n = -1 ∨ ∃ d : Nat, dpN l y n = d ∧ d < n := by
  rcases dpN_spec l y n with ⟨h, _⟩ | ⟨d, h1, h2, _⟩
  · exact .inl h
  · exact .inr ⟨d, h1, h2⟩

def invDp (η : List Blk) (r a b c : Int) (v : AV) (l : List Id3) (st : St) : Prop := ∃ i : Nat, (i ≤ l.length) ∧ st.n = 42 ∧ st.τ 2 = .loc 2 1 0 ∧ st.τ 3 = .loc 3 1 0 ∧ st.τ 5 = .int .i64 (dpN l (a, b, c) i) ∧ st.τ 6 = .int .i64 i ∧ st.lam 2 = ⟨1, [.int .i64 r, v]⟩ ∧ st.lam 3 = ⟨1, [.int .i64 a, .int .i64 b, .int .i64 c]⟩ ∧ st.η = η

/- spec.l17Deepest -/
def Sp35 (lo : Nat) : Spec := fun g args η K => match g with | 69 => SContB args η K | _ => False
theorem Sp35_ok {lo : Nat} : Sound Tryz.prog lo (Sp35 lo) := by
  intro g args η K h
  unfold Sp35 at h
  split at h
  · exact .inl (f69_ok h)
  · exact h.elim
def Dr35 : Draws := fun id => match id with | 5 => ([0, 0, 2, 0, 14, 30, 63, 127, 255, 511, 1023, 2047, 4095, 2047, 16383, 32767, 65535, 2047, 133119, 2047, 919551, 1968127, 4065279, 8388607, 16777215, 33554431], [], [], (.one 0 (.one 1 (.one 2 (.one 3 (.one 4 (.one 5 (.one 6 (.one 7 (.one 8 (.one 9 (.one 10 (.one 11 (.one 12 (.one 13 (.one 14 (.one 15 (.one 16 (.one 17 (.one 18 (.one 19 (.one 20 (.one 21 (.one 22 (.one 23 (.one 24 (.one 25 .nil))))))))))))))))))))))))))) | _ => ([], [], [], .nil)
theorem f35_ok {lo : Nat} {args : List AV} {η : List Blk} {K : AV → List Blk → Prop} (h : SDp args η K) : AF Tryz.prog lo 35 args η K := by
  unfold SDp at h
  split at h
  · obtain ⟨⟨l, hr, hl⟩, hK⟩ := h
    rename_i r _ a b c
    have d1 := hr.dec3
    simp only [d1] at hK
    obtain ⟨bb, ver, rfl, hb⟩ := hr
    refine AF_run Sp35_ok Dr35 [] [.tmp 4] hm Tryz.func35 rfl (by decide) Tryz.ntmps35 rfl (by kernel_rfl) (Nat.le_of_ble_eq_true rfl) ?_; intro hlo
    repeat' (first | with_reducible refine iteI (fun _ => ?_) (fun _ => ?_) | ((first | unfold AOpsC | unfold AOpsD | skip); simp (maxSteps := 1000000) (disch := (first | omega | assumption | (simp only [List.length_append, List.length_cons, List.length_nil, List.length_set]; omega))) only [go_sem, Sp35, SContB, Dr35, hb]))
    refine ⟨invDp η r a b c (.sl bb ver 0 l.length) l, fun st => ctr l.length st 6, .inl ⟨0, Nat.zero_le _, rfl, by simp [upd], by simp [upd], by simp [upd, dpN_0], by simp [upd], by simp [upd], by simp [upd], rfl⟩, ?_⟩
    rintro ⟨n, τ, lam, η'⟩ ⟨i, g0, hn, t2, t3, t5, t6, l2, l3, hη⟩; simp only at hn t2 t3 t5 t6 l2 l3 hη; subst hn hη
    by_cases hlt : i < l.length
    · have hcc : contB (a, b, c) ((l.getD i (0, 0, 0)).1, (l.getD i (0, 0, 0)).2.1, (l.getD i (0, 0, 0)).2.2) = contB (a, b, c) (l.getD i z3) := rfl
      cases q1 : contB (a, b, c) (l.getD i z3)
      · rw [q1] at hcc
        have hn := dpN_no1 q1
        repeat' (first | with_reducible refine iteI (fun _ => ?_) (fun _ => ?_) | ((first | unfold AOpsC | unfold AOpsD | skip); simp (maxSteps := 1000000) (disch := (first | omega | assumption | (simp only [List.length_append, List.length_cons, List.length_nil, List.length_set]; omega))) only [go_sem, Sp35, SContB, Dr35, hb, t2, t3, t5, t6, l2, l3, hcc]))
        refine ⟨⟨i + 1, hlt, rfl, by simp [upd, t2], by simp [upd, t3], by rw [hn]; simp [upd, t5], by simp [upd], by simp [upd, l2], by simp [upd, l3], rfl⟩, by simp [ctr, upd, t6]; omega⟩
      · rw [q1] at hcc
        rcases dpN_two l (a, b, c) i with hd | ⟨d, hd, hdi⟩
        · have hn := dpN_yes q1 (.inl (by omega))
          rw [hd] at t5
          repeat' (first | with_reducible refine iteI (fun _ => ?_) (fun _ => ?_) | ((first | unfold AOpsC | unfold AOpsD | skip); simp (maxSteps := 1000000) (disch := (first | omega | assumption | (simp only [List.length_append, List.length_cons, List.length_nil, List.length_set]; omega))) only [go_sem, Sp35, SContB, Dr35, hb, t2, t3, t5, t6, l2, l3, hcc]))
          refine ⟨⟨i + 1, hlt, rfl, by simp [upd, t2], by simp [upd, t3], by rw [hn]; simp [upd], by simp [upd], by simp [upd, l2], by simp [upd, l3], rfl⟩, by simp [ctr, upd, t6]; omega⟩
        · rw [hd] at t5
          by_cases q2 : (l.getD d (0, 0, 0)).2.1 < (l.getD i (0, 0, 0)).2.1
          · have hn := dpN_yes q1 (.inr (by rw [hd, Int.toNat_natCast]; exact q2))
            repeat' (first | with_reducible refine iteI (fun _ => ?_) (fun _ => ?_) | ((first | unfold AOpsC | unfold AOpsD | skip); simp (maxSteps := 1000000) (disch := (first | omega | assumption | (simp only [List.length_append, List.length_cons, List.length_nil, List.length_set]; omega))) only [go_sem, Sp35, SContB, Dr35, hb, t2, t3, t5, t6, l2, l3, hcc, q2]))
            refine ⟨⟨i + 1, hlt, rfl, by simp [upd, t2], by simp [upd, t3], by rw [hn]; simp [upd], by simp [upd], by simp [upd, l2], by simp [upd, l3], rfl⟩, by simp [ctr, upd, t6]; omega⟩
          · have hn := dpN_no2 hd q2
            repeat' (first | with_reducible refine iteI (fun _ => ?_) (fun _ => ?_) | ((first | unfold AOpsC | unfold AOpsD | skip); simp (maxSteps := 1000000) (disch := (first | omega | assumption | (simp only [List.length_append, List.length_cons, List.length_nil, List.length_set]; omega))) only [go_sem, Sp35, SContB, Dr35, hb, t2, t3, t5, t6, l2, l3, hcc, q2]))
            refine ⟨⟨i + 1, hlt, rfl, by simp [upd, t2], by simp [upd, t3], by rw [hn]; simp [upd, t5], by simp [upd], by simp [upd, l2], by simp [upd, l3], rfl⟩, by simp [ctr, upd, t6]; omega⟩
    · obtain rfl : i = l.length := by omega
      repeat' (first | with_reducible refine iteI (fun _ => ?_) (fun _ => ?_) | ((first | unfold AOpsC | unfold AOpsD | skip); simp (maxSteps := 1000000) (disch := (first | omega | assumption | (simp only [List.length_append, List.length_cons, List.length_nil, List.length_set]; omega))) only [go_sem, Sp35, SContB, Dr35, hb, t2, t3, t5, t6, l2, l3]))
      exact hK
  · exact h.elim

def SRmp (lo : Nat) : List AV → List Blk → (AV → List Blk → Prop) → Prop
  | [.ptr p 0 0, .agg [.int .i64 _, u], .int .i64 i], η, K => ∃ (n : Nat) (r : Int) (b0 b1 b2 b3 v0 v1 v2 v3 : Nat) (l : List Id3) (ms ts bs : List Int) (m : List Id3) (j : Nat), (lo ≤ n ∧ i = j) ∧ PtrS n p η r b0 b1 b2 b3 v0 v1 v2 v3 l ms ts bs ∧ (IsR 69 3 enc3 η u m ∧ meshB r m = true ∧ meshB r l = true ∧ celB r l ms ts bs = true ∧ stnI l m = j) ∧
      ∀ H c0 c1 c2 u0 u1 u2 l' ms' ts', PtrS n p H r c0 c1 c2 b3 u0 u1 u2 v3 l' ms' ts' bs → Keep n η H → (muR r m l' < muR r m l ∧ meshB r l' = true ∧ celB r l' ms' ts' bs = true ∧ rmR r m l ms ts = rmR r m l' ms' ts') → K (.tup []) H
  | _, _, _ => False

def invRm (η : List Blk) (p : Nat) (q : Int) (u : AV) (l : List Id3) (y : Id3) (k b0 v0 : Nat) (st : St) : Prop := ∃ i : Nat, (i ≤ l.length) ∧ st.n = 69 ∧ st.τ 0 = .ptr p 0 0 ∧ st.τ 4 = .loc 4 1 0 ∧ st.τ 7 = .int .i64 k ∧ st.τ 8 = .int .i64 (dpN l y i) ∧ st.τ 32 = .sl b0 v0 0 l.length ∧ st.τ 33 = .int .i64 l.length ∧ st.τ 34 = .int .i64 i ∧ st.lam 4 = ⟨1, [.int .i64 q, u]⟩ ∧ st.η = η

/- (*impl.State).remap -/
def Sp45 (lo : Nat) : Spec := fun g args η K => match g with | 42 => SIdxR lo args η K | 82 => SContB args η K | 83 => SSrf lo args η K | 84 => SSco lo args η K | _ => False
theorem Sp45_ok {lo : Nat} : Sound Tryz.prog lo (Sp45 lo) := by
  intro g args η K h
  unfold Sp45 at h
  split at h
  · exact .inl (f42_ok h)
  · exact .inl (f82_ok h)
  · exact .inl (f83_ok h)
  · exact .inl (f84_ok h)
  · exact h.elim
def Dr45 : Draws := fun id => match id with | 9 => ([0, 1, 0, 7, 15, 0, 63, 127, 255, 511, 1023, 2047, 4095, 2047, 10239, 26623, 59391, 124927, 2047, 518143, 1042431, 2091007, 4194303, 8388607, 16777215], [], [], (.one 0 (.one 1 (.one 2 (.one 3 (.one 4 (.one 5 (.one 6 (.one 7 (.one 8 (.one 9 (.one 10 (.one 11 (.one 12 (.one 13 (.one 14 (.one 15 (.one 16 (.one 17 (.one 18 (.one 19 (.one 20 (.one 21 (.one 22 (.one 23 (.one 24 .nil)))))))))))))))))))))))))) | _ => ([], [], [], .nil)
theorem f45_ok {lo : Nat} {args : List AV} {η : List Blk} {K : AV → List Blk → Prop} (h : SRmp lo args η K) : AF Tryz.prog lo 45 args η K := by
  unfold SRmp at h
  split at h
  · obtain ⟨n, r, b0, b1, b2, b3, v0, v1, v2, v3, l, ms, ts, bs, m, j, ⟨hn0, rfl⟩, hP, ⟨hu, hMm, hL, hC, hj⟩, hK⟩ := h
    rename_i p q u
    obtain ⟨bu, vu, rfl, hbu⟩ := hu
    obtain ⟨j', j1, j2, hcase⟩ := rm_step (ms := ms) (ts := ts) hMm hL hC (by omega)
    obtain rfl : j' = j := by omega
    have hln := mesh_len hL
    have hlm := mesh_len hMm
    have pp := hP.pb
    have w0 := hP.n4.g0
    have lp := blt pp
    have l0 := blt w0
    have lu := blt hbu
    have hnp := hP.np
    refine AF_run Sp45_ok Dr45 [6] [] hm Tryz.func45 rfl (by decide) Tryz.ntmps45 rfl (by kernel_rfl) (Nat.le_of_ble_eq_true rfl) ?_; intro hlo
    repeat' (first | with_reducible refine iteI (fun _ => ?_) (fun _ => ?_) | ((first | unfold AOpsC | unfold AOpsD | skip); simp (maxSteps := 1000000) (disch := (first | omega | assumption | (simp only [List.length_append, List.length_cons, List.length_nil, List.length_set]; omega))) only [go_sem, Sp45, SContB, Dr45, pp, w0, hbu]))
    unfold SIdxR
    refine ⟨m, fun y => contB y (l.getD j' z3), ⟨bu, vu, rfl, by rw [app_get lu]; exact hbu⟩, by omega, ?_, fun H x => ?_⟩
    · intro lo' H' y _ hx _ K' hK'
      obtain ⟨y1, y2, y3⟩ := y
      exact f81_ok (lo := lo') (show SRm1 [.agg [.int .i64 y1, .int .i64 y2, .int .i64 y3], .ptr η.length 0 0] H' K' from ⟨_, _, _, _, hx.blk (app_last _ _), hK' _ (Ext.refl _)⟩)
    rw [show (idxR m fun y => contB y (l.getD j' z3)) = outI m (l.getD j' z3) from rfl]
    have xx := ((Ext.refl η).app _).trans x
    have hP2 : PtrS n p H r b0 b1 b2 b3 v0 v1 v2 v3 l ms ts bs := ⟨xx.blk pp, hP.n4.ext xx, hP.np, hP.p0, hP.p1, hP.p2, hP.p3⟩
    have kH : Keep n η H := ⟨by have := xx.len; omega, fun c hc => xx.get (by omega)⟩
    have pp2 := hP2.pb
    have w02 := hP2.n4.g0
    have hbu2 := xx.blk hbu
    clear x pp w0 hbu
    rcases hcase with ⟨a, bneg, c4, mu, hM', hC', hr⟩ | ⟨a, k, d, k1, k2, d1, d2, d3, mu, hM', hC', hr⟩
    · repeat' (first | with_reducible refine iteI (fun _ => ?_) (fun _ => ?_) | ((first | unfold AOpsC | unfold AOpsD | skip); simp (maxSteps := 1000000) (disch := (first | omega | assumption | (simp only [List.length_append, List.length_cons, List.length_nil, List.length_set]; omega))) only [go_sem, Sp45, SContB, Dr45, bneg]))
      unfold SSrf
      refine ⟨n, r, b0, b1, b2, b3, v0, v1, v2, v3, l, ms, ts, bs, j', False, 0, ⟨hn0, rfl, GQ.no⟩, hP2, ⟨hL, hC, by omega, j2, c4⟩, fun G c0 c1 c2 y0 y1 y2 hG kG _ => ?_⟩
      repeat' (first | with_reducible refine iteI (fun _ => ?_) (fun _ => ?_) | ((first | unfold AOpsC | unfold AOpsD | skip); simp (maxSteps := 1000000) (disch := (first | omega | assumption | (simp only [List.length_append, List.length_cons, List.length_nil, List.length_set]; omega))) only [go_sem, Sp45, SContB, Dr45]))
      exact hK _ _ _ _ _ _ _ _ _ _ hG (kH.trans kG) ⟨mu, hM', hC', hr⟩
    · rw [k1]
      repeat' (first | with_reducible refine iteI (fun _ => ?_) (fun _ => ?_) | ((first | unfold AOpsC | unfold AOpsD | skip); simp (maxSteps := 1000000) (disch := (first | omega | assumption | (simp only [List.length_append, List.length_cons, List.length_nil, List.length_set]; omega))) only [go_sem, Sp45, SContB, Dr45, pp2, w02, hbu2]))
      refine ⟨invRm H p q (.sl bu vu 0 m.length) l (m.getD k z3) k b0 v0, fun st => ctr l.length st 34, .inl ⟨0, Nat.zero_le _, rfl, by simp [upd], by simp [upd], by simp [upd], by simp [upd, dpN_0], by simp [upd], by simp [upd], by simp [upd], by simp [upd], rfl⟩, ?_⟩
      rintro ⟨n, τ, lam, η'⟩ ⟨i, g0, hn, t0, t4, t7, t8, t32, t33, t34, l4, hη⟩; simp only at hn t0 t4 t7 t8 t32 t33 t34 l4 hη; subst hn hη
      by_cases hlt : i < l.length
      · have hcc : contB ((m.getD k (0, 0, 0)).1, (m.getD k (0, 0, 0)).2.1, (m.getD k (0, 0, 0)).2.2) ((l.getD i (0, 0, 0)).1, (l.getD i (0, 0, 0)).2.1, (l.getD i (0, 0, 0)).2.2) = contB (m.getD k z3) (l.getD i z3) := rfl
        cases q1 : contB (m.getD k z3) (l.getD i z3)
        · rw [q1] at hcc
          have hn := dpN_no1 q1
          repeat' (first | with_reducible refine iteI (fun _ => ?_) (fun _ => ?_) | ((first | unfold AOpsC | unfold AOpsD | skip); simp (maxSteps := 1000000) (disch := (first | omega | assumption | (simp only [List.length_append, List.length_cons, List.length_nil, List.length_set]; omega))) only [go_sem, Sp45, SContB, Dr45, pp2, w02, hbu2, t0, t4, t7, t8, t32, t33, t34, l4, hcc]))
          refine ⟨⟨i + 1, hlt, rfl, by simp [upd, t0], by simp [upd, t4], by simp [upd, t7], by rw [hn]; simp [upd, t8], by simp [upd, t32], by simp [upd, t33], by simp [upd], by simp [upd, l4], rfl⟩, by simp [ctr, upd, t34]; omega⟩
        · rw [q1] at hcc
          rcases dpN_two l (m.getD k z3) i with hd | ⟨e, hd, hdi⟩
          · have hn := dpN_yes q1 (.inl (by omega))
            rw [hd] at t8
            repeat' (first | with_reducible refine iteI (fun _ => ?_) (fun _ => ?_) | ((first | unfold AOpsC | unfold AOpsD | skip); simp (maxSteps := 1000000) (disch := (first | omega | assumption | (simp only [List.length_append, List.length_cons, List.length_nil, List.length_set]; omega))) only [go_sem, Sp45, SContB, Dr45, pp2, w02, hbu2, t0, t4, t7, t8, t32, t33, t34, l4, hcc]))
            refine ⟨⟨i + 1, hlt, rfl, by simp [upd, t0], by simp [upd, t4], by simp [upd, t7], by rw [hn]; simp [upd], by simp [upd, t32], by simp [upd, t33], by simp [upd], by simp [upd, l4], rfl⟩, by simp [ctr, upd, t34]; omega⟩
          · rw [hd] at t8
            by_cases q2 : (l.getD e (0, 0, 0)).2.1 < (l.getD i (0, 0, 0)).2.1
            · have hn := dpN_yes q1 (.inr (by rw [hd, Int.toNat_natCast]; exact q2))
              repeat' (first | with_reducible refine iteI (fun _ => ?_) (fun _ => ?_) | ((first | unfold AOpsC | unfold AOpsD | skip); simp (maxSteps := 1000000) (disch := (first | omega | assumption | (simp only [List.length_append, List.length_cons, List.length_nil, List.length_set]; omega))) only [go_sem, Sp45, SContB, Dr45, pp2, w02, hbu2, t0, t4, t7, t8, t32, t33, t34, l4, hcc, q2]))
              refine ⟨⟨i + 1, hlt, rfl, by simp [upd, t0], by simp [upd, t4], by simp [upd, t7], by rw [hn]; simp [upd], by simp [upd, t32], by simp [upd, t33], by simp [upd], by simp [upd, l4], rfl⟩, by simp [ctr, upd, t34]; omega⟩
            · have hn := dpN_no2 hd q2
              repeat' (first | with_reducible refine iteI (fun _ => ?_) (fun _ => ?_) | ((first | unfold AOpsC | unfold AOpsD | skip); simp (maxSteps := 1000000) (disch := (first | omega | assumption | (simp only [List.length_append, List.length_cons, List.length_nil, List.length_set]; omega))) only [go_sem, Sp45, SContB, Dr45, pp2, w02, hbu2, t0, t4, t7, t8, t32, t33, t34, l4, hcc, q2]))
              refine ⟨⟨i + 1, hlt, rfl, by simp [upd, t0], by simp [upd, t4], by simp [upd, t7], by rw [hn]; simp [upd, t8], by simp [upd, t32], by simp [upd, t33], by simp [upd], by simp [upd, l4], rfl⟩, by simp [ctr, upd, t34]; omega⟩
      · obtain rfl : i = l.length := by omega
        rw [show dpN l (m.getD k z3) l.length = d from d1] at t8
        repeat' (first | with_reducible refine iteI (fun _ => ?_) (fun _ => ?_) | ((first | unfold AOpsC | unfold AOpsD | skip); simp (maxSteps := 1000000) (disch := (first | omega | assumption | (simp only [List.length_append, List.length_cons, List.length_nil, List.length_set]; omega))) only [go_sem, Sp45, SContB, Dr45, t0, t4, t7, t8, t32, t33, t34, l4]))
        unfold SSco
        refine ⟨n, r, b0, b1, b2, b3, v0, v1, v2, v3, l, ms, ts, bs, d, False, 0, ⟨hn0, rfl, GQ.no⟩, hP2, ⟨hC, by omega, d2, (sib_par d3).1⟩, fun G c0 c1 c2 y0 y1 y2 hG kG _ => ?_⟩
        repeat' (first | with_reducible refine iteI (fun _ => ?_) (fun _ => ?_) | ((first | unfold AOpsC | unfold AOpsD | skip); simp (maxSteps := 1000000) (disch := (first | omega | assumption | (simp only [List.length_append, List.length_cons, List.length_nil, List.length_set]; omega))) only [go_sem, Sp45, SContB, Dr45]))
        exact hK _ _ _ _ _ _ _ _ _ _ hG (kH.trans kG) ⟨mu, hM', hC', hr⟩
  · exact h.elim

end Go.Proofs.YtaalpmbopkbdiaaGreat
