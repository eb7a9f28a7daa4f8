/- What functions of the program compute, said in the abstract logic; no conditions. -/
import Derived.Test.YtaalpmbopkbdiaaGreatGShare
import Derived.Test.YtaalpmbopkbdiaaGreatGMerge

namespace Go.Proofs.YtaalpmbopkbdiaaGreat
open Go
set_option linter.unusedSimpArgs false
set_option linter.unusedVariables false
set_option maxRecDepth 100000
set_option maxHeartbeats 8000000
attribute [local go_sem] st0 AC thenA andC locLoadB KsSW_same KsSW_grow oldLoadB noBlkB KsSL_same KsOS_same KsOS_grow pv ev put upd dstOk cv cvc binI setB Value.oneCell' EndA resA resA1 List.mapM_cons List.mapM_nil Option.pure_def Option.bind_eq_bind noLocV noLoc1 noLoc noLocs plainV cellsA newVarA putCells condA lam0 inBlockA cur lenA rowA writeA dstA appendC appendZ mapPut mapGet avoidsB avoidB clearB Array.toList_append Op.operands Call.operands newSlot Nat.zero_add Nat.add_zero Nat.succ_ne_self Nat.lt_add_one Nat.zero_lt_succ true_and and_true true_or or_true false_or or_false and_self true_implies forall_const Bool.false_eq_true Bool.true_eq_false false_implies implies_true imp_self ne_eq not_false_eq_true not_true_eq_false false_and and_false List.getElem?_toArray List.getElem?_cons_succ List.getElem?_cons_zero Option.bind_some Option.map_some Bool.not_true Bool.not_false List.getD_cons_zero List.getD_cons_succ Option.some.injEq exists_eq_left' AV.bool.injEq List.map_cons List.map_nil List.all_cons List.all_nil Bool.and_self Bool.and_true Bool.true_and List.append_nil List.cons_append List.nil_append List.length_cons List.length_nil List.drop_zero List.take_zero List.drop_succ_cons List.take_succ_cons List.take_nil List.drop_nil List.not_mem_nil List.mem_cons List.contains_nil List.contains_cons Bool.or_self Bool.or_true Bool.true_or Bool.false_or Bool.or_false Bool.and_false Bool.false_and KsS_same KsS_grow skipV KsS_ext KsSW_ext KsOS_ext rep1 rep2 rep3 rep4 rep5 List.flatten_cons List.flatten_nil partsA isPtr fillA List.size_toArray ltT ltF leT leF ltTn ltFn leTn leFn eqTi eqFi wrapId toNat1 intGet boolGet memD app_get app_last app_lst app_set app_setL app_setF set_ne set_eq gt_iff_lt ge_iff_le decide_eq_true_eq len2 len3 get20 get21 drop2 put2 get30 get31 get32 drop3 put3 putI pairEta bneTi bneFi beqTi beqFi bne_eq_false_iff_eq beq_eq_false_iff_ne beq_iff_eq bne_iff_ne Int.toNat_natCast Nat.mul_one List.length_map Bool.not_eq_true Bool.not_eq_false Bool.decide_eq_true decide_true decide_false Bool.not_eq_true' Bool.not_eq_false' decide_eq_false_iff_not eq_self Decidable.not_not
attribute [local go_sem ↓] skipC exitC retC seqC blockC condC regC drawC drawStep AOpC AOpF AOpE AEff contE_at contC_at keepC_at keepW_at keepO_at keepL_at map_parts
attribute [local go_sem] reduceCtorEq Nat.reduceLT Nat.reduceEqDiff Nat.reduceAdd Nat.reduceMul Nat.reduceLeDiff Nat.reduceSub Nat.reduceBEq Nat.reduceBNe Nat.reduceBneDiff Nat.reduceBeqDiff
attribute [local go_sem ↓] reduceIte
attribute [local go_sem] ag_25 ag_3 ag_30 ag_32 ag_34 ag_69 by_25 by_3 by_30 by_32 by_34 by_69 el_25 el_30 en_3 fi_32_0 fi_32_1 fi_34_0 fi_34_1 fi_34_2 fi_34_3 fi_69_1 in_3 nf_32 nf_34 nf_69 pl_32 pl_34 pl_69 ps_32 ps_34 ps_69 sz_25 sz_3 sz_30 sz_32 sz_34 sz_69 ze_25 ze_3 ze_30 ze_32 ze_34 ze_69

def SMgL : List AV → List Blk → (AV → List Blk → Prop) → Prop
  | [.agg [.int .i64 r, v], .int .i64 i], η, K => ∃ l : List Id3, (IsR 69 3 enc3 η v l ∧ l.length ≤ 128 ∧ 0 ≤ i ∧ i + 1 < l.length ∧ parB (l.getD i.toNat z3) = true) ∧
      ∀ H b w, η.length ≤ b → H[b]? = some ⟨w, 69, 3, ((mrgL l i.toNat).map enc3).flatten⟩ → Ext η H → K (.agg [.int .i64 r, .sl b w 0 (mrgL l i.toNat).length]) H
  | _, _, _ => False
def SMgS : List AV → List Blk → (AV → List Blk → Prop) → Prop
  | [.agg [.int .i64 r, v, a, b, c], .int .i64 i], η, K => ∃ (l : List Id3) (ms ts bs : List Int), (IsR 69 3 enc3 η v l ∧ IsI η a ms ∧ IsI η b ts ∧ IsI η c bs) ∧ (l.length ≤ 128 ∧ bs.length ≤ 8 ∧ celB r l ms ts bs = true ∧ 0 ≤ i ∧ i + 1 < l.length ∧ parB (l.getD i.toNat z3) = true) ∧
      ∀ H b0 b1 b2 b3 v0 v1 v2 v3, New4 η.length H b0 b1 b2 b3 v0 v1 v2 v3 (mrgL l i.toNat) (mrgI ms i.toNat) (mrgI ts i.toNat) bs → Ext η H → K (.agg [.int .i64 r, .sl b0 v0 0 (mrgL l i.toNat).length, .sl b1 v1 0 (mrgI ms i.toNat).length, .sl b2 v2 0 (mrgI ts i.toNat).length, .sl b3 v3 0 bs.length]) H
  | _, _, _ => False
def SMco (lo : Nat) : List AV → List Blk → (AV → List Blk → Prop) → Prop
  | [.ptr p 0 0, .int .i64 i], η, K => ∃ (r : Int) (b0 v0 : Nat) (x y z : AV) (l : List Id3) (j : Nat), (lo ≤ p ∧ lo ≤ b0 ∧ p ≠ b0 ∧ i = j) ∧ η[p]? = some ⟨0, 34, 5, [.int .i64 r, .sl b0 v0 0 l.length, x, y, z]⟩ ∧ η[b0]? = some ⟨v0, 69, 3, (l.map enc3).flatten⟩ ∧ (l.length ≤ 128 ∧ j + 1 < l.length ∧ parB (l.getD j z3) = true) ∧
      ∀ H c0 u0, H[p]? = some ⟨0, 34, 5, [.int .i64 r, .sl c0 u0 0 (mrgL l j).length, x, y, z]⟩ → H[c0]? = some ⟨u0, 69, 3, ((mrgL l j).map enc3).flatten⟩ → (c0 = b0 ∨ η.length ≤ c0) → Touch (fun c => c = p ∨ c = b0) η H → K (.tup []) H
  | _, _, _ => False
def SSco (lo : Nat) : List AV → List Blk → (AV → List Blk → Prop) → Prop
  | [.ptr p 0 0, .int .i64 i], η, K => ∃ (n : Nat) (r : Int) (b0 b1 b2 b3 v0 v1 v2 v3 : Nat) (l : List Id3) (ms ts bs : List Int) (j : Nat) (G : Prop) (q : Nat), (lo ≤ n ∧ i = j ∧ GQ G q p b0 b1 b2 b3 η) ∧ PtrS n p η r b0 b1 b2 b3 v0 v1 v2 v3 l ms ts bs ∧ (celB r l ms ts bs = true ∧ l.length ≤ 128 ∧ j + 1 < l.length ∧ parB (l.getD j z3) = true) ∧
      ∀ H c0 c1 c2 u0 u1 u2, PtrS n p H r c0 c1 c2 b3 u0 u1 u2 v3 (mrgL l j) (mrgI ms j) (mrgI ts j) bs → Keep n η H → (GQ G q p c0 c1 c2 b3 H ∧ (G → H[q]? = η[q]?)) → K (.tup []) H
  | _, _, _ => False

/- (impl.Mesh).mayCoarsen -/
def Sp92 (lo : Nat) : Spec := fun g args η K => match g with | 131 => SHasI args η K | 132 => SSib args η K | _ => False
theorem Sp92_ok {lo : Nat} : Sound Tryz.prog lo (Sp92 lo) := by
  intro g args η K h
  unfold Sp92 at h
  split at h
  · exact .inl (f131_ok h)
  · exact .inl (f132_ok h)
  · exact h.elim
def Dr92 : Draws := fun id => match id with | 1 => ([0, 0, 3, 7, 15, 31, 31, 95, 255, 511, 1023, 2047, 4095, 8191, 4095, 32767, 65535, 4095, 135167, 4095, 528383, 1970175, 4067327, 8388607, 16777215, 33554431], [], [], (.one 0 (.one 1 (.one 2 (.one 3 (.one 4 (.one 5 (.one 6 (.one 7 (.one 8 (.one 9 (.one 10 (.one 11 (.one 12 (.one 13 (.one 14 (.one 15 (.one 16 (.one 17 (.one 18 (.one 19 (.one 20 (.one 21 (.one 22 (.one 23 (.one 24 (.one 25 .nil))))))))))))))))))))))))))) | _ => ([], [], [], .nil)
theorem f92_ok {lo : Nat} {args : List AV} {η : List Blk} {K : AV → List Blk → Prop} (h : SMay args η K) : AF Tryz.prog lo 92 args η K := by
  unfold SMay at h
  split at h
  · obtain ⟨⟨⟨l, hr, hl⟩, hlv, i0, i1⟩, hK⟩ := h
    have d1 := hr.dec3
    have o1 : ok3 69 _ _ := ⟨l, hr, hl⟩
    rw [d1] at hK hlv i1
    obtain ⟨b, ver, rfl, hb⟩ := hr
    rename_i r i
    obtain ⟨j, rfl⟩ : ∃ j : Nat, i = j := ⟨i.toNat, by omega⟩
    rw [Int.toNat_natCast] at hK
    have h1 : inB (j : Int) 0 ((l.length : Int) - 1) = true := by simp [inB]; omega
    have h2 : inB ((j : Int) + 1) 0 ((l.length : Int) - 1) = true := by simp [inB]; omega
    have hs : sibB ((l.getD j (0, 0, 0)).1, (l.getD j (0, 0, 0)).2.1, (l.getD j (0, 0, 0)).2.2) ((l.getD (j + 1) (0, 0, 0)).1, (l.getD (j + 1) (0, 0, 0)).2.1, (l.getD (j + 1) (0, 0, 0)).2.2) = sibB (l.getD j z3) (l.getD (j + 1) z3) := rfl
    have b1 := levs_at hlv (i := j) (by omega)
    have hj1 : ((j : Int) - 1).toNat = j - 1 := by omega
    have hj2 : ((j : Int) + 2).toNat = j + 2 := by omega
    refine AF_run Sp92_ok Dr92 [] [.tmp 4] hm Tryz.func92 rfl (by decide) Tryz.ntmps92 rfl (by kernel_rfl) (Nat.le_of_ble_eq_true rfl) ?_; intro hlo
    cases e1 : sibB (l.getD j z3) (l.getD (j + 1) z3)
    · repeat' (first | with_reducible refine iteI (fun _ => ?_) (fun _ => ?_) | ((first | unfold AOpsC | unfold AOpsD | skip); simp (maxSteps := 1000000) (disch := (first | omega | assumption | (simp only [List.length_append, List.length_cons, List.length_nil, List.length_set]; omega))) only [go_sem, Sp92, SHasI, SSib, Dr92, hb, d1, o1, h1, h2, hs, e1]))
      exact KB hK (by rw [mayC, e1]; rfl)
    have h4 : inB ((j : Int) + 2) 0 ((l.length : Int) - 1) = decide (j + 2 < l.length) := by
      by_cases hc : j + 2 < l.length
      · rw [decide_eq_true hc]; simp [inB]; omega
      · rw [decide_eq_false hc]; simp [inB]; omega
    by_cases q1 : 0 < j
    · have h3 : inB ((j : Int) - 1) 0 ((l.length : Int) - 1) = true := by simp [inB]; omega
      have b2 := levs_at hlv (i := j - 1) (by omega)
      by_cases q2 : (l.getD j (0, 0, 0)).2.1 < (l.getD (j - 1) (0, 0, 0)).2.1
      · have hm : mayC l j = false := by
          have e2 : decide (lvD l (j - 1) ≤ lvD l j) = false := decide_eq_false (by unfold lvD; omega)
          simp only [mayC, e2, decide_eq_false (show ¬ j = 0 by omega), Bool.or_false, Bool.false_and, Bool.and_false]
        repeat' (first | with_reducible refine iteI (fun _ => ?_) (fun _ => ?_) | ((first | unfold AOpsC | unfold AOpsD | skip); simp (maxSteps := 1000000) (disch := (first | omega | assumption | (simp only [List.length_append, List.length_cons, List.length_nil, List.length_set]; omega))) only [go_sem, Sp92, SHasI, SSib, Dr92, hb, d1, o1, h1, h2, hs, e1, h3, h4, hj1, hj2, q2]))
        exact KB hK hm
      have e2 : (decide (j = 0) || decide (lvD l (j - 1) ≤ lvD l j)) = true := by rw [decide_eq_true (show lvD l (j - 1) ≤ lvD l j by unfold lvD; omega), Bool.or_true]
      by_cases q3 : j + 2 < l.length
      · have b3 := levs_at hlv (i := j + 2) (by omega)
        rw [decide_eq_true q3] at h4
        by_cases q4 : (l.getD j (0, 0, 0)).2.1 < (l.getD (j + 2) (0, 0, 0)).2.1
        · have hm : mayC l j = false := by
            have e3 : decide (lvD l (j + 2) ≤ lvD l j) = false := decide_eq_false (by unfold lvD; omega)
            rw [mayC, e3, decide_eq_false (show ¬ l.length ≤ j + 2 by omega), Bool.or_false, Bool.and_false, Bool.and_false]
          repeat' (first | with_reducible refine iteI (fun _ => ?_) (fun _ => ?_) | ((first | unfold AOpsC | unfold AOpsD | skip); simp (maxSteps := 1000000) (disch := (first | omega | assumption | (simp only [List.length_append, List.length_cons, List.length_nil, List.length_set]; omega))) only [go_sem, Sp92, SHasI, SSib, Dr92, hb, d1, o1, h1, h2, hs, e1, h3, h4, hj1, hj2, q2, q4]))
          exact KB hK hm
        · have hm : mayC l j = true := by
            have e3 : decide (lvD l (j + 2) ≤ lvD l j) = true := decide_eq_true (by unfold lvD; omega)
            rw [mayC, e1, e2, e3, Bool.or_true]; rfl
          repeat' (first | with_reducible refine iteI (fun _ => ?_) (fun _ => ?_) | ((first | unfold AOpsC | unfold AOpsD | skip); simp (maxSteps := 1000000) (disch := (first | omega | assumption | (simp only [List.length_append, List.length_cons, List.length_nil, List.length_set]; omega))) only [go_sem, Sp92, SHasI, SSib, Dr92, hb, d1, o1, h1, h2, hs, e1, h3, h4, hj1, hj2, q2, q4]))
          exact KB hK hm
      · rw [decide_eq_false q3] at h4
        have hm : mayC l j = true := by rw [mayC, e1, e2, decide_eq_true (show l.length ≤ j + 2 by omega), Bool.true_or]; rfl
        repeat' (first | with_reducible refine iteI (fun _ => ?_) (fun _ => ?_) | ((first | unfold AOpsC | unfold AOpsD | skip); simp (maxSteps := 1000000) (disch := (first | omega | assumption | (simp only [List.length_append, List.length_cons, List.length_nil, List.length_set]; omega))) only [go_sem, Sp92, SHasI, SSib, Dr92, hb, d1, o1, h1, h2, hs, e1, h3, h4, hj1, hj2, q2]))
        exact KB hK hm
    · have h3 : inB ((j : Int) - 1) 0 ((l.length : Int) - 1) = false := by simp [inB]; omega
      have e2 : (decide (j = 0) || decide (lvD l (j - 1) ≤ lvD l j)) = true := by rw [decide_eq_true (show j = 0 by omega), Bool.true_or]
      have q2 : True := trivial
      by_cases q3 : j + 2 < l.length
      · have b3 := levs_at hlv (i := j + 2) (by omega)
        rw [decide_eq_true q3] at h4
        by_cases q4 : (l.getD j (0, 0, 0)).2.1 < (l.getD (j + 2) (0, 0, 0)).2.1
        · have hm : mayC l j = false := by
            have e3 : decide (lvD l (j + 2) ≤ lvD l j) = false := decide_eq_false (by unfold lvD; omega)
            rw [mayC, e3, decide_eq_false (show ¬ l.length ≤ j + 2 by omega), Bool.or_false, Bool.and_false, Bool.and_false]
          repeat' (first | with_reducible refine iteI (fun _ => ?_) (fun _ => ?_) | ((first | unfold AOpsC | unfold AOpsD | skip); simp (maxSteps := 1000000) (disch := (first | omega | assumption | (simp only [List.length_append, List.length_cons, List.length_nil, List.length_set]; omega))) only [go_sem, Sp92, SHasI, SSib, Dr92, hb, d1, o1, h1, h2, hs, e1, h3, h4, hj1, hj2, q2, q4]))
          exact KB hK hm
        · have hm : mayC l j = true := by
            have e3 : decide (lvD l (j + 2) ≤ lvD l j) = true := decide_eq_true (by unfold lvD; omega)
            rw [mayC, e1, e2, e3, Bool.or_true]; rfl
          repeat' (first | with_reducible refine iteI (fun _ => ?_) (fun _ => ?_) | ((first | unfold AOpsC | unfold AOpsD | skip); simp (maxSteps := 1000000) (disch := (first | omega | assumption | (simp only [List.length_append, List.length_cons, List.length_nil, List.length_set]; omega))) only [go_sem, Sp92, SHasI, SSib, Dr92, hb, d1, o1, h1, h2, hs, e1, h3, h4, hj1, hj2, q2, q4]))
          exact KB hK hm
      · rw [decide_eq_false q3] at h4
        have hm : mayC l j = true := by rw [mayC, e1, e2, decide_eq_true (show l.length ≤ j + 2 by omega), Bool.true_or]; rfl
        repeat' (first | with_reducible refine iteI (fun _ => ?_) (fun _ => ?_) | ((first | unfold AOpsC | unfold AOpsD | skip); simp (maxSteps := 1000000) (disch := (first | omega | assumption | (simp only [List.length_append, List.length_cons, List.length_nil, List.length_set]; omega))) only [go_sem, Sp92, SHasI, SSib, Dr92, hb, d1, o1, h1, h2, hs, e1, h3, h4, hj1, hj2, q2]))
        exact KB hK hm
  · exact h.elim

/- spec.l06May -/
def Sp89 (lo : Nat) : Spec := fun g args η K => match g with | 128 => SSib args η K | _ => False
theorem Sp89_ok {lo : Nat} : Sound Tryz.prog lo (Sp89 lo) := by
  intro g args η K h
  unfold Sp89 at h
  split at h
  · exact .inl (f128_ok h)
  · exact h.elim
def Dr89 : Draws := fun id => match id with | 2 => ([0, 1, 0, 7, 15, 0, 32, 0, 128, 480, 992, 2047, 4095], [], [], (.one 0 (.one 1 (.one 2 (.one 3 (.one 4 (.one 5 (.one 6 (.one 7 (.one 8 (.one 9 (.one 10 (.one 11 (.one 12 .nil)))))))))))))) | _ => ([], [], [], .nil)
theorem f89_ok {lo : Nat} {args : List AV} {η : List Blk} {K : AV → List Blk → Prop} (h : SMay args η K) : AF Tryz.prog lo 89 args η K := by
  unfold SMay at h
  split at h
  · obtain ⟨⟨⟨l, hr, hl⟩, hlv, i0, i1⟩, hK⟩ := h
    have d1 := hr.dec3
    have o1 : ok3 69 _ _ := ⟨l, hr, hl⟩
    rw [d1] at hK hlv i1
    obtain ⟨b, ver, rfl, hb⟩ := hr
    rename_i r i
    obtain ⟨j, rfl⟩ : ∃ j : Nat, i = j := ⟨i.toNat, by omega⟩
    rw [Int.toNat_natCast] at hK
    have h1 : inB (j : Int) 0 ((l.length : Int) - 1) = true := by simp [inB]; omega
    have h2 : inB ((j : Int) + 1) 0 ((l.length : Int) - 1) = true := by simp [inB]; omega
    have hs : sibB ((l.getD j (0, 0, 0)).1, (l.getD j (0, 0, 0)).2.1, (l.getD j (0, 0, 0)).2.2) ((l.getD (j + 1) (0, 0, 0)).1, (l.getD (j + 1) (0, 0, 0)).2.1, (l.getD (j + 1) (0, 0, 0)).2.2) = sibB (l.getD j z3) (l.getD (j + 1) z3) := rfl
    have b1 := levs_at hlv (i := j) (by omega)
    have hj1 : ((j : Int) - 1).toNat = j - 1 := by omega
    have hj2 : ((j : Int) + 2).toNat = j + 2 := by omega
    refine AF_run Sp89_ok Dr89 [] [.tmp 4] hm Tryz.func89 rfl (by decide) Tryz.ntmps89 rfl (by kernel_rfl) (Nat.le_of_ble_eq_true rfl) ?_; intro hlo
    cases e1 : sibB (l.getD j z3) (l.getD (j + 1) z3)
    · repeat' (first | with_reducible refine iteI (fun _ => ?_) (fun _ => ?_) | ((first | unfold AOpsC | unfold AOpsD | skip); simp (maxSteps := 1000000) (disch := (first | omega | assumption | (simp only [List.length_append, List.length_cons, List.length_nil, List.length_set]; omega))) only [go_sem, Sp89, SSib, Dr89, hb, d1, o1, h1, h2, hs, e1]))
      exact KB hK (by rw [mayC, e1]; rfl)
    have h4 : inB ((j : Int) + 2) 0 ((l.length : Int) - 1) = decide (j + 2 < l.length) := by
      by_cases hc : j + 2 < l.length
      · rw [decide_eq_true hc]; simp [inB]; omega
      · rw [decide_eq_false hc]; simp [inB]; omega
    by_cases q1 : 0 < j
    · have h3 : inB ((j : Int) - 1) 0 ((l.length : Int) - 1) = true := by simp [inB]; omega
      have b2 := levs_at hlv (i := j - 1) (by omega)
      by_cases q2 : (l.getD j (0, 0, 0)).2.1 < (l.getD (j - 1) (0, 0, 0)).2.1
      · have hm : mayC l j = false := by
          have e2 : decide (lvD l (j - 1) ≤ lvD l j) = false := decide_eq_false (by unfold lvD; omega)
          simp only [mayC, e2, decide_eq_false (show ¬ j = 0 by omega), Bool.or_false, Bool.false_and, Bool.and_false]
        repeat' (first | with_reducible refine iteI (fun _ => ?_) (fun _ => ?_) | ((first | unfold AOpsC | unfold AOpsD | skip); simp (maxSteps := 1000000) (disch := (first | omega | assumption | (simp only [List.length_append, List.length_cons, List.length_nil, List.length_set]; omega))) only [go_sem, Sp89, SSib, Dr89, hb, d1, o1, h1, h2, hs, e1, h3, h4, hj1, hj2, q2]))
        exact KB hK hm
      have e2 : (decide (j = 0) || decide (lvD l (j - 1) ≤ lvD l j)) = true := by rw [decide_eq_true (show lvD l (j - 1) ≤ lvD l j by unfold lvD; omega), Bool.or_true]
      by_cases q3 : j + 2 < l.length
      · have b3 := levs_at hlv (i := j + 2) (by omega)
        rw [decide_eq_true q3] at h4
        by_cases q4 : (l.getD j (0, 0, 0)).2.1 < (l.getD (j + 2) (0, 0, 0)).2.1
        · have hm : mayC l j = false := by
            have e3 : decide (lvD l (j + 2) ≤ lvD l j) = false := decide_eq_false (by unfold lvD; omega)
            rw [mayC, e3, decide_eq_false (show ¬ l.length ≤ j + 2 by omega), Bool.or_false, Bool.and_false, Bool.and_false]
          repeat' (first | with_reducible refine iteI (fun _ => ?_) (fun _ => ?_) | ((first | unfold AOpsC | unfold AOpsD | skip); simp (maxSteps := 1000000) (disch := (first | omega | assumption | (simp only [List.length_append, List.length_cons, List.length_nil, List.length_set]; omega))) only [go_sem, Sp89, SSib, Dr89, hb, d1, o1, h1, h2, hs, e1, h3, h4, hj1, hj2, q2, q4]))
          exact KB hK hm
        · have hm : mayC l j = true := by
            have e3 : decide (lvD l (j + 2) ≤ lvD l j) = true := decide_eq_true (by unfold lvD; omega)
            rw [mayC, e1, e2, e3, Bool.or_true]; rfl
          repeat' (first | with_reducible refine iteI (fun _ => ?_) (fun _ => ?_) | ((first | unfold AOpsC | unfold AOpsD | skip); simp (maxSteps := 1000000) (disch := (first | omega | assumption | (simp only [List.length_append, List.length_cons, List.length_nil, List.length_set]; omega))) only [go_sem, Sp89, SSib, Dr89, hb, d1, o1, h1, h2, hs, e1, h3, h4, hj1, hj2, q2, q4]))
          exact KB hK hm
      · rw [decide_eq_false q3] at h4
        have hm : mayC l j = true := by rw [mayC, e1, e2, decide_eq_true (show l.length ≤ j + 2 by omega), Bool.true_or]; rfl
        repeat' (first | with_reducible refine iteI (fun _ => ?_) (fun _ => ?_) | ((first | unfold AOpsC | unfold AOpsD | skip); simp (maxSteps := 1000000) (disch := (first | omega | assumption | (simp only [List.length_append, List.length_cons, List.length_nil, List.length_set]; omega))) only [go_sem, Sp89, SSib, Dr89, hb, d1, o1, h1, h2, hs, e1, h3, h4, hj1, hj2, q2]))
        exact KB hK hm
    · have h3 : inB ((j : Int) - 1) 0 ((l.length : Int) - 1) = false := by simp [inB]; omega
      have e2 : (decide (j = 0) || decide (lvD l (j - 1) ≤ lvD l j)) = true := by rw [decide_eq_true (show j = 0 by omega), Bool.true_or]
      have q2 : True := trivial
      by_cases q3 : j + 2 < l.length
      · have b3 := levs_at hlv (i := j + 2) (by omega)
        rw [decide_eq_true q3] at h4
        by_cases q4 : (l.getD j (0, 0, 0)).2.1 < (l.getD (j + 2) (0, 0, 0)).2.1
        · have hm : mayC l j = false := by
            have e3 : decide (lvD l (j + 2) ≤ lvD l j) = false := decide_eq_false (by unfold lvD; omega)
            rw [mayC, e3, decide_eq_false (show ¬ l.length ≤ j + 2 by omega), Bool.or_false, Bool.and_false, Bool.and_false]
          repeat' (first | with_reducible refine iteI (fun _ => ?_) (fun _ => ?_) | ((first | unfold AOpsC | unfold AOpsD | skip); simp (maxSteps := 1000000) (disch := (first | omega | assumption | (simp only [List.length_append, List.length_cons, List.length_nil, List.length_set]; omega))) only [go_sem, Sp89, SSib, Dr89, hb, d1, o1, h1, h2, hs, e1, h3, h4, hj1, hj2, q2, q4]))
          exact KB hK hm
        · have hm : mayC l j = true := by
            have e3 : decide (lvD l (j + 2) ≤ lvD l j) = true := decide_eq_true (by unfold lvD; omega)
            rw [mayC, e1, e2, e3, Bool.or_true]; rfl
          repeat' (first | with_reducible refine iteI (fun _ => ?_) (fun _ => ?_) | ((first | unfold AOpsC | unfold AOpsD | skip); simp (maxSteps := 1000000) (disch := (first | omega | assumption | (simp only [List.length_append, List.length_cons, List.length_nil, List.length_set]; omega))) only [go_sem, Sp89, SSib, Dr89, hb, d1, o1, h1, h2, hs, e1, h3, h4, hj1, hj2, q2, q4]))
          exact KB hK hm
      · rw [decide_eq_false q3] at h4
        have hm : mayC l j = true := by rw [mayC, e1, e2, decide_eq_true (show l.length ≤ j + 2 by omega), Bool.true_or]; rfl
        repeat' (first | with_reducible refine iteI (fun _ => ?_) (fun _ => ?_) | ((first | unfold AOpsC | unfold AOpsD | skip); simp (maxSteps := 1000000) (disch := (first | omega | assumption | (simp only [List.length_append, List.length_cons, List.length_nil, List.length_set]; omega))) only [go_sem, Sp89, SSib, Dr89, hb, d1, o1, h1, h2, hs, e1, h3, h4, hj1, hj2, q2]))
        exact KB hK hm
  · exact h.elim

/- spec.l06Merge -/
def Sp73 (lo : Nat) : Spec := fun g args η K => match g with | 111 => SPar args η K | _ => False
theorem Sp73_ok {lo : Nat} : Sound Tryz.prog lo (Sp73 lo) := by
  intro g args η K h
  unfold Sp73 at h
  split at h
  · exact .inl (f111_ok h)
  · exact h.elim
def Dr73 : Draws := fun id => match id with | 4 => ([0, 1, 0, 0, 8, 0, 32, 120, 252, 511, 1023], [], [], (.one 2 (.one 3 (.one 4 (.one 5 (.one 6 (.one 7 (.two 0 8 (.two 1 8 (.one 8 (.one 9 (.one 10 .nil))) (.one 1 (.one 9 (.one 10 .nil)))) (.one 0 (.one 1 (.one 9 (.one 10 .nil)))))))))))) | _ => ([], [], [], .nil)
theorem f73_ok {lo : Nat} {args : List AV} {η : List Blk} {K : AV → List Blk → Prop} (h : SMgL args η K) : AF Tryz.prog lo 73 args η K := by
  unfold SMgL at h
  split at h
  · obtain ⟨l, ⟨hr, hl, i0, i1, hpa⟩, hK⟩ := h
    rename_i r _ i
    obtain ⟨b, ver, rfl, hb⟩ := hr
    obtain ⟨j, rfl⟩ : ∃ j : Nat, i = j := ⟨i.toNat, by omega⟩
    rw [Int.toNat_natCast] at hK hpa
    have hbl := blt hb
    have hpv : parV ((l.getD j (0, 0, 0)).1, (l.getD j (0, 0, 0)).2.1, (l.getD j (0, 0, 0)).2.2) = parL (l.getD j z3) := if_pos hpa
    have hjl : (l.take j).length = j := by rw [List.length_take]; omega
    have hdl : (l.drop (j + 2)).length = l.length - (j + 2) := by rw [List.length_drop]
    have hdt : (l.drop (j + 2)).take (l.length - (j + 2)) = l.drop (j + 2) := by rw [← hdl, List.take_length]
    have s1 : (l.map enc3).flatten.take (j * 3) = ((l.take j).map enc3).flatten := flTake l j
    have s2 : ((l.map enc3).flatten.drop ((j + 2) * 3)).take ((l.length - (j + 2)) * 3) = ((l.drop (j + 2)).map enc3).flatten := by rw [flDrop, flTake, hdt]
    have s3 : ((l.take j).map enc3).flatten.take (j * 3) = ((l.take j).map enc3).flatten := by rw [flTake, List.take_take, Nat.min_self]
    have hj2 : ((j : Int) + 2).toNat = j + 2 := by omega
    refine AF_run Sp73_ok Dr73 [] [.cell 4 32] hm Tryz.func73 rfl (by decide) Tryz.ntmps73 rfl (by kernel_rfl) (Nat.le_of_ble_eq_true rfl) ?_; intro hlo
    repeat' (first | with_reducible refine iteI (fun _ => ?_) (fun _ => ?_) | ((first | unfold AOpsC | unfold AOpsD | skip); simp (maxSteps := 1000000) (disch := (first | omega | assumption | (simp only [List.length_append, List.length_cons, List.length_nil, List.length_set]; omega))) only [go_sem, Sp73, SPar, Dr73, hb, hbl, hpv, takeF3, all3, s1, s2, s3, flLen, Int.toNat_zero, Nat.sub_zero, Nat.zero_mul, List.drop_zero, hjl, hdl, hj2]))
    have hsl : (mrgL l j).length = j + 1 + (l.length - (j + 2)) := by rw [mrgL_len (by omega)]; omega
    refine ⟨by simp only [List.length_append, flLen, hjl, List.length_cons, List.length_nil]; omega, ?_⟩
    rw [List.take_of_length_le (by simp only [List.length_append, flLen, hjl, List.length_cons, List.length_nil]; omega), ← hsl]
    refine hK _ η.length 2 (Nat.le_refl _) ?_ (((Ext.refl η).app _).app _)
    rw [List.getElem?_append_left (by simp), List.getElem?_append_right (Nat.le_refl _), Nat.sub_self]
    simp [mrgL, enc3, z3]
  · exact h.elim

/- spec.l08Merge -/
def Sp34 (lo : Nat) : Spec := fun g args η K => match g with | 73 => SMgL args η K | _ => False
theorem Sp34_ok {lo : Nat} : Sound Tryz.prog lo (Sp34 lo) := by
  intro g args η K h
  unfold Sp34 at h
  split at h
  · exact .inl (f73_ok h)
  · exact h.elim
def Dr34 : Draws := fun id => match id with | 2 => ([0, 0, 2, 0, 14, 30, 0, 64, 0, 256, 960, 1984, 4094, 8190, 16383, 32767], [13], [], (.one 0 (.one 1 (.one 2 (.one 3 (.one 4 (.one 5 (.one 6 (.one 7 (.one 8 (.one 9 (.one 10 (.one 11 (.one 12 (.one 13 (.one 14 (.one 15 .nil))))))))))))))))) | 4 => ([0, 0, 2, 0, 14, 30, 0, 64, 0, 256, 960, 1984, 4094, 8190, 16383, 32767], [13], [], (.one 0 (.one 1 (.one 2 (.one 3 (.one 4 (.one 5 (.one 6 (.one 7 (.one 8 (.one 9 (.one 10 (.one 11 (.one 12 (.one 13 (.one 14 (.one 15 .nil))))))))))))))))) | 5 => ([0, 1, 0, 7, 0, 0, 32, 0, 128, 480, 1023, 0, 0, 4096, 0, 16384, 61440, 131071, 0, 0, 524288, 2097151, 4194303, 8388607], [3, 3010, 3017], [(3011, 0), (3012, 0), (3013, 0), (3014, 0), (3015, 0), (3018, 0), (3019, 0), (3020, 0)], (.one 0 (.one 1 (.one 2 (.one 4 (.one 5 (.one 6 (.one 7 (.one 8 (.one 9 (.one 11 (.one 12 (.one 13 (.one 14 (.one 15 (.one 18 (.one 19 (.one 20 (.two 3 16 (.two 10 16 (.one 16 (.one 17 (.one 21 (.one 22 (.one 23 .nil))))) (.one 10 (.one 17 (.one 21 (.one 22 (.one 23 .nil)))))) (.one 3 (.one 10 (.one 17 (.one 21 (.one 22 (.one 23 .nil))))))))))))))))))))))))) | _ => ([], [], [], .nil)
theorem f34_ok {lo : Nat} {args : List AV} {η : List Blk} {K : AV → List Blk → Prop} (h : SMgS args η K) : AF Tryz.prog lo 34 args η K := by
  unfold SMgS at h
  split at h
  · obtain ⟨l, ms, ts, bs, ⟨hr, ha, hb, hc⟩, ⟨hl, hb8, hC, i0, i1, hpa⟩, hK⟩ := h
    rename_i r _ _ _ _ i
    obtain ⟨k3, k4, k5, k6, k7, k8⟩ := celT hC
    obtain ⟨j, rfl⟩ : ∃ j : Nat, i = j := ⟨i.toNat, by omega⟩
    rw [Int.toNat_natCast] at hK hpa
    have m1 := cells_at k7 (i := j) (by omega)
    have m2 := cells_at k7 (i := j + 1) (by omega)
    have eM : (mrgI ms j).map (AV.int .i64) = (ms.take j).map (AV.int .i64) ++ [.int .i64 (ms.getD j 0 + ms.getD (j + 1) 0)] ++ (ms.drop (j + 2)).map (AV.int .i64) := by simp [mrgI]
    have eT : (mrgI ts j).map (AV.int .i64) = (ts.take j).map (AV.int .i64) ++ [.int .i64 (ts.getD j 0 + ts.getD (j + 1) 0)] ++ (ts.drop (j + 2)).map (AV.int .i64) := by simp [mrgI]
    have nM : j + 1 + (ms.length - (j + 2)) = (mrgI ms j).length := by rw [mrgI_len (by omega)]; omega
    have nT : j + 1 + (ts.length - (j + 2)) = (mrgI ts j).length := by rw [mrgI_len (by omega)]; omega
    have hj2 : ((j : Int) + 2).toNat = j + 2 := by omega
    have w0 := hr
    obtain ⟨b0, v0, rfl, hb0⟩ := hr
    obtain ⟨b1, v1, rfl, hb1⟩ := ha
    obtain ⟨b2, v2, rfl, hb2⟩ := hb
    obtain ⟨b3, v3, rfl, hb3⟩ := hc
    have n0 := blt hb0
    have n1 := blt hb1
    have n2 := blt hb2
    have n3 := blt hb3
    have t1 : List.take j (ms.map (AV.int .i64)) = (ms.take j).map (AV.int .i64) := List.map_take.symm
    have t2 : List.take j (ts.map (AV.int .i64)) = (ts.take j).map (AV.int .i64) := List.map_take.symm
    have t1' : List.take j ((ms.take j).map (AV.int .i64)) = (ms.take j).map (AV.int .i64) := by rw [← List.map_take, List.take_take, Nat.min_self]
    have t2' : List.take j ((ts.take j).map (AV.int .i64)) = (ts.take j).map (AV.int .i64) := by rw [← List.map_take, List.take_take, Nat.min_self]
    have u1 : (ms.take j).length = j := by rw [List.length_take]; omega
    have u2 : (ts.take j).length = j := by rw [List.length_take]; omega
    refine AF_run Sp34_ok Dr34 [] [.cell 4 34] hm Tryz.func34 rfl (by decide) Tryz.ntmps34 rfl (by kernel_rfl) (Nat.le_of_ble_eq_true rfl) ?_; intro hlo
    repeat' (first | with_reducible refine iteI (fun _ => ?_) (fun _ => ?_) | ((first | unfold AOpsC | unfold AOpsD | skip); simp (maxSteps := 1000000) (disch := (first | omega | assumption | (simp only [List.length_append, List.length_cons, List.length_nil, List.length_set]; omega))) only [go_sem, Sp34, Dr34, hb0, hb1, hb2, hb3, takeMap, allI, Int.toNat_zero, Nat.sub_zero, List.drop_zero, t1, t2, t1', t2', u1, u2, Nat.le_refl]))
    repeat' (with_reducible refine And.intro ?_ ?_)
    all_goals
      unfold SMgL
      refine ⟨l, ⟨w0.ext ((((Ext.refl η).app _).app _).app _ |>.app _), hl, i0, i1, by rw [Int.toNat_natCast]; exact hpa⟩, fun G c0 z0 c0n g0 x => ?_⟩
      rw [Int.toNat_natCast] at g0 ⊢
      have G1 := x.blk (b := η.length) (x := ⟨1, 3, 1, (ms.take j).map (AV.int .i64) ++ [.int .i64 (ms.getD j 0 + ms.getD (j + 1) 0)]⟩) (by simp)
      have G2 := x.blk (b := η.length + 2) (x := ⟨1, 3, 1, (ts.take j).map (AV.int .i64) ++ [.int .i64 (ts.getD j 0 + ts.getD (j + 1) 0)]⟩) (by simp)
      generalize hE : η ++ [_] ++ [_] ++ [_] ++ [_] = E at *
      have hEl : E.length = η.length + 4 := by rw [← hE]; simp
      have xη : Ext η G := Ext.trans (by rw [← hE]; exact (((Ext.refl η).app _).app _).app _ |>.app _) x
      have F1 := xη.blk hb1
      have F2 := xη.blk hb2
      have F3 := xη.blk hb3
      have g0l := blt g0
      have G1l := blt G1
      have G2l := blt G2
      have e2 : ∀ (a b : Blk), (η ++ [a] ++ [b]).length = η.length + 2 := fun _ _ => by simp
      have f1 : List.take (ms.length - (j + 2)) (List.drop (j + 2) (ms.map (AV.int .i64))) = (ms.drop (j + 2)).map (AV.int .i64) := by rw [List.take_of_length_le (by simp), List.map_drop]
      have f2 : List.take (ts.length - (j + 2)) (List.drop (j + 2) (ts.map (AV.int .i64))) = (ts.drop (j + 2)).map (AV.int .i64) := by rw [List.take_of_length_le (by simp), List.map_drop]
      have z1 : ∀ a, ((ms.take j).map (AV.int .i64) ++ [a]).length = j + 1 := fun _ => by rw [List.length_append, List.length_map, u1]; rfl
      have z2 : ∀ a, ((ts.take j).map (AV.int .i64) ++ [a]).length = j + 1 := fun _ => by rw [List.length_append, List.length_map, u2]; rfl
      have p1 : ∀ a, List.take (j + 1) ((ms.take j).map (AV.int .i64) ++ [a]) = (ms.take j).map (AV.int .i64) ++ [a] := fun a => List.take_of_length_le (by rw [z1]; exact Nat.le_refl _)
      have p2 : ∀ a, List.take (j + 1) ((ts.take j).map (AV.int .i64) ++ [a]) = (ts.take j).map (AV.int .i64) ++ [a] := fun a => List.take_of_length_le (by rw [z2]; exact Nat.le_refl _)
      repeat' (first | with_reducible refine iteI (fun _ => ?_) (fun _ => ?_) | ((first | unfold AOpsC | unfold AOpsD | skip); simp (maxSteps := 1000000) (disch := (first | omega | assumption | (simp only [List.length_append, List.length_cons, List.length_nil, List.length_set]; omega))) only [go_sem, Sp34, Dr34, F1, F2, F3, G1, G2, takeMap, allI, Int.toNat_zero, Nat.sub_zero, List.drop_zero, e2, f1, f2, z1, z2, p1, p2, hj2, Nat.le_refl]))
      repeat' (with_reducible refine And.intro ?_ ?_)
    all_goals first
      | omega
      | (rw [← eM, ← eT, nM, nT]
         refine hK _ _ _ _ _ _ _ _ _ ⟨?_, ?_, ?_, app_last _ _, by omega, by omega, by omega, by simp only [List.length_set]; omega, by omega, by omega, by simp only [List.length_set]; omega, by omega, by simp only [List.length_set]; omega, by simp only [List.length_set]; omega⟩ (((xη.set (Nat.le_refl _) _).set (by omega) _).app _)
         · rw [app_get (by simp only [List.length_set]; omega), set_ne (by omega), set_ne (by omega)]; exact g0
         · rw [app_get (by simp only [List.length_set]; omega), set_ne (by omega), set_eq (by omega)]
         · rw [app_get (by simp only [List.length_set]; omega), set_eq (by simp only [List.length_set]; omega)])
  · exact h.elim

/- (*impl.Mesh).coarsen -/
def Sp125 (lo : Nat) : Spec := fun g args η K => match g with | 146 => SRepR lo args η K | 152 => SPar args η K | _ => False
theorem Sp125_ok {lo : Nat} : Sound Tryz.prog lo (Sp125 lo) := by
  intro g args η K h
  unfold Sp125 at h
  split at h
  · exact .inl (f146_ok h)
  · exact .inl (f152_ok h)
  · exact h.elim
def Dr125 : Draws := fun id => match id with | 1 => ([0, 0, 2, 6, 14, 0, 0, 64, 0, 256, 1022, 2047, 4095, 8191], [9, 3010], [(3000, 0)], (.one 0 (.one 1 (.one 2 (.one 3 (.one 4 (.one 5 (.one 6 (.one 7 (.one 8 (.one 9 (.one 10 (.one 11 (.one 12 (.one 13 .nil))))))))))))))) | _ => ([], [], [], .nil)
theorem f125_ok {lo : Nat} {args : List AV} {η : List Blk} {K : AV → List Blk → Prop} (h : SMco lo args η K) : AF Tryz.prog lo 125 args η K := by
  unfold SMco at h
  split at h
  · obtain ⟨r, b0, v0, x, y, z, l, j, ⟨hlp, hlb, hpb, rfl⟩, hp, hb, ⟨hl, hj, hpa⟩, hK⟩ := h
    rename_i p
    have lp := blt hp
    have lb := blt hb
    have hpv : parV ((l.getD j (0, 0, 0)).1, (l.getD j (0, 0, 0)).2.1, (l.getD j (0, 0, 0)).2.2) = parL (l.getD j z3) := if_pos hpa
    refine AF_run Sp125_ok Dr125 [] [] hm Tryz.func125 rfl (by decide) Tryz.ntmps125 rfl (by kernel_rfl) (Nat.le_of_ble_eq_true rfl) ?_; intro hlo
    repeat' (first | with_reducible refine iteI (fun _ => ?_) (fun _ => ?_) | ((first | unfold AOpsC | unfold AOpsD | skip); simp (maxSteps := 1000000) (disch := (first | omega | assumption | (simp only [List.length_append, List.length_cons, List.length_nil, List.length_set]; omega))) only [go_sem, Sp125, SPar, Dr125, hp, hb, hpv]))
    unfold SRepR
    have eS : l.take j ++ [parL (l.getD j z3)] ++ l.drop (j + 2) = mrgL l j := rfl
    refine ⟨l, [parL (l.getD j z3)], j, j + 2, ⟨hlb, hlo, by omega, rfl, rfl⟩, ⟨rfl, by rw [app_get lb]; exact hb⟩, ⟨rfl, app_last _ _⟩, ⟨by omega, by simp, by simp, by omega, by omega, by simp⟩, fun H c0 u0 hc0 hcb ht => ?_⟩
    rw [eS] at hc0 ⊢
    have hp' : H[p]? = _ := ht.blk hpb (by rw [app_get lp]; exact hp)
    have hHl := blt hp'
    have hne : c0 ≠ p := by rcases hcb with ⟨rfl, _⟩ | ⟨h, _⟩
                            · exact hpb.symm
                            · simp only [List.length_append, List.length_cons, List.length_nil] at h; omega
    repeat' (first | with_reducible refine iteI (fun _ => ?_) (fun _ => ?_) | ((first | unfold AOpsC | unfold AOpsD | skip); simp (maxSteps := 1000000) (disch := (first | omega | assumption | (simp only [List.length_append, List.length_cons, List.length_nil, List.length_set]; omega))) only [go_sem, Sp125, SPar, Dr125, hp']))
    exact hK _ c0 u0 (set_eq hHl) (setBlk hc0 hne.symm) (by rcases hcb with ⟨h, _⟩ | ⟨h, _⟩
                                                            · exact .inl h
                                                            · simp only [List.length_append, List.length_cons, List.length_nil] at h; right; omega) (((((Ext.refl η).app _).touch _).trans (ht.mono fun c hc => .inr hc)).trans (Touch.set (.inl rfl)))
  · exact h.elim

/- (*impl.State).coarsen -/
def Sp84 (lo : Nat) : Spec := fun g args η K => match g with | 124 => SRepI lo args η K | 125 => SMco lo args η K | _ => False
theorem Sp84_ok {lo : Nat} : Sound Tryz.prog lo (Sp84 lo) := by
  intro g args η K h
  unfold Sp84 at h
  split at h
  · exact .inl (f124_ok h)
  · exact .inl (f125_ok h)
  · exact h.elim
def Dr84 : Draws := fun id => match id with | 1 => ([0, 0, 2, 6, 14, 0, 0, 64, 0, 256, 768, 1792, 0, 7936, 16128, 0, 32768, 98304, 229376, 0, 524288, 2064384, 4161536, 8388352, 16776960, 33554430, 67108863, 134217727, 268435455], [24, 3025], [(3000, 0)], (.one 0 (.one 1 (.one 2 (.one 3 (.one 4 (.one 5 (.one 6 (.one 7 (.one 8 (.one 9 (.one 10 (.one 11 (.one 12 (.one 13 (.one 14 (.one 15 (.one 16 (.one 17 (.one 18 (.one 19 (.one 20 (.one 21 (.one 22 (.one 23 (.one 24 (.one 25 (.one 26 (.one 27 (.one 28 .nil)))))))))))))))))))))))))))))) | 2 => ([0, 0, 2, 6, 14, 0, 0, 64, 0, 256, 768, 1792, 0, 7936, 16128, 0, 32768, 98304, 229376, 0, 524288, 2064384, 4161536, 8388352, 16776960, 33554430, 67108863, 134217727, 268435455], [24, 3025], [(3000, 0)], (.one 0 (.one 1 (.one 2 (.one 3 (.one 4 (.one 5 (.one 6 (.one 7 (.one 8 (.one 9 (.one 10 (.one 11 (.one 12 (.one 13 (.one 14 (.one 15 (.one 16 (.one 17 (.one 18 (.one 19 (.one 20 (.one 21 (.one 22 (.one 23 (.one 24 (.one 25 (.one 26 (.one 27 (.one 28 .nil)))))))))))))))))))))))))))))) | _ => ([], [], [], .nil)
theorem f84_ok {lo : Nat} {args : List AV} {η : List Blk} {K : AV → List Blk → Prop} (h : SSco lo args η K) : AF Tryz.prog lo 84 args η K := by
  unfold SSco at h
  split at h
  · obtain ⟨n, r, b0, b1, b2, b3, v0, v1, v2, v3, l, ms, ts, bs, j, G, q, ⟨hn, rfl, hq⟩, hP, ⟨hC, hl, hj, hpa⟩, hK⟩ := h
    rename_i p
    obtain ⟨k3, k4, k5, k6, k7, k8⟩ := celT hC
    have m1 := cells_at k7 (i := j) (by omega)
    have m2 := cells_at k7 (i := j + 1) (by omega)
    have pp := hP.pb
    have w0 := hP.n4.g0
    have w1 := hP.n4.g1
    have w2 := hP.n4.g2
    have w3 := hP.n4.g3
    have lp := blt pp
    have l1 := blt w1
    have l2 := blt w2
    have l3 := blt w3
    have hp0 := hP.p0
    have hp1 := hP.p1
    have hp2 := hP.p2
    have hp3 := hP.p3
    have d01 := hP.n4.d01
    have d02 := hP.n4.d02
    have d03 := hP.n4.d03
    have d12 := hP.n4.d12
    have d13 := hP.n4.d13
    have d23 := hP.n4.d23
    have z0 := hP.n4.n0
    have z1 := hP.n4.n1
    have z2 := hP.n4.n2
    have z3' := hP.n4.n3
    have zp := hP.np
    have eM : ms.take j ++ [ms.getD j 0 + ms.getD (j + 1) 0] ++ ms.drop (j + 2) = mrgI ms j := rfl
    have eT : ts.take j ++ [ts.getD j 0 + ts.getD (j + 1) 0] ++ ts.drop (j + 2) = mrgI ts j := rfl
    refine AF_run Sp84_ok Dr84 [] [] hm Tryz.func84 rfl (by decide) Tryz.ntmps84 rfl (by kernel_rfl) (Nat.le_of_ble_eq_true rfl) ?_; intro hlo
    repeat' (first | with_reducible refine iteI (fun _ => ?_) (fun _ => ?_) | ((first | unfold AOpsC | unfold AOpsD | skip); simp (maxSteps := 1000000) (disch := (first | omega | assumption | (simp only [List.length_append, List.length_cons, List.length_nil, List.length_set]; omega))) only [go_sem, Sp84, Dr84, pp]))
    unfold SMco
    refine ⟨r, b0, v0, _, _, _, l, j, ⟨by omega, by omega, hp0, rfl⟩, pp, w0, ⟨hl, hj, hpa⟩, fun H c0 u0 gp g0 hc0 ht => ?_⟩
    have g1 : H[b1]? = _ := ht.blk (by omega) w1
    have g2 : H[b2]? = _ := ht.blk (by omega) w2
    have g3 : H[b3]? = _ := ht.blk (by omega) w3
    have ln := ht.1
    have kp := blt gp
    have kl0 := blt g0
    have kl1 := blt g1
    have kl2 := blt g2
    have kl3 := blt g3
    have kc0 : c0 ≠ p := by rintro rfl; rw [gp] at g0; cases g0
    repeat' (first | with_reducible refine iteI (fun _ => ?_) (fun _ => ?_) | ((first | unfold AOpsC | unfold AOpsD | skip); simp (maxSteps := 1000000) (disch := (first | omega | assumption | (simp only [List.length_append, List.length_cons, List.length_nil, List.length_set]; omega))) only [go_sem, Sp84, Dr84, gp, g1]))
    unfold SRepI
    refine ⟨ms, [ms.getD j 0 + ms.getD (j + 1) 0], j, j + 2, ⟨by omega, by omega, by omega, rfl, rfl⟩, ⟨rfl, by rw [app_get kl1]; exact g1⟩, ⟨rfl, app_last _ _⟩, ⟨by omega, by simp, by simp, by omega, by omega, by simp⟩, fun H2 c1 u1 y1 hc1 ht2 => ?_⟩
    rw [eM] at y1 ⊢
    have yp : H2[p]? = _ := ht2.blk hp1 (by rw [app_get kp]; exact gp)
    have y0 : H2[c0]? = _ := ht2.blk (by omega) (by rw [app_get kl0]; exact g0)
    have y2 : H2[b2]? = _ := ht2.blk (by omega) (by rw [app_get kl2]; exact g2)
    have y3 : H2[b3]? = _ := ht2.blk (by omega) (by rw [app_get kl3]; exact g3)
    have ln2 := ht2.1
    simp only [List.length_append, List.length_cons, List.length_nil] at ln2 hc1
    have yl := blt yp
    have yl0 := blt y0
    have yl1 := blt y1
    have yl2 := blt y2
    have yl3 := blt y3
    have yc1 : c1 ≠ p := by rintro rfl; rw [yp] at y1; cases y1
    obtain ⟨E, hE⟩ : ∃ E, E = H2.set p (⟨0, 34, 5, [.int .i64 r, .sl c0 u0 0 (mrgL l j).length, .sl c1 u1 0 (mrgI ms j).length, .sl b2 v2 0 ts.length, .sl b3 v3 0 bs.length]⟩ : Blk) := ⟨_, rfl⟩
    have hE' := hE.symm
    have eq := fun c : Nat => congrArg (fun L : List Blk => L[c]?) hE
    have ep := (eq p).trans (set_eq yl)
    have e0 := (eq c0).trans (setBlk y0 kc0.symm)
    have e1 := (eq c1).trans (setBlk y1 yc1.symm)
    have e2 := (eq b2).trans (setBlk y2 hp2)
    have e3 := (eq b3).trans (setBlk y3 hp3)
    have hEl : E.length = H2.length := by rw [hE]; simp
    have kE : Keep n η E := by
      refine ⟨by omega, fun c hc => ?_⟩
      rw [hE, set_ne (by omega), ht2.2 c (by simp only [List.length_append, List.length_cons, List.length_nil]; omega) (by omega), app_get (by omega), ht.2 c (by omega) (by omega)]
    have kEq : G → E[q]? = η[q]? := fun hg => by
      obtain ⟨h1, h2, h3, h4, h5, h6⟩ := hq hg
      rw [hE, set_ne (by omega), ht2.2 q (by simp only [List.length_append, List.length_cons, List.length_nil]; omega) (by omega), app_get (by omega), ht.2 q h1 (by omega)]
    clear eq
    have el := blt ep
    have el0 := blt e0
    have el1 := blt e1
    have el2 := blt e2
    have el3 := blt e3
    repeat' (first | with_reducible refine iteI (fun _ => ?_) (fun _ => ?_) | ((first | unfold AOpsC | unfold AOpsD | skip); simp (maxSteps := 1000000) (disch := (first | omega | assumption | (simp only [List.length_append, List.length_cons, List.length_nil, List.length_set]; omega))) only [go_sem, Sp84, Dr84, yp, hE', ep, e2]))
    unfold SRepI
    refine ⟨ts, [ts.getD j 0 + ts.getD (j + 1) 0], j, j + 2, ⟨by omega, by omega, by omega, rfl, rfl⟩, ⟨rfl, by rw [app_get el2]; exact e2⟩, ⟨rfl, app_last _ _⟩, ⟨by omega, by simp, by simp, by omega, by omega, by simp⟩, fun H3 c2 u2 q2 hc2 ht3 => ?_⟩
    rw [eT] at q2 ⊢
    have qp : H3[p]? = _ := ht3.blk hp2 (by rw [app_get el]; exact ep)
    have q0 : H3[c0]? = _ := ht3.blk (by omega) (by rw [app_get el0]; exact e0)
    have q1 : H3[c1]? = _ := ht3.blk (by omega) (by rw [app_get el1]; exact e1)
    have q3 : H3[b3]? = _ := ht3.blk (by omega) (by rw [app_get el3]; exact e3)
    have ln3 := ht3.1
    simp only [List.length_append, List.length_cons, List.length_nil] at ln3 hc2
    have ql := blt qp
    have qc2 : c2 ≠ p := by rintro rfl; rw [qp] at q2; cases q2
    repeat' (first | with_reducible refine iteI (fun _ => ?_) (fun _ => ?_) | ((first | unfold AOpsC | unfold AOpsD | skip); simp (maxSteps := 1000000) (disch := (first | omega | assumption | (simp only [List.length_append, List.length_cons, List.length_nil, List.length_set]; omega))) only [go_sem, Sp84, Dr84, qp]))
    refine hK _ c0 c1 c2 u0 u1 u2 ⟨set_eq ql, ⟨setBlk q0 kc0.symm, setBlk q1 yc1.symm, setBlk q2 qc2.symm, setBlk q3 hp3, by omega, by omega, by omega, by omega, by omega, by omega, by omega, by omega, by omega, by omega⟩, zp, by omega, by omega, by omega, hp3⟩ ⟨by simp only [List.length_set]; omega, fun c hc => ?_⟩ ⟨fun hg => ?_, fun hg => ?_⟩
    · rw [set_ne (by omega), ht3.2 c (by simp only [List.length_append, List.length_cons, List.length_nil]; omega) (by omega), app_get (by omega), kE.2 c hc]
    · obtain ⟨h1, h2, h3, h4, h5, h6⟩ := hq hg
      simp only [List.length_set]
      omega
    · obtain ⟨h1, h2, h3, h4, h5, h6⟩ := hq hg
      rw [set_ne (by omega), ht3.2 q (by simp only [List.length_append, List.length_cons, List.length_nil]; omega) (by omega), app_get (by omega), kEq hg]
  · exact h.elim

end Go.Proofs.YtaalpmbopkbdiaaGreat
