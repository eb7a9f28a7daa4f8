/- What functions of the program compute, said in the abstract logic; no conditions. -/
import Derived.Test.YtaalpmbopkbdiaaGreatGIds
import Derived.Test.YtaalpmbopkbdiaaGreatGInts
import Derived.Test.YtaalpmbopkbdiaaGreatGState

namespace Go.Proofs.YtaalpmbopkbdiaaGreat
open Go
set_option linter.unusedSimpArgs false
set_option linter.unusedVariables false
set_option maxRecDepth 100000
set_option maxHeartbeats 8000000
attribute [local go_sem] st0 AC thenA andC locLoadB KsSW_same KsSW_grow oldLoadB noBlkB KsSL_same KsOS_same KsOS_grow pv ev put upd dstOk cv cvc binI setB Value.oneCell' EndA resA resA1 List.mapM_cons List.mapM_nil Option.pure_def Option.bind_eq_bind noLocV noLoc1 noLoc noLocs plainV cellsA newVarA putCells condA lam0 inBlockA cur lenA rowA writeA dstA appendC appendZ mapPut mapGet avoidsB avoidB clearB Array.toList_append Op.operands Call.operands newSlot Nat.zero_add Nat.add_zero Nat.succ_ne_self Nat.lt_add_one Nat.zero_lt_succ true_and and_true true_or or_true false_or or_false and_self true_implies forall_const Bool.false_eq_true Bool.true_eq_false false_implies implies_true imp_self ne_eq not_false_eq_true not_true_eq_false false_and and_false List.getElem?_toArray List.getElem?_cons_succ List.getElem?_cons_zero Option.bind_some Option.map_some Bool.not_true Bool.not_false List.getD_cons_zero List.getD_cons_succ Option.some.injEq exists_eq_left' AV.bool.injEq List.map_cons List.map_nil List.all_cons List.all_nil Bool.and_self Bool.and_true Bool.true_and List.append_nil List.cons_append List.nil_append List.length_cons List.length_nil List.drop_zero List.take_zero List.drop_succ_cons List.take_succ_cons List.take_nil List.drop_nil List.not_mem_nil List.mem_cons List.contains_nil List.contains_cons Bool.or_self Bool.or_true Bool.true_or Bool.false_or Bool.or_false Bool.and_false Bool.false_and KsS_same KsS_grow skipV KsS_ext KsSW_ext KsOS_ext rep1 rep2 rep3 rep4 rep5 List.flatten_cons List.flatten_nil partsA isPtr fillA List.size_toArray ltT ltF leT leF ltTn ltFn leTn leFn eqTi eqFi wrapId toNat1 intGet boolGet memD app_get app_last app_lst app_set app_setL app_setF set_ne set_eq gt_iff_lt ge_iff_le decide_eq_true_eq len2 len3 get20 get21 drop2 put2 get30 get31 get32 drop3 put3 putI pairEta bneTi bneFi beqTi beqFi bne_eq_false_iff_eq beq_eq_false_iff_ne beq_iff_eq bne_iff_ne Int.toNat_natCast Nat.mul_one List.length_map Bool.not_eq_true Bool.not_eq_false Bool.decide_eq_true decide_true decide_false Bool.not_eq_true' Bool.not_eq_false' decide_eq_false_iff_not eq_self Decidable.not_not
attribute [local go_sem ↓] skipC exitC retC seqC blockC condC regC drawC drawStep AOpC AOpF AOpE AEff contE_at contC_at keepC_at keepW_at keepO_at keepL_at map_parts
attribute [local go_sem] reduceCtorEq Nat.reduceLT Nat.reduceEqDiff Nat.reduceAdd Nat.reduceMul Nat.reduceLeDiff Nat.reduceSub Nat.reduceBEq Nat.reduceBNe Nat.reduceBneDiff Nat.reduceBeqDiff
attribute [local go_sem ↓] reduceIte
attribute [local go_sem] ag_24 ag_25 ag_27 ag_3 ag_32 ag_34 by_24 by_25 by_27 by_3 by_32 by_34 el_25 en_3 fi_27_0 fi_27_1 fi_27_2 fi_27_3 fi_34_0 fi_34_1 fi_34_2 fi_34_3 in_3 nf_24 nf_27 nf_32 nf_34 pl_24 pl_27 pl_32 pl_34 ps_24 ps_27 ps_32 ps_34 sz_24 sz_25 sz_27 sz_3 sz_32 sz_34 ze_24 ze_25 ze_27 ze_3 ze_32 ze_34

def ROWS4 (η : List Blk) (v a b c : AV) (l : List Id3) (ms ts bs : List Int) : Prop := RowR 97 3 enc3 η v l ∧ RowI η a ms ∧ RowI η b ts ∧ RowI η c bs
def IS4 (η : List Blk) (v a b c : AV) (l : List Id3) (ms ts bs : List Int) : Prop := IsR 69 3 enc3 η v l ∧ IsI η a ms ∧ IsI η b ts ∧ IsI η c bs
def len4 (n : Nat) (l : List Id3) (ms ts bs : List Int) : Prop := l.length ≤ n ∧ ms.length ≤ n ∧ ts.length ≤ n ∧ bs.length ≤ n
theorem ROWS4.ext {η H : List Blk} {v a b c : AV} {l : List Id3} {ms ts bs : List Int} (h : ROWS4 η v a b c l ms ts bs) (k : Ext η H) : ROWS4 H v a b c l ms ts bs := ⟨h.1.ext k, h.2.1.ext k, h.2.2.1.ext k, h.2.2.2.ext k⟩
theorem IS4.ext {η H : List Blk} {v a b c : AV} {l : List Id3} {ms ts bs : List Int} (h : IS4 η v a b c l ms ts bs) (k : Ext η H) : IS4 H v a b c l ms ts bs := ⟨h.1.ext k, h.2.1.ext k, h.2.2.1.ext k, h.2.2.2.ext k⟩
theorem ROWS4.noLoc {η : List Blk} {v a b c : AV} {l : List Id3} {ms ts bs : List Int} (h : ROWS4 η v a b c l ms ts bs) : Proofs.YtaalpmbopkbdiaaGreat.noLoc v = true ∧ Proofs.YtaalpmbopkbdiaaGreat.noLoc a = true ∧ Proofs.YtaalpmbopkbdiaaGreat.noLoc b = true ∧ Proofs.YtaalpmbopkbdiaaGreat.noLoc c = true := ⟨(noLocR h.1).2, (noLocI h.2.1).2, (noLocI h.2.2.1).2, (noLocI h.2.2.2).2⟩
theorem ROWS4.noLoc1 {η : List Blk} {v a b c : AV} {l : List Id3} {ms ts bs : List Int} (h : ROWS4 η v a b c l ms ts bs) : Proofs.YtaalpmbopkbdiaaGreat.noLoc1 v = true ∧ Proofs.YtaalpmbopkbdiaaGreat.noLoc1 a = true ∧ Proofs.YtaalpmbopkbdiaaGreat.noLoc1 b = true ∧ Proofs.YtaalpmbopkbdiaaGreat.noLoc1 c = true := ⟨(noLocR h.1).1, (noLocI h.2.1).1, (noLocI h.2.2.1).1, (noLocI h.2.2.2).1⟩
def SEqState : List AV → List Blk → (AV → List Blk → Prop) → Prop
  | [.agg [.int .i64 r, v, a, b, c], .agg [.int .i64 q, v', a', b', c']], η, K => ∃ (l : List Id3) (ms ts bs : List Int) (l' : List Id3) (ms' ts' bs' : List Int), IS4 η v a b c l ms ts bs ∧ IS4 η v' a' b' c' l' ms' ts' bs' ∧ len4 1048576 l ms ts bs ∧ K (.bool (decide (r = q ∧ l = l' ∧ ms = ms' ∧ ts = ts' ∧ bs = bs'))) η
  | _, _, _ => False
def SSzI : List AV → List Blk → (AV → List Blk → Prop) → Prop
  | [v, .int .i64 c], η, K => ∃ l : List Int, RowI η v l ∧ l.length ≤ maxLen ∧ 0 ≤ c ∧ c ≤ 1048576 ∧ K (.int .i64 (szI l.length c)) η
  | _, _, _ => False
def sz4 (n m k j : Nat) : Int := if (n : Int) + m + k + j ≤ 1048576 then 1048576 - (n + m + k + j) else -1
def SSzState : List AV → List Blk → (AV → List Blk → Prop) → Prop
  | [.agg [.int .i64 r, v, a, b, c], .int .i64 n], η, K => n = 1048576 ∧ ∃ (l : List Id3) (ms ts bs : List Int), ROWS4 η v a b c l ms ts bs ∧ len4 maxLen l ms ts bs ∧ K (.int .i64 (sz4 l.length ms.length ts.length bs.length)) η
  | _, _, _ => False

/- laws.szIntS -/
theorem f26_ok {lo : Nat} {args : List AV} {η : List Blk} {K : AV → List Blk → Prop} (h : SSzI args η K) : AF Tryz.prog lo 26 args η K := by
  unfold SSzI at h
  split at h
  · obtain ⟨l, hr, hl, h0, h1, hK⟩ := h
    have hml : maxLen = 9223372036854775807 := rfl
    rename_i c
    unfold szI at hK
    refine AF_run noSp_ok D0 [] [.tmp 4] hm Tryz.func26 rfl (by decide) Tryz.ntmps26 rfl (by kernel_rfl) (Nat.le_of_ble_eq_true rfl) ?_; intro hlo
    rcases hr with ⟨rfl, rfl⟩ | ⟨b, ver, rfl, hb⟩
    · repeat' (first | with_reducible refine iteI (fun _ => ?_) (fun _ => ?_) | ((first | unfold AOpsC | unfold AOpsD | skip); simp (maxSteps := 1000000) (disch := (first | omega | assumption | (simp only [List.length_append, List.length_cons, List.length_nil, List.length_set]; omega))) only [go_sem, AOpsD]))
      simpa [h0] using hK
    · repeat' (first | with_reducible refine iteI (fun _ => ?_) (fun _ => ?_) | ((first | unfold AOpsC | unfold AOpsD | skip); simp (maxSteps := 1000000) (disch := (first | omega | assumption | (simp only [List.length_append, List.length_cons, List.length_nil, List.length_set]; omega))) only [go_sem, AOpsD, hb]))
      · rw [if_neg (by omega)] at hK
        exact hK
      · rw [if_pos (by omega)] at hK
        exact hK
  · exact h.elim

/- laws.toState -/
/- laws.eqState -/
def Sp13 (lo : Nat) : Spec := fun g args η K => match g with | 14 => SEqMesh args η K | 46 => SEqI args η K | _ => False
theorem Sp13_ok {lo : Nat} : Sound Tryz.prog lo (Sp13 lo) := by
  intro g args η K h
  unfold Sp13 at h
  split at h
  · exact .inl (f14_ok h)
  · exact .inl (f46_ok h)
  · exact h.elim
theorem f13_ok {lo : Nat} {args : List AV} {η : List Blk} {K : AV → List Blk → Prop} (h : SEqState args η K) : AF Tryz.prog lo 13 args η K := by
  unfold SEqState at h
  split at h
  · obtain ⟨l, ms, ts, bs, l', ms', ts', bs', hs, hs', ⟨n1, n2, n3, n4⟩, hK⟩ := h
    rename_i r _ _ _ _ q _ _ _ _
    obtain ⟨k1, k2, k3, k4⟩ := hs
    obtain ⟨k1', k2', k3', k4'⟩ := hs'
    have w1 := k1
    have w2 := k2
    have w3 := k3
    have w4 := k4
    have w1' := k1'
    have w2' := k2'
    have w3' := k3'
    have w4' := k4'
    obtain ⟨b0, v0, rfl, hb0⟩ := k1
    obtain ⟨b1, v1, rfl, hb1⟩ := k2
    obtain ⟨b2, v2, rfl, hb2⟩ := k3
    obtain ⟨b3, v3, rfl, hb3⟩ := k4
    obtain ⟨b4, v4, rfl, hb4⟩ := k1'
    obtain ⟨b5, v5, rfl, hb5⟩ := k2'
    obtain ⟨b6, v6, rfl, hb6⟩ := k3'
    obtain ⟨b7, v7, rfl, hb7⟩ := k4'
    refine AF_run Sp13_ok D0 [] [.tmp 4] hm Tryz.func13 rfl (by decide) Tryz.ntmps13 rfl (by kernel_rfl) (Nat.le_of_ble_eq_true rfl) ?_; intro hlo
    repeat' (first | with_reducible refine iteI (fun _ => ?_) (fun _ => ?_) | ((first | unfold AOpsC | unfold AOpsD | skip); simp (maxSteps := 1000000) (disch := (first | omega | assumption | (simp only [List.length_append, List.length_cons, List.length_nil, List.length_set]; omega))) only [go_sem, Sp13]))
    unfold SEqMesh
    refine ⟨l, l', w1, w1', n1, ?_⟩
    by_cases e1 : r = q ∧ l = l'
    case neg =>
      have e1' : (decide (r = q) && decide (l = l')) = false := by simpa [Bool.and_eq_false_iff] using (fun h h' => e1 ⟨h, h'⟩)
      rw [e1']
      repeat' (first | with_reducible refine iteI (fun _ => ?_) (fun _ => ?_) | ((first | unfold AOpsC | unfold AOpsD | skip); simp (maxSteps := 1000000) (disch := (first | omega | assumption | (simp only [List.length_append, List.length_cons, List.length_nil, List.length_set]; omega))) only [go_sem, Sp13]))
      exact KB hK (by simp; intro h1 h2; exact absurd ⟨h1, h2⟩ e1)
    have e1' : (decide (r = q) && decide (l = l')) = true := by simp [e1.1, e1.2]
    rw [e1']
    repeat' (first | with_reducible refine iteI (fun _ => ?_) (fun _ => ?_) | ((first | unfold AOpsC | unfold AOpsD | skip); simp (maxSteps := 1000000) (disch := (first | omega | assumption | (simp only [List.length_append, List.length_cons, List.length_nil, List.length_set]; omega))) only [go_sem, Sp13]))
    unfold SEqI
    refine ⟨ms, ms', w2.row, w2'.row, n2, ?_⟩
    by_cases e2 : ms = ms'
    case neg =>
      repeat' (first | with_reducible refine iteI (fun _ => ?_) (fun _ => ?_) | ((first | unfold AOpsC | unfold AOpsD | skip); simp (maxSteps := 1000000) (disch := (first | omega | assumption | (simp only [List.length_append, List.length_cons, List.length_nil, List.length_set]; omega))) only [go_sem, Sp13, e2]))
      exact KB hK (by simp [e2])
    repeat' (first | with_reducible refine iteI (fun _ => ?_) (fun _ => ?_) | ((first | unfold AOpsC | unfold AOpsD | skip); simp (maxSteps := 1000000) (disch := (first | omega | assumption | (simp only [List.length_append, List.length_cons, List.length_nil, List.length_set]; omega))) only [go_sem, Sp13, e2]))
    unfold SEqI
    refine ⟨ts, ts', w3.row, w3'.row, n3, ?_⟩
    by_cases e3 : ts = ts'
    case neg =>
      repeat' (first | with_reducible refine iteI (fun _ => ?_) (fun _ => ?_) | ((first | unfold AOpsC | unfold AOpsD | skip); simp (maxSteps := 1000000) (disch := (first | omega | assumption | (simp only [List.length_append, List.length_cons, List.length_nil, List.length_set]; omega))) only [go_sem, Sp13, e3]))
      exact KB hK (by simp [e3])
    repeat' (first | with_reducible refine iteI (fun _ => ?_) (fun _ => ?_) | ((first | unfold AOpsC | unfold AOpsD | skip); simp (maxSteps := 1000000) (disch := (first | omega | assumption | (simp only [List.length_append, List.length_cons, List.length_nil, List.length_set]; omega))) only [go_sem, Sp13, e3]))
    unfold SEqI
    refine ⟨bs, bs', w4.row, w4'.row, n4, ?_⟩
    by_cases e4 : bs = bs'
    case neg =>
      repeat' (first | with_reducible refine iteI (fun _ => ?_) (fun _ => ?_) | ((first | unfold AOpsC | unfold AOpsD | skip); simp (maxSteps := 1000000) (disch := (first | omega | assumption | (simp only [List.length_append, List.length_cons, List.length_nil, List.length_set]; omega))) only [go_sem, Sp13, e4]))
      exact KB hK (by simp [e4])
    repeat' (first | with_reducible refine iteI (fun _ => ?_) (fun _ => ?_) | ((first | unfold AOpsC | unfold AOpsD | skip); simp (maxSteps := 1000000) (disch := (first | omega | assumption | (simp only [List.length_append, List.length_cons, List.length_nil, List.length_set]; omega))) only [go_sem, Sp13, e4]))
    exact KB hK (by simp [e1.1, e1.2, e2, e3, e4])
  · exact h.elim

/- laws.szState -/
def Sp7 (lo : Nat) : Spec := fun g args η K => match g with | 8 => SSzMesh args η K | 26 => SSzI args η K | _ => False
theorem Sp7_ok {lo : Nat} : Sound Tryz.prog lo (Sp7 lo) := by
  intro g args η K h
  unfold Sp7 at h
  split at h
  · exact .inl (f8_ok h)
  · exact .inl (f26_ok h)
  · exact h.elim
theorem f7_ok {lo : Nat} {args : List AV} {η : List Blk} {K : AV → List Blk → Prop} (h : SSzState args η K) : AF Tryz.prog lo 7 args η K := by
  unfold SSzState at h
  split at h
  · obtain ⟨rfl, l, ms, ts, bs, hr, ⟨n1, n2, n3, n4⟩, hK⟩ := h
    obtain ⟨q1, q2, q3, q4⟩ := hr.noLoc
    obtain ⟨p1, p2, p3, p4⟩ := hr.noLoc1
    obtain ⟨hr1, hr2, hr3, hr4⟩ := hr
    have hml : maxLen = 9223372036854775807 := rfl
    unfold sz4 at hK
    refine AF_run Sp7_ok D0 [] [.tmp 4] hm Tryz.func7 rfl (by decide) Tryz.ntmps7 rfl (by kernel_rfl) (Nat.le_of_ble_eq_true rfl) ?_; intro hlo
    repeat' (first | with_reducible refine iteI (fun _ => ?_) (fun _ => ?_) | ((first | unfold AOpsC | unfold AOpsD | skip); simp (maxSteps := 1000000) (disch := (first | omega | assumption | (simp only [List.length_append, List.length_cons, List.length_nil, List.length_set]; omega))) only [go_sem, Sp7, ↓q1, ↓q2, ↓q3, ↓q4, ↓p1, ↓p2, ↓p3, ↓p4]))
    unfold SSzMesh
    refine ⟨l, hr1, n1, by omega, by omega, ?_⟩
    by_cases e1 : (l.length : Int) ≤ 1048576
    case neg =>
      rw [szI_neg e1]
      rw [if_neg (by omega)] at hK
      repeat' (first | with_reducible refine iteI (fun _ => ?_) (fun _ => ?_) | ((first | unfold AOpsC | unfold AOpsD | skip); simp (maxSteps := 1000000) (disch := (first | omega | assumption | (simp only [List.length_append, List.length_cons, List.length_nil, List.length_set]; omega))) only [go_sem, Sp7]))
      exact hK
    rw [szI_pos e1]
    repeat' (first | with_reducible refine iteI (fun _ => ?_) (fun _ => ?_) | ((first | unfold AOpsC | unfold AOpsD | skip); simp (maxSteps := 1000000) (disch := (first | omega | assumption | (simp only [List.length_append, List.length_cons, List.length_nil, List.length_set]; omega))) only [go_sem, Sp7, ↓q1, ↓q2, ↓q3, ↓q4, ↓p1, ↓p2, ↓p3, ↓p4]))
    unfold SSzI
    refine ⟨ms, hr2, n2, by omega, by omega, ?_⟩
    by_cases e2 : (ms.length : Int) ≤ 1048576 - l.length
    case neg =>
      rw [szI_neg e2]
      rw [if_neg (by omega)] at hK
      repeat' (first | with_reducible refine iteI (fun _ => ?_) (fun _ => ?_) | ((first | unfold AOpsC | unfold AOpsD | skip); simp (maxSteps := 1000000) (disch := (first | omega | assumption | (simp only [List.length_append, List.length_cons, List.length_nil, List.length_set]; omega))) only [go_sem, Sp7]))
      exact hK
    rw [szI_pos e2]
    repeat' (first | with_reducible refine iteI (fun _ => ?_) (fun _ => ?_) | ((first | unfold AOpsC | unfold AOpsD | skip); simp (maxSteps := 1000000) (disch := (first | omega | assumption | (simp only [List.length_append, List.length_cons, List.length_nil, List.length_set]; omega))) only [go_sem, Sp7, ↓q1, ↓q2, ↓q3, ↓q4, ↓p1, ↓p2, ↓p3, ↓p4]))
    unfold SSzI
    refine ⟨ts, hr3, n3, by omega, by omega, ?_⟩
    by_cases e3 : (ts.length : Int) ≤ 1048576 - l.length - ms.length
    case neg =>
      rw [szI_neg e3]
      rw [if_neg (by omega)] at hK
      repeat' (first | with_reducible refine iteI (fun _ => ?_) (fun _ => ?_) | ((first | unfold AOpsC | unfold AOpsD | skip); simp (maxSteps := 1000000) (disch := (first | omega | assumption | (simp only [List.length_append, List.length_cons, List.length_nil, List.length_set]; omega))) only [go_sem, Sp7]))
      exact hK
    rw [szI_pos e3]
    repeat' (first | with_reducible refine iteI (fun _ => ?_) (fun _ => ?_) | ((first | unfold AOpsC | unfold AOpsD | skip); simp (maxSteps := 1000000) (disch := (first | omega | assumption | (simp only [List.length_append, List.length_cons, List.length_nil, List.length_set]; omega))) only [go_sem, Sp7, ↓q1, ↓q2, ↓q3, ↓q4, ↓p1, ↓p2, ↓p3, ↓p4]))
    unfold SSzI
    refine ⟨bs, hr4, n4, by omega, by omega, ?_⟩
    by_cases e4 : (bs.length : Int) ≤ 1048576 - l.length - ms.length - ts.length
    case neg =>
      rw [szI_neg e4]
      rw [if_neg (by omega)] at hK
      repeat' (first | with_reducible refine iteI (fun _ => ?_) (fun _ => ?_) | ((first | unfold AOpsC | unfold AOpsD | skip); simp (maxSteps := 1000000) (disch := (first | omega | assumption | (simp only [List.length_append, List.length_cons, List.length_nil, List.length_set]; omega))) only [go_sem, Sp7]))
      exact hK
    rw [szI_pos e4]
    rw [if_pos (by omega)] at hK
    repeat' (first | with_reducible refine iteI (fun _ => ?_) (fun _ => ?_) | ((first | unfold AOpsC | unfold AOpsD | skip); simp (maxSteps := 1000000) (disch := (first | omega | assumption | (simp only [List.length_append, List.length_cons, List.length_nil, List.length_set]; omega))) only [go_sem, Sp7, ↓q1, ↓q2, ↓q3, ↓q4, ↓p1, ↓p2, ↓p3, ↓p4]))
    exact KI hK (by omega)
  · exact h.elim

end Go.Proofs.YtaalpmbopkbdiaaGreat
