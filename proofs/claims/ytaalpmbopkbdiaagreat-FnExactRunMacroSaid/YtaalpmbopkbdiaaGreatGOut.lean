/- What functions of the program compute, said in the abstract logic; no conditions. -/
import Derived.Test.YtaalpmbopkbdiaaGreatGIn

namespace Go.Proofs.YtaalpmbopkbdiaaGreat
open Go
set_option linter.unusedSimpArgs false
set_option linter.unusedVariables false
set_option maxRecDepth 100000
set_option maxHeartbeats 8000000
attribute [local go_sem] st0 AC thenA andC locLoadB KsSW_same KsSW_grow oldLoadB noBlkB KsSL_same KsOS_same KsOS_grow pv ev put upd dstOk cv cvc binI setB Value.oneCell' EndA resA resA1 List.mapM_cons List.mapM_nil Option.pure_def Option.bind_eq_bind noLocV noLoc1 noLoc noLocs plainV cellsA newVarA putCells condA lam0 inBlockA cur lenA rowA writeA dstA appendC appendZ mapPut mapGet avoidsB avoidB clearB Array.toList_append Op.operands Call.operands newSlot Nat.zero_add Nat.add_zero Nat.succ_ne_self Nat.lt_add_one Nat.zero_lt_succ true_and and_true true_or or_true false_or or_false and_self true_implies forall_const Bool.false_eq_true Bool.true_eq_false false_implies implies_true imp_self ne_eq not_false_eq_true not_true_eq_false false_and and_false List.getElem?_toArray List.getElem?_cons_succ List.getElem?_cons_zero Option.bind_some Option.map_some Bool.not_true Bool.not_false List.getD_cons_zero List.getD_cons_succ Option.some.injEq exists_eq_left' AV.bool.injEq List.map_cons List.map_nil List.all_cons List.all_nil Bool.and_self Bool.and_true Bool.true_and List.append_nil List.cons_append List.nil_append List.length_cons List.length_nil List.drop_zero List.take_zero List.drop_succ_cons List.take_succ_cons List.take_nil List.drop_nil List.not_mem_nil List.mem_cons List.contains_nil List.contains_cons Bool.or_self Bool.or_true Bool.true_or Bool.false_or Bool.or_false Bool.and_false Bool.false_and KsS_same KsS_grow skipV KsS_ext KsSW_ext KsOS_ext rep1 rep2 rep3 rep4 rep5 List.flatten_cons List.flatten_nil partsA isPtr fillA List.size_toArray ltT ltF leT leF ltTn ltFn leTn leFn eqTi eqFi wrapId toNat1 intGet boolGet memD app_get app_last app_lst app_set app_setL app_setF set_ne set_eq gt_iff_lt ge_iff_le decide_eq_true_eq len2 len3 get20 get21 drop2 put2 get30 get31 get32 drop3 put3 putI pairEta bneTi bneFi beqTi beqFi bne_eq_false_iff_eq beq_eq_false_iff_ne beq_iff_eq bne_iff_ne Int.toNat_natCast Nat.mul_one List.length_map Bool.not_eq_true Bool.not_eq_false Bool.decide_eq_true decide_true decide_false Bool.not_eq_true' Bool.not_eq_false' decide_eq_false_iff_not eq_self Decidable.not_not
attribute [local go_sem ↓] skipC exitC retC seqC blockC condC regC drawC drawStep AOpC AOpF AOpE AEff contE_at contC_at keepC_at keepW_at keepO_at keepL_at map_parts
attribute [local go_sem] reduceCtorEq Nat.reduceLT Nat.reduceEqDiff Nat.reduceAdd Nat.reduceMul Nat.reduceLeDiff Nat.reduceSub Nat.reduceBEq Nat.reduceBNe Nat.reduceBneDiff Nat.reduceBeqDiff
attribute [local go_sem ↓] reduceIte

def shareO (t p w : Int) : Int := if inB w 1 10000000 = true ∧ inB p 0 w = true ∧ inB t 0 (1000 * w) = true then (t * p).tdiv w else 0
def leafA (t m r l : Int) : Int := if inB m 1 10000000 = true ∧ inB t 0 (1000 * m) = true ∧ inB r 0 m = true ∧ inB l 0 (m - r) = true then shareO t r m else 0
def leafBq (t m r l : Int) : Int := if inB m 1 10000000 = true ∧ inB t 0 (1000 * m) = true ∧ inB r 0 m = true ∧ inB l 0 (m - r) = true then shareO t (r + l) m - shareO t r m else 0
theorem share_bd {t p w : Int} (hw : 1 ≤ w ∧ w ≤ 10000000) (hp : 0 ≤ p ∧ p ≤ w) (ht : 0 ≤ t ∧ t ≤ 1000 * w) : 0 ≤ t * p ∧ t * p ≤ 100000000000000000 ∧ 0 ≤ (t * p).tdiv w ∧ (t * p).tdiv w ≤ 100000000000000000 := by
  have h1 : 0 ≤ t * p := Int.mul_nonneg ht.1 hp.1
  have h2 : t * p ≤ 10000000000 * p := Int.mul_le_mul_of_nonneg_right (by omega) hp.1
  have h3 : 0 ≤ (t * p).tdiv w := Int.tdiv_nonneg h1 (by omega)
  have h4 : (t * p).tdiv w ≤ t * p := Int.tdiv_le_self _ h1
  omega
theorem shareO_bd (t p w : Int) : 0 ≤ shareO t p w ∧ shareO t p w ≤ 100000000000000000 := by
  unfold shareO
  split
  · rename_i h
    exact (share_bd (inT h.1) (inT h.2.1) (inT h.2.2)).2.2
  · omega
def SShare : List AV → List Blk → (AV → List Blk → Prop) → Prop
  | [.int .i64 t, .int .i64 p, .int .i64 w], η, K => K (.int .i64 (shareO t p w)) η
  | _, _, _ => False
def SLeafO : List AV → List Blk → (AV → List Blk → Prop) → Prop
  | [.int .i64 t, .int .i64 m, .int .i64 r, .int .i64 l], η, K => K (.tup [.int .i64 (leafA t m r l), .int .i64 (leafBq t m r l)]) η
  | _, _, _ => False
theorem KT {K : AV → List Blk → Prop} {η : List Blk} {a b c d : Int} (h : K (.tup [.int .i64 a, .int .i64 b]) η) (e : a = c) (f : b = d) : K (.tup [.int .i64 c, .int .i64 d]) η := e ▸ f ▸ h

/- spec.ShareOut -/
def Sp71 (lo : Nat) : Spec := fun g args η K => match g with | 55 => SIn args η K | _ => False
theorem Sp71_ok {lo : Nat} : Sound Tryz.prog lo (Sp71 lo) := by
  intro g args η K h
  unfold Sp71 at h
  split at h
  · exact .inl (f55_ok h)
  · exact h.elim
theorem f71_ok {lo : Nat} {args : List AV} {η : List Blk} {K : AV → List Blk → Prop} (h : SShare args η K) : AF Tryz.prog lo 71 args η K := by
  unfold SShare at h
  split at h
  · rename_i t p w
    refine AF_run Sp71_ok D0 [] [.tmp 6] hm Tryz.func71 rfl (by decide) Tryz.ntmps71 rfl (by kernel_rfl) (Nat.le_of_ble_eq_true rfl) ?_; intro hlo
    cases e1 : inB w 1 10000000
    · repeat' (first | with_reducible refine iteI (fun _ => ?_) (fun _ => ?_) | ((first | unfold AOpsC | unfold AOpsD | skip); simp (maxSteps := 1000000) (disch := (first | omega | assumption | (simp only [List.length_append, List.length_cons, List.length_nil, List.length_set]; omega))) only [go_sem, Sp71, SIn, e1]))
      exact KI h (by simp [shareO, e1])
    have h1 := inT e1
    cases e2 : inB p 0 w
    · repeat' (first | with_reducible refine iteI (fun _ => ?_) (fun _ => ?_) | ((first | unfold AOpsC | unfold AOpsD | skip); simp (maxSteps := 1000000) (disch := (first | omega | assumption | (simp only [List.length_append, List.length_cons, List.length_nil, List.length_set]; omega))) only [go_sem, Sp71, SIn, e1, e2]))
      exact KI h (by simp [shareO, e2])
    have h2 := inT e2
    cases e3 : inB t 0 (1000 * w)
    · repeat' (first | with_reducible refine iteI (fun _ => ?_) (fun _ => ?_) | ((first | unfold AOpsC | unfold AOpsD | skip); simp (maxSteps := 1000000) (disch := (first | omega | assumption | (simp only [List.length_append, List.length_cons, List.length_nil, List.length_set]; omega))) only [go_sem, Sp71, SIn, e1, e2, e3]))
      exact KI h (by simp [shareO, e3])
    have h3 := inT e3
    have hb := share_bd h1 h2 h3
    have hz : ¬ w = 0 := by omega
    repeat' (first | with_reducible refine iteI (fun _ => ?_) (fun _ => ?_) | ((first | unfold AOpsC | unfold AOpsD | skip); simp (maxSteps := 1000000) (disch := (first | omega | assumption | (simp only [List.length_append, List.length_cons, List.length_nil, List.length_set]; omega))) only [go_sem, Sp71, SIn, e1, e2, e3]))
    exact KI h (by rw [shareO, if_pos ⟨e1, e2, e3⟩])
  · exact h.elim

/- impl.ShareOut -/
def Sp122 (lo : Nat) : Spec := fun g args η K => match g with | 59 => SIn args η K | _ => False
theorem Sp122_ok {lo : Nat} : Sound Tryz.prog lo (Sp122 lo) := by
  intro g args η K h
  unfold Sp122 at h
  split at h
  · exact .inl (f59_ok h)
  · exact h.elim
theorem f122_ok {lo : Nat} {args : List AV} {η : List Blk} {K : AV → List Blk → Prop} (h : SShare args η K) : AF Tryz.prog lo 122 args η K := by
  unfold SShare at h
  split at h
  · rename_i t p w
    refine AF_run Sp122_ok D0 [] [.tmp 6] hm Tryz.func122 rfl (by decide) Tryz.ntmps122 rfl (by kernel_rfl) (Nat.le_of_ble_eq_true rfl) ?_; intro hlo
    cases e1 : inB w 1 10000000
    · repeat' (first | with_reducible refine iteI (fun _ => ?_) (fun _ => ?_) | ((first | unfold AOpsC | unfold AOpsD | skip); simp (maxSteps := 1000000) (disch := (first | omega | assumption | (simp only [List.length_append, List.length_cons, List.length_nil, List.length_set]; omega))) only [go_sem, Sp122, SIn, e1]))
      exact KI h (by simp [shareO, e1])
    have h1 := inT e1
    cases e2 : inB p 0 w
    · repeat' (first | with_reducible refine iteI (fun _ => ?_) (fun _ => ?_) | ((first | unfold AOpsC | unfold AOpsD | skip); simp (maxSteps := 1000000) (disch := (first | omega | assumption | (simp only [List.length_append, List.length_cons, List.length_nil, List.length_set]; omega))) only [go_sem, Sp122, SIn, e1, e2]))
      exact KI h (by simp [shareO, e2])
    have h2 := inT e2
    cases e3 : inB t 0 (1000 * w)
    · repeat' (first | with_reducible refine iteI (fun _ => ?_) (fun _ => ?_) | ((first | unfold AOpsC | unfold AOpsD | skip); simp (maxSteps := 1000000) (disch := (first | omega | assumption | (simp only [List.length_append, List.length_cons, List.length_nil, List.length_set]; omega))) only [go_sem, Sp122, SIn, e1, e2, e3]))
      exact KI h (by simp [shareO, e3])
    have h3 := inT e3
    have hb := share_bd h1 h2 h3
    have hz : ¬ w = 0 := by omega
    repeat' (first | with_reducible refine iteI (fun _ => ?_) (fun _ => ?_) | ((first | unfold AOpsC | unfold AOpsD | skip); simp (maxSteps := 1000000) (disch := (first | omega | assumption | (simp only [List.length_append, List.length_cons, List.length_nil, List.length_set]; omega))) only [go_sem, Sp122, SIn, e1, e2, e3]))
    exact KI h (by rw [shareO, if_pos ⟨e1, e2, e3⟩])
  · exact h.elim

/- spec.LeafOut -/
def Sp137 (lo : Nat) : Spec := fun g args η K => match g with | 55 => SIn args η K | 71 => SShare args η K | _ => False
theorem Sp137_ok {lo : Nat} : Sound Tryz.prog lo (Sp137 lo) := by
  intro g args η K h
  unfold Sp137 at h
  split at h
  · exact .inl (f55_ok h)
  · exact .inl (f71_ok h)
  · exact h.elim
theorem f137_ok {lo : Nat} {args : List AV} {η : List Blk} {K : AV → List Blk → Prop} (h : SLeafO args η K) : AF Tryz.prog lo 137 args η K := by
  unfold SLeafO at h
  split at h
  · rename_i t m r l
    refine AF_run Sp137_ok D0 [] [.tmp 8, .tmp 9] hm Tryz.func137 rfl (by decide) Tryz.ntmps137 rfl (by kernel_rfl) (Nat.le_of_ble_eq_true rfl) ?_; intro hlo
    have s1 := shareO_bd t r m
    have s2 := shareO_bd t (r + l) m
    cases e1 : inB m 1 10000000
    · repeat' (first | with_reducible refine iteI (fun _ => ?_) (fun _ => ?_) | ((first | unfold AOpsC | unfold AOpsD | skip); simp (maxSteps := 1000000) (disch := (first | omega | assumption | (simp only [List.length_append, List.length_cons, List.length_nil, List.length_set]; omega))) only [go_sem, Sp137, SIn, SShare, e1]))
      exact KT h (by simp [leafA, e1]) (by simp [leafBq, e1])
    have h1 := inT e1
    cases e2 : inB t 0 (1000 * m)
    · repeat' (first | with_reducible refine iteI (fun _ => ?_) (fun _ => ?_) | ((first | unfold AOpsC | unfold AOpsD | skip); simp (maxSteps := 1000000) (disch := (first | omega | assumption | (simp only [List.length_append, List.length_cons, List.length_nil, List.length_set]; omega))) only [go_sem, Sp137, SIn, SShare, e1, e2]))
      exact KT h (by simp [leafA, e2]) (by simp [leafBq, e2])
    have h2 := inT e2
    cases e3 : inB r 0 m
    · repeat' (first | with_reducible refine iteI (fun _ => ?_) (fun _ => ?_) | ((first | unfold AOpsC | unfold AOpsD | skip); simp (maxSteps := 1000000) (disch := (first | omega | assumption | (simp only [List.length_append, List.length_cons, List.length_nil, List.length_set]; omega))) only [go_sem, Sp137, SIn, SShare, e1, e2, e3]))
      exact KT h (by simp [leafA, e3]) (by simp [leafBq, e3])
    have h3 := inT e3
    cases e4 : inB l 0 (m - r)
    · repeat' (first | with_reducible refine iteI (fun _ => ?_) (fun _ => ?_) | ((first | unfold AOpsC | unfold AOpsD | skip); simp (maxSteps := 1000000) (disch := (first | omega | assumption | (simp only [List.length_append, List.length_cons, List.length_nil, List.length_set]; omega))) only [go_sem, Sp137, SIn, SShare, e1, e2, e3, e4]))
      exact KT h (by simp [leafA, e4]) (by simp [leafBq, e4])
    have h4 := inT e4
    repeat' (first | with_reducible refine iteI (fun _ => ?_) (fun _ => ?_) | ((first | unfold AOpsC | unfold AOpsD | skip); simp (maxSteps := 1000000) (disch := (first | omega | assumption | (simp only [List.length_append, List.length_cons, List.length_nil, List.length_set]; omega))) only [go_sem, Sp137, SIn, SShare, e1, e2, e3, e4]))
    exact KT h (by rw [leafA, if_pos ⟨e1, e2, e3, e4⟩]) (by rw [leafBq, if_pos ⟨e1, e2, e3, e4⟩])
  · exact h.elim

/- impl.LeafOut -/
def Sp160 (lo : Nat) : Spec := fun g args η K => match g with | 59 => SIn args η K | 122 => SShare args η K | _ => False
theorem Sp160_ok {lo : Nat} : Sound Tryz.prog lo (Sp160 lo) := by
  intro g args η K h
  unfold Sp160 at h
  split at h
  · exact .inl (f59_ok h)
  · exact .inl (f122_ok h)
  · exact h.elim
theorem f160_ok {lo : Nat} {args : List AV} {η : List Blk} {K : AV → List Blk → Prop} (h : SLeafO args η K) : AF Tryz.prog lo 160 args η K := by
  unfold SLeafO at h
  split at h
  · rename_i t m r l
    refine AF_run Sp160_ok D0 [] [.tmp 8, .tmp 9] hm Tryz.func160 rfl (by decide) Tryz.ntmps160 rfl (by kernel_rfl) (Nat.le_of_ble_eq_true rfl) ?_; intro hlo
    have s1 := shareO_bd t r m
    have s2 := shareO_bd t (r + l) m
    cases e1 : inB m 1 10000000
    · repeat' (first | with_reducible refine iteI (fun _ => ?_) (fun _ => ?_) | ((first | unfold AOpsC | unfold AOpsD | skip); simp (maxSteps := 1000000) (disch := (first | omega | assumption | (simp only [List.length_append, List.length_cons, List.length_nil, List.length_set]; omega))) only [go_sem, Sp160, SIn, SShare, e1]))
      exact KT h (by simp [leafA, e1]) (by simp [leafBq, e1])
    have h1 := inT e1
    cases e2 : inB t 0 (1000 * m)
    · repeat' (first | with_reducible refine iteI (fun _ => ?_) (fun _ => ?_) | ((first | unfold AOpsC | unfold AOpsD | skip); simp (maxSteps := 1000000) (disch := (first | omega | assumption | (simp only [List.length_append, List.length_cons, List.length_nil, List.length_set]; omega))) only [go_sem, Sp160, SIn, SShare, e1, e2]))
      exact KT h (by simp [leafA, e2]) (by simp [leafBq, e2])
    have h2 := inT e2
    cases e3 : inB r 0 m
    · repeat' (first | with_reducible refine iteI (fun _ => ?_) (fun _ => ?_) | ((first | unfold AOpsC | unfold AOpsD | skip); simp (maxSteps := 1000000) (disch := (first | omega | assumption | (simp only [List.length_append, List.length_cons, List.length_nil, List.length_set]; omega))) only [go_sem, Sp160, SIn, SShare, e1, e2, e3]))
      exact KT h (by simp [leafA, e3]) (by simp [leafBq, e3])
    have h3 := inT e3
    cases e4 : inB l 0 (m - r)
    · repeat' (first | with_reducible refine iteI (fun _ => ?_) (fun _ => ?_) | ((first | unfold AOpsC | unfold AOpsD | skip); simp (maxSteps := 1000000) (disch := (first | omega | assumption | (simp only [List.length_append, List.length_cons, List.length_nil, List.length_set]; omega))) only [go_sem, Sp160, SIn, SShare, e1, e2, e3, e4]))
      exact KT h (by simp [leafA, e4]) (by simp [leafBq, e4])
    have h4 := inT e4
    repeat' (first | with_reducible refine iteI (fun _ => ?_) (fun _ => ?_) | ((first | unfold AOpsC | unfold AOpsD | skip); simp (maxSteps := 1000000) (disch := (first | omega | assumption | (simp only [List.length_append, List.length_cons, List.length_nil, List.length_set]; omega))) only [go_sem, Sp160, SIn, SShare, e1, e2, e3, e4]))
    exact KT h (by rw [leafA, if_pos ⟨e1, e2, e3, e4⟩]) (by rw [leafBq, if_pos ⟨e1, e2, e3, e4⟩])
  · exact h.elim

end Go.Proofs.YtaalpmbopkbdiaaGreat
