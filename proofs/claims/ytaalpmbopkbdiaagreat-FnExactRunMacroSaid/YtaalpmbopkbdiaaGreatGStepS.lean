/- What functions of the program compute, said in the abstract logic; no conditions. -/
import Derived.Test.YtaalpmbopkbdiaaGreatGMoveW
import Derived.Test.YtaalpmbopkbdiaaGreatGStepQ
import Derived.Test.YtaalpmbopkbdiaaGreatGResS

namespace Go.Proofs.YtaalpmbopkbdiaaGreat
open Go
set_option linter.unusedSimpArgs false
set_option linter.unusedVariables false
set_option maxRecDepth 100000
set_option maxHeartbeats 8000000
attribute [local go_sem] st0 AC thenA andC locLoadB KsSW_same KsSW_grow oldLoadB noBlkB KsSL_same KsOS_same KsOS_grow pv ev put upd dstOk cv cvc binI setB Value.oneCell' EndA resA resA1 List.mapM_cons List.mapM_nil Option.pure_def Option.bind_eq_bind noLocV noLoc1 noLoc noLocs plainV cellsA newVarA putCells condA lam0 inBlockA cur lenA rowA writeA dstA appendC appendZ mapPut mapGet avoidsB avoidB clearB Array.toList_append Op.operands Call.operands newSlot Nat.zero_add Nat.add_zero Nat.succ_ne_self Nat.lt_add_one Nat.zero_lt_succ true_and and_true true_or or_true false_or or_false and_self true_implies forall_const Bool.false_eq_true Bool.true_eq_false false_implies implies_true imp_self ne_eq not_false_eq_true not_true_eq_false false_and and_false List.getElem?_toArray List.getElem?_cons_succ List.getElem?_cons_zero Option.bind_some Option.map_some Bool.not_true Bool.not_false List.getD_cons_zero List.getD_cons_succ Option.some.injEq exists_eq_left' AV.bool.injEq List.map_cons List.map_nil List.all_cons List.all_nil Bool.and_self Bool.and_true Bool.true_and List.append_nil List.cons_append List.nil_append List.length_cons List.length_nil List.drop_zero List.take_zero List.drop_succ_cons List.take_succ_cons List.take_nil List.drop_nil List.not_mem_nil List.mem_cons List.contains_nil List.contains_cons Bool.or_self Bool.or_true Bool.true_or Bool.false_or Bool.or_false Bool.and_false Bool.false_and KsS_same KsS_grow skipV KsS_ext KsSW_ext KsOS_ext rep1 rep2 rep3 rep4 rep5 List.flatten_cons List.flatten_nil partsA isPtr fillA List.size_toArray ltT ltF leT leF ltTn ltFn leTn leFn eqTi eqFi wrapId toNat1 intGet boolGet memD app_get app_last app_lst app_set app_setL app_setF set_ne set_eq gt_iff_lt ge_iff_le decide_eq_true_eq len2 len3 get20 get21 drop2 put2 get30 get31 get32 drop3 put3 putI pairEta bneTi bneFi beqTi beqFi bne_eq_false_iff_eq beq_eq_false_iff_ne beq_iff_eq bne_iff_ne Int.toNat_natCast Nat.mul_one List.length_map Bool.not_eq_true Bool.not_eq_false Bool.decide_eq_true decide_true decide_false Bool.not_eq_true' Bool.not_eq_false' decide_eq_false_iff_not eq_self Decidable.not_not
attribute [local go_sem ↓] skipC exitC retC seqC blockC condC regC drawC drawStep AOpC AOpF AOpE AEff contE_at contC_at keepC_at keepW_at keepO_at keepL_at map_parts
attribute [local go_sem] reduceCtorEq Nat.reduceLT Nat.reduceEqDiff Nat.reduceAdd Nat.reduceMul Nat.reduceLeDiff Nat.reduceSub Nat.reduceBEq Nat.reduceBNe Nat.reduceBneDiff Nat.reduceBeqDiff
attribute [local go_sem ↓] reduceIte
attribute [local go_sem] ag_25 ag_3 ag_30 ag_32 ag_69 by_25 by_3 by_30 by_32 by_69 el_25 el_30 en_3 fi_32_1 in_3 nf_32 nf_69 pl_32 pl_69 ps_32 ps_69 sz_25 sz_3 sz_30 sz_32 sz_69 ze_25 ze_3 ze_30 ze_32 ze_69

def SActS : List AV → List Blk → (AV → List Blk → Prop) → Prop
  | [.agg [.int .i64 r, v], .int .i64 t], η, K => (ok3 69 η v ∧ levs (dec3 69 η v)) ∧ ∀ H bl wer, H[bl]? = some ⟨wer, 3, 1, (actL (dec3 69 η v) t).map (.int .i64)⟩ → η.length ≤ bl → Ext η H → K (.sl bl wer 0 (actL (dec3 69 η v) t).length) H
  | _, _, _ => False

def invAcjI (η : List Blk) (r : Int) (l : List Id3) (v : AV) (t : Int) (st : St) : Prop := ∃ i : Nat, ∃ H : List Blk, ∃ bl : Nat, ∃ wer : Nat, (i ≤ l.length - 1) ∧ (Ext η H) ∧ (η.length ≤ bl) ∧ (H[bl]? = some ⟨wer, 3, 1, (actN l t i).map (.int .i64)⟩) ∧ st.n = 26 ∧ st.τ 1 = .int .i64 t ∧ st.τ 2 = .loc 2 1 0 ∧ st.τ 5 = .sl bl wer 0 (actN l t i).length ∧ st.τ 11 = .int .i64 ((l.length : Int) - 1) ∧ st.τ 12 = .int .i64 i ∧ st.lam 2 = ⟨1, [.int .i64 r, v]⟩ ∧ st.η = H

/- (impl.Mesh).active -/
def Sp141S (lo : Nat) : Spec := fun g args η K => match g with | 161 => SIsAct args η K | 162 => SFace args η K | _ => False
theorem Sp141S_ok {lo : Nat} : Sound Tryz.prog lo (Sp141S lo) := by
  intro g args η K h
  unfold Sp141S at h
  split at h
  · exact .inl (f161_ok h)
  · exact .inl (f162_ok h)
  · exact h.elim
theorem f141S_ok {lo : Nat} {args : List AV} {η : List Blk} {K : AV → List Blk → Prop} (h : SActS args η K) : AF Tryz.prog lo 141 args η K := by
  unfold SActS at h
  split at h
  · obtain ⟨⟨⟨l, hr, hl⟩, hlv⟩, hK⟩ := h
    rename_i r _ t
    have d1 := hr.dec3
    have o1 : ok3 69 _ _ := ⟨l, hr, hl⟩
    simp only [d1] at hK hlv
    obtain ⟨b, ver, rfl, hb⟩ := hr
    have hbl := blt hb
    refine AF_run Sp141S_ok D0 [] [.tmp 4] hm Tryz.func141 rfl (by decide) Tryz.ntmps141 rfl (by kernel_rfl) (Nat.le_of_ble_eq_true rfl) ?_; intro hlo
    repeat' (first | with_reducible refine iteI (fun _ => ?_) (fun _ => ?_) | ((first | unfold AOpsC | unfold AOpsD | skip); simp (maxSteps := 1000000) (disch := (first | omega | assumption | (simp only [List.length_append, List.length_cons, List.length_nil, List.length_set]; omega))) only [go_sem, Sp141S, SIsAct, SFace, hb, d1, o1]))
    refine ⟨invAcjI η r l (.sl b ver 0 l.length) t, fun st => ctr l.length st 12, .inr ⟨5, 3, 1, Nat.le_of_ble_eq_true rfl, rfl, 0, _, η.length, 0, Nat.zero_le _, (Ext.refl η).app _, Nat.le_refl _, by simp [RecE, actN], rfl, by simp [RecE, upd, actN], by simp [RecE, upd, actN], by simp [RecE, upd, actN], by simp [RecE, upd, actN], by simp [RecE, upd, actN], rfl, rfl⟩, ?_⟩
    rintro ⟨n, τ, lam, η'⟩ ⟨i, H, bl, wer, g0, g1, g2, g3, hn, t1, t2, t5, t11, t12, l2, hη⟩; simp only at hn t1 t2 t5 t11 t12 l2 hη; subst hn hη
    have hb' := g1.blk hb
    have d1' : dec3 69 η' (.sl b ver 0 l.length) = l := IsR.dec3 ⟨b, ver, rfl, hb'⟩
    have o1' : ok3 69 η' (.sl b ver 0 l.length) := ⟨l, ⟨b, ver, rfl, hb'⟩, hl⟩
    have hHl := blt g3
    have hal := act_len l t i
    by_cases hlt : i + 1 < l.length
    · cases e2 : actB t (faceI l i)
      · have hac : actN l t (i + 1) = actN l t i := by rw [actN, e2]; rfl
        repeat' (first | with_reducible refine iteI (fun _ => ?_) (fun _ => ?_) | ((first | unfold AOpsC | unfold AOpsD | skip); simp (maxSteps := 1000000) (disch := (first | omega | assumption | (simp only [List.length_append, List.length_cons, List.length_nil, List.length_set]; omega))) only [go_sem, Sp141S, SIsAct, SFace, hb', d1', o1', hlv, t1, t2, t5, t11, t12, l2, e2]))
        refine ⟨⟨i + 1, _, bl, wer, by omega, g1, g2, by rw [hac]; exact g3, rfl, by simp [upd, hac, t1, t2, t5, t11, t12], by simp [upd, hac, t1, t2, t5, t11, t12], by simp [upd, hac, t1, t2, t5, t11, t12], by simp [upd, hac, t1, t2, t5, t11, t12], by simp [upd, hac, t1, t2, t5, t11, t12], by simp [upd, l2], rfl⟩, by simp [ctr, upd, t12]; omega⟩
      · have hac : actN l t (i + 1) = actN l t i ++ [(i : Int)] := by rw [actN, e2]; rfl
        repeat' (first | with_reducible refine iteI (fun _ => ?_) (fun _ => ?_) | ((first | unfold AOpsC | unfold AOpsD | skip); simp (maxSteps := 1000000) (disch := (first | omega | assumption | (simp only [List.length_append, List.length_cons, List.length_nil, List.length_set]; omega))) only [go_sem, Sp141S, SIsAct, SFace, hb', d1', o1', hlv, t1, t2, t5, t11, t12, l2, e2, g3, takeMap]))
        refine ⟨⟨i + 1, _, bl, wer + 1, by omega, (g1.set g2 _).app _, g2, by rw [hac, app_get (by simpa using hHl), set_eq hHl]; try simp, rfl, by simp [upd, hac, t1, t2, t5, t11, t12], by simp [upd, hac, t1, t2, t5, t11, t12], by simp [upd, hac, t1, t2, t5, t11, t12], by simp [upd, hac, t1, t2, t5, t11, t12], by simp [upd, hac, t1, t2, t5, t11, t12], by simp [upd, l2], rfl⟩, by simp [ctr, upd, t12]; omega⟩
    · obtain rfl : i = l.length - 1 := by omega
      repeat' (first | with_reducible refine iteI (fun _ => ?_) (fun _ => ?_) | ((first | unfold AOpsC | unfold AOpsD | skip); simp (maxSteps := 1000000) (disch := (first | omega | assumption | (simp only [List.length_append, List.length_cons, List.length_nil, List.length_set]; omega))) only [go_sem, Sp141S, SIsAct, SFace, hb', d1', o1', hlv, t1, t2, t5, t11, t12, l2]))
      exact hK _ _ _ g3 g2 g1
  · exact h.elim

end Go.Proofs.YtaalpmbopkbdiaaGreat
