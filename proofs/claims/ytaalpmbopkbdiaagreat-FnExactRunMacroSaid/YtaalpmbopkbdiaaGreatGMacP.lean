/- What functions of the program compute, said in the abstract logic; no conditions. -/
import Derived.Test.YtaalpmbopkbdiaaGreatGStepS
import Derived.Test.YtaalpmbopkbdiaaGreatGStepOk

namespace Go.Proofs.YtaalpmbopkbdiaaGreat
open Go
set_option linter.unusedSimpArgs false
set_option linter.unusedVariables false
set_option maxRecDepth 100000
set_option maxHeartbeats 8000000
attribute [local go_sem] st0 AC thenA andC locLoadB KsSW_same KsSW_grow oldLoadB noBlkB KsSL_same KsOS_same KsOS_grow pv ev put upd dstOk cv cvc binI setB Value.oneCell' EndA resA resA1 List.mapM_cons List.mapM_nil Option.pure_def Option.bind_eq_bind noLocV noLoc1 noLoc noLocs plainV cellsA newVarA putCells condA lam0 inBlockA cur lenA rowA writeA dstA appendC appendZ mapPut mapGet avoidsB avoidB clearB Array.toList_append Op.operands Call.operands newSlot Nat.zero_add Nat.add_zero Nat.succ_ne_self Nat.lt_add_one Nat.zero_lt_succ true_and and_true true_or or_true false_or or_false and_self true_implies forall_const Bool.false_eq_true Bool.true_eq_false false_implies implies_true imp_self ne_eq not_false_eq_true not_true_eq_false false_and and_false List.getElem?_toArray List.getElem?_cons_succ List.getElem?_cons_zero Option.bind_some Option.map_some Bool.not_true Bool.not_false List.getD_cons_zero List.getD_cons_succ Option.some.injEq exists_eq_left' AV.bool.injEq List.map_cons List.map_nil List.all_cons List.all_nil Bool.and_self Bool.and_true Bool.true_and List.append_nil List.cons_append List.nil_append List.length_cons List.length_nil List.drop_zero List.take_zero List.drop_succ_cons List.take_succ_cons List.take_nil List.drop_nil List.not_mem_nil List.mem_cons List.contains_nil List.contains_cons Bool.or_self Bool.or_true Bool.true_or Bool.false_or Bool.or_false Bool.and_false Bool.false_and KsS_same KsS_grow skipV KsS_ext KsSW_ext KsOS_ext rep1 rep2 rep3 rep4 rep5 List.flatten_cons List.flatten_nil partsA isPtr fillA List.size_toArray ltT ltF leT leF ltTn ltFn leTn leFn eqTi eqFi wrapId toNat1 intGet boolGet memD app_get app_last app_lst app_set app_setL app_setF set_ne set_eq gt_iff_lt ge_iff_le decide_eq_true_eq len2 len3 get20 get21 drop2 put2 get30 get31 get32 drop3 put3 putI pairEta bneTi bneFi beqTi beqFi bne_eq_false_iff_eq beq_eq_false_iff_ne beq_iff_eq bne_iff_ne Int.toNat_natCast Nat.mul_one List.length_map Bool.not_eq_true Bool.not_eq_false Bool.decide_eq_true decide_true decide_false Bool.not_eq_true' Bool.not_eq_false' decide_eq_false_iff_not eq_self Decidable.not_not
attribute [local go_sem ↓] skipC exitC retC seqC blockC condC regC drawC drawStep AOpC AOpF AOpE AEff contE_at contC_at keepC_at keepW_at keepO_at keepL_at map_parts
attribute [local go_sem] reduceCtorEq Nat.reduceLT Nat.reduceEqDiff Nat.reduceAdd Nat.reduceMul Nat.reduceLeDiff Nat.reduceSub Nat.reduceBEq Nat.reduceBNe Nat.reduceBneDiff Nat.reduceBeqDiff
attribute [local go_sem ↓] reduceIte
attribute [local go_sem] ag_32 by_32 fi_34_0 nf_32 pl_32 ps_32 sz_32 ze_32

def SMac (lo : Nat) : List AV → List Blk → (AV → List Blk → Prop) → Prop
  | [.ptr p 0 0], η, K => ∃ (n : Nat) (r : Int) (b0 b1 b2 b3 v0 v1 v2 v3 : Nat) (l : List Id3) (ms ts bs : List Int), lo ≤ n ∧ PtrS n p η r b0 b1 b2 b3 v0 v1 v2 v3 l ms ts bs ∧ okB r l ms ts bs = true ∧
      ∀ H, PtrS n p H r b0 b1 b2 b3 v0 v1 v2 v3 l (mac l ms ts bs 16).1 (mac l ms ts bs 16).2 bs → Touch (hit5 p b0 b1 b2 b3) η H → K (.tup []) H
  | _, _, _ => False
def invMac (η : List Blk) (n p : Nat) (r : Int) (b0 b1 b2 b3 v0 v1 v2 v3 : Nat) (l : List Id3) (ms ts bs : List Int) (st : St) : Prop := ∃ i : Nat, ∃ H : List Blk, (i ≤ 16) ∧ (PtrS n p H r b0 b1 b2 b3 v0 v1 v2 v3 l (mac l ms ts bs i).1 (mac l ms ts bs i).2 bs) ∧ (Touch (hit5 p b0 b1 b2 b3) η H) ∧ st.n = 15 ∧ st.τ 0 = .ptr p 0 0 ∧ st.τ 3 = .int .i64 i ∧ st.lam = lam0 ∧ st.η = H

/- (*impl.State).macro -/
def Sp106 (lo : Nat) : Spec := fun g args η K => match g with | 140 => SMov lo args η K | 141 => SActS args η K | _ => False
theorem Sp106_ok {lo : Nat} : Sound Tryz.prog lo (Sp106 lo) := by
  intro g args η K h
  unfold Sp106 at h
  split at h
  · exact .inl (f140_ok h)
  · exact .inl (f141S_ok h)
  · exact h.elim
theorem f106_ok {lo : Nat} {args : List AV} {η : List Blk} {K : AV → List Blk → Prop} (h : SMac lo args η K) : AF Tryz.prog lo 106 args η K := by
  unfold SMac at h
  split at h
  · obtain ⟨n, r, b0, b1, b2, b3, v0, v1, v2, v3, l, ms, ts, bs, hn, hP, e1, hK⟩ := h
    rename_i p
    have k1 := (okT e1).1
    have hl8 : l.length ≤ 128 := by have := mesh_len k1; omega
    have hlv := mesh_levs k1
    refine AF_run Sp106_ok D0 [] [] hm Tryz.func106 rfl (by decide) Tryz.ntmps106 rfl (by kernel_rfl) (Nat.le_of_ble_eq_true rfl) ?_; intro hlo
    repeat' (first | with_reducible refine iteI (fun _ => ?_) (fun _ => ?_) | ((first | unfold AOpsC | unfold AOpsD | skip); simp (maxSteps := 1000000) (disch := (first | omega | assumption | (simp only [List.length_append, List.length_cons, List.length_nil, List.length_set]; omega))) only [go_sem, Sp106]))
    refine ⟨invMac η n p r b0 b1 b2 b3 v0 v1 v2 v3 l ms ts bs, fun st => ctr 16 st 3, .inl ⟨0, η, Nat.zero_le _, hP, (Ext.refl η).touch _, rfl, (by first | (simp [upd]; done) | (simp [upd, *]; done) | rfl), (by first | (simp [upd]; done) | (simp [upd, *]; done) | rfl), rfl, rfl⟩, ?_⟩
    rintro ⟨n, τ, lam, η'⟩ ⟨i, H, g0, g1, g2, hn, t0, t3, hlam, hη⟩; simp only at hn t0 t3 hlam hη; subst hn hlam hη
    by_cases hlt : i < 16
    · have e2 := mac_ok e1 i
      have k3 := (okT e2).2.2.1
      have pp := g1.pb
      have w0 := g1.n4.g0
      have D1 : dec3 69 η' (.sl b0 v0 0 l.length) = l := IsR.dec3 ⟨b0, v0, rfl, w0⟩
      have O1 : ok3 69 η' (.sl b0 v0 0 l.length) := ⟨l, ⟨b0, v0, rfl, w0⟩, by omega⟩
      repeat' (first | with_reducible refine iteI (fun _ => ?_) (fun _ => ?_) | ((first | unfold AOpsC | unfold AOpsD | skip); simp (maxSteps := 1000000) (disch := (first | omega | assumption | (simp only [List.length_append, List.length_cons, List.length_nil, List.length_set]; omega))) only [go_sem, Sp106, pp, t0, t3]))
      unfold SActS
      simp only [D1]
      refine ⟨⟨O1, hlv⟩, fun H3 bl wer hbl hnb x3 => ?_⟩
      have hP3 : PtrS n p H3 r b0 b1 b2 b3 v0 v1 v2 v3 l (mac l ms ts bs i).1 (mac l ms ts bs i).2 bs := ⟨x3.blk pp, g1.n4.ext x3, g1.np, g1.p0, g1.p1, g1.p2, g1.p3⟩
      repeat' (first | with_reducible refine iteI (fun _ => ?_) (fun _ => ?_) | ((first | unfold AOpsC | unfold AOpsD | skip); simp (maxSteps := 1000000) (disch := (first | omega | assumption | (simp only [List.length_append, List.length_cons, List.length_nil, List.length_set]; omega))) only [go_sem, Sp106, t0, t3]))
      unfold SMov
      have hal := act_len l (i : Int) (l.length - 1)
      refine ⟨n, r, b0, b1, b2, b3, v0, v1, v2, v3, l, _, _, bs, actL l (i : Int), hn, hP3, e2, ⟨rfl, hbl, by unfold actL; omega⟩, act_faces k3, fun H4 hP4 t4 => ?_⟩
      repeat' (first | with_reducible refine iteI (fun _ => ?_) (fun _ => ?_) | ((first | unfold AOpsC | unfold AOpsD | skip); simp (maxSteps := 1000000) (disch := (first | omega | assumption | (simp only [List.length_append, List.length_cons, List.length_nil, List.length_set]; omega))) only [go_sem, Sp106, t0, t3]))
      refine ⟨⟨i + 1, H4, hlt, hP4, (g2.ext x3).trans t4, rfl, by simp [upd, t0], by simp [upd], rfl, rfl⟩, by simp [ctr, upd, t3]; omega⟩
    · obtain rfl : i = 16 := by omega
      repeat' (first | with_reducible refine iteI (fun _ => ?_) (fun _ => ?_) | ((first | unfold AOpsC | unfold AOpsD | skip); simp (maxSteps := 1000000) (disch := (first | omega | assumption | (simp only [List.length_append, List.length_cons, List.length_nil, List.length_set]; omega))) only [go_sem, Sp106, t0, t3]))
      exact hK _ g1 g2
  · exact h.elim

end Go.Proofs.YtaalpmbopkbdiaaGreat
