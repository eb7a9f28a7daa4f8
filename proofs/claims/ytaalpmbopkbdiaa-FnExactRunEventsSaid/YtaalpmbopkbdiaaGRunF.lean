/- What functions of the program compute, said in the abstract logic; no conditions. -/
import Derived.Test.YtaalpmbopkbdiaaGRunG

namespace Go.Proofs.Ytaalpmbopkbdiaa
open Go
set_option linter.unusedSimpArgs false
set_option linter.unusedVariables false
set_option maxRecDepth 100000
set_option maxHeartbeats 8000000
attribute [local go_sem] st0 AC thenA andC locLoadB KsSW_same KsSW_grow oldLoadB noBlkB KsSL_same KsOS_same KsOS_grow pv ev put upd dstOk cv cvc binI setB Value.oneCell' EndA resA resA1 List.mapM_cons List.mapM_nil Option.pure_def Option.bind_eq_bind noLocV noLoc1 noLoc noLocs plainV cellsA newVarA putCells condA lam0 inBlockA cur lenA rowA writeA dstA appendC appendZ avoidsB avoidB clearB Array.toList_append Op.operands Call.operands newSlot Nat.zero_add Nat.add_zero Nat.succ_ne_self Nat.lt_add_one Nat.zero_lt_succ true_and and_true true_or or_true false_or or_false and_self true_implies forall_const Bool.false_eq_true Bool.true_eq_false false_implies implies_true imp_self ne_eq not_false_eq_true not_true_eq_false false_and and_false List.getElem?_toArray List.getElem?_cons_succ List.getElem?_cons_zero Option.bind_some Option.map_some Bool.not_true Bool.not_false List.getD_cons_zero List.getD_cons_succ Option.some.injEq exists_eq_left' AV.bool.injEq List.map_cons List.map_nil List.all_cons List.all_nil Bool.and_self Bool.and_true Bool.true_and List.append_nil List.cons_append List.nil_append List.length_cons List.length_nil List.drop_zero List.take_zero List.drop_succ_cons List.take_succ_cons List.take_nil List.drop_nil List.not_mem_nil List.mem_cons List.contains_nil List.contains_cons Bool.or_self Bool.or_true Bool.true_or Bool.false_or Bool.or_false Bool.and_false Bool.false_and KsS_same KsS_grow skipV KsS_ext KsSW_ext KsOS_ext rep1 rep2 rep3 rep4 rep5 List.flatten_cons List.flatten_nil partsA isPtr fillA List.size_toArray ltT ltF leT leF ltTn ltFn leTn leFn eqTi eqFi wrapId toNat1 intGet boolGet memD app_get app_last app_lst app_set app_setL app_setF set_ne set_eq gt_iff_lt ge_iff_le decide_eq_true_eq len2 len3 get20 get21 drop2 put2 get30 get31 get32 drop3 put3 putI pairEta bneTi bneFi beqTi beqFi bne_eq_false_iff_eq beq_eq_false_iff_ne beq_iff_eq bne_iff_ne Int.toNat_natCast Nat.mul_one List.length_map Bool.not_eq_true Bool.not_eq_false Bool.decide_eq_true decide_true decide_false Bool.not_eq_true' Bool.not_eq_false' decide_eq_false_iff_not eq_self Decidable.not_not

def SFit : List AV → List Blk → (AV → List Blk → Prop) → Prop
  | [.int .i64 n, w], η, K => ∃ es : List (Int × Int), (0 ≤ n ∧ n ≤ 1000000) ∧ (IsR 76 2 enc2 η w es ∧ es.length ≤ 1048576) ∧ ∀ H, Ext η H → K (.bool (ftsE (n.toNat + 1) es es.length)) H
  | _, _, _ => False
def SRvE : List AV → List Blk → (AV → List Blk → Prop) → Prop
  | [.agg [.int .i64 r, v, a, b, c], w], η, K => ((ok3 63 η v ∧ okI η a ∧ okI η b ∧ okI η c) ∧ ok2 76 η w) ∧ ∀ H b0 b1 b2 b3 v0 v1 v2 v3, New4 η.length H b0 b1 b2 b3 v0 v1 v2 v3 (dec3 63 η v) (rvR r (dec3 63 η v) (decI η a) (decI η b) (decI η c) (dec2 76 η w)).1 (rvR r (dec3 63 η v) (decI η a) (decI η b) (decI η c) (dec2 76 η w)).2 (decI η c) → Ext η H →
      K (.agg [.int .i64 r, .sl b0 v0 0 (dec3 63 η v).length, .sl b1 v1 0 (rvR r (dec3 63 η v) (decI η a) (decI η b) (decI η c) (dec2 76 η w)).1.length, .sl b2 v2 0 (rvR r (dec3 63 η v) (decI η a) (decI η b) (decI η c) (dec2 76 η w)).2.length, .sl b3 v3 0 (decI η c).length]) H
  | _, _, _ => False
theorem putBl {l : List Bool} {i : Nat} {x : Bool} (h : i < l.length) : (l.map AV.bool).take i ++ [.bool x] ++ (l.map AV.bool).drop (i + 1) = (l.set i x).map AV.bool := by
  rw [List.set_eq_take_append_cons_drop, if_pos h]; simp
theorem acR_new (n : Nat) : (List.replicate n [AV.bool false]).flatten = (acR n []).map AV.bool := by
  rw [acR_nil]
  simp [List.flatten_replicate_singleton]
/-- The open group, once a new group is known. -/
def ocE (es : List (Int × Int)) (i : Nat) : List Int := if frE es i = true then [] else cuE es i
theorem ocE_snoc (es : List (Int × Int)) (i : Nat) : ocE es i ++ [fcA es i] = cuE es (i + 1) := by
  unfold ocE
  rw [cuE]
  split <;> rfl

def invFit (η : List Blk) (n : Nat) (w : AV) (es : List (Int × Int)) (st : St) : Prop := ∃ i : Nat, ∃ H : List Blk, ∃ ba : Nat, (i ≤ es.length) ∧ (ftsE (n + 1) es i = true) ∧ (Ext η H ∧ η.length ≤ ba) ∧ (H[ba]? = some ⟨0, 4, 1, (acR n (cuE es i)).map AV.bool⟩) ∧ st.n = 75 ∧ st.τ 0 = .int .i64 n ∧ st.τ 1 = w ∧ st.τ 5 = .sl ba 0 0 n ∧ st.τ 6 = .int .i64 i ∧ st.lam = lam0 ∧ st.η = H

/- spec.l19Fits -/
def Sp48 (lo : Nat) : Spec := fun g args η K => match g with | 62 => SIn args η K | _ => False
theorem Sp48_ok {lo : Nat} : Sound Try.prog lo (Sp48 lo) := by
  intro g args η K h
  unfold Sp48 at h
  split at h
  · exact .inl (f62_ok h)
  · exact h.elim
def Dr48 : Draws := fun id => match id with | 5 => ([0, 1, 3, 7, 7, 31, 63, 127, 7, 7, 519, 1799, 3847, 7943, 16383, 32767, 65535, 131071, 131071, 524287, 1048575, 2097151, 131071, 4325375, 16777215, 33554431, 67108863], [], [], (.one 0 (.one 1 (.one 2 (.one 3 (.one 4 (.one 5 (.one 6 (.one 7 (.one 8 (.one 9 (.one 10 (.one 11 (.one 12 (.one 13 (.one 14 (.one 15 (.one 16 (.one 17 (.one 18 (.one 19 (.one 20 (.one 21 (.one 22 (.one 23 (.one 24 (.one 25 (.one 26 .nil)))))))))))))))))))))))))))) | 7 => ([0, 1, 3, 7, 7, 31, 63, 127, 7, 7, 519, 1799, 3847, 7943, 16383, 32767], [], [], (.one 0 (.one 1 (.one 2 (.one 3 (.one 4 (.one 5 (.one 6 (.one 7 (.one 8 (.one 9 (.one 10 (.one 11 (.one 12 (.one 13 (.one 14 (.one 15 .nil))))))))))))))))) | _ => ([], [], [], .nil)
theorem f48_ok {lo : Nat} {args : List AV} {η : List Blk} {K : AV → List Blk → Prop} (h : SFit args η K) : AF Try.prog lo 48 args η K := by
  unfold SFit at h
  split at h
  · obtain ⟨es, ⟨n0, n1⟩, ⟨hw, hwl⟩, hK⟩ := h
    rename_i n _
    obtain ⟨bw, vw, rfl, hbw⟩ := hw
    obtain ⟨n, rfl⟩ : ∃ j : Nat, n = j := ⟨n.toNat, by omega⟩
    rw [Int.toNat_natCast] at hK
    refine AF_run Sp48_ok Dr48 [] [.tmp 4] hm Try.func48 rfl (by decide) Try.ntmps48 rfl (by kernel_rfl) (Nat.le_of_ble_eq_true rfl) ?_; intro hlo
    repeat' (first | with_reducible refine iteI (fun _ => ?_) (fun _ => ?_) | ((first | unfold AOpsC | unfold AOpsD | skip); simp (maxSteps := 1000000) (disch := (first | omega | assumption | (simp only [List.length_append, List.length_cons, List.length_nil, List.length_set]; omega))) only [go_sem, ↓skipC, ↓exitC, ↓retC, ↓seqC, ↓blockC, ↓condC, ↓regC, ↓drawC, ↓drawStep, ↓AOpC, ↓AOpF, ↓AOpE, ↓AEff, ↓contE_at, ↓contC_at, ↓keepC_at, ↓keepW_at, ↓keepO_at, ↓keepL_at, ↓map_parts, ↓reduceIte, reduceCtorEq, Nat.reduceLT, Nat.reduceEqDiff, Nat.reduceAdd, Nat.reduceMul, Nat.reduceLeDiff, Nat.reduceSub, Nat.reduceBEq, Nat.reduceBNe, Nat.reduceBneDiff, Nat.reduceBeqDiff, ag_3, ag_4, ag_45, ag_74, ag_76, bo_4, by_3, by_4, by_45, by_74, by_76, el_45, el_74, en_3, fi_76_0, fi_76_1, in_3, nf_76, pl_76, ps_76, sz_3, sz_4, sz_45, sz_74, sz_76, ze_3, ze_4, ze_45, ze_74, ze_76, Sp48, SIn, Dr48, hbw, acR_new]))
    refine ⟨invFit η n (.sl bw vw 0 es.length) es, fun st => ctr es.length st 6, .inl ⟨0, _, η.length, Nat.zero_le _, rfl, ⟨(Ext.refl η).app _, Nat.le_refl _⟩, app_last _ _, rfl, by simp [upd], by simp [upd], by simp [upd], by simp [upd], rfl, rfl⟩, ?_⟩
    rintro ⟨n, τ, lam, η'⟩ ⟨i, H, ba, g0, g1, g2, g3, hn, t0, t1, t5, t6, hlam, hη⟩; simp only at hn t0 t1 t5 t6 hlam hη; subst hn hlam hη
    obtain ⟨x, hba⟩ := g2
    have hbw' := x.blk hbw
    have lba := blt g3
    have lbw := blt hbw'
    have hac := acR_len n (cuE es i)
    by_cases hlt : i < es.length
    · have hno : ftE (n + 1) es i = false → ftsE (n + 1) es es.length = false := fun h => fts_no h hlt
      have hfx : (((n + 1 : Nat) : Int) - 2) = (n : Int) - 1 := by omega
      have hfc : fcA es i = (es.getD i (0, 0)).2 := rfl
      cases hin0 : inB (es.getD i (0, 0)).2 0 ((n : Int) - 1)
      · have hf : ftE (n + 1) es i = false := by simp only [ftE, hfc, hfx, hin0, Bool.false_and, Bool.and_false]
        by_cases h0 : 0 < i
        · have hi1 : ((i : Int) - 1).toNat = i - 1 := by omega
          by_cases htk : (es.getD i (0, 0)).1 < (es.getD (i - 1) (0, 0)).1
          · repeat' (first | with_reducible refine iteI (fun _ => ?_) (fun _ => ?_) | ((first | unfold AOpsC | unfold AOpsD | skip); simp (maxSteps := 1000000) (disch := (first | omega | assumption | (simp only [List.length_append, List.length_cons, List.length_nil, List.length_set]; omega))) only [go_sem, ↓skipC, ↓exitC, ↓retC, ↓seqC, ↓blockC, ↓condC, ↓regC, ↓drawC, ↓drawStep, ↓AOpC, ↓AOpF, ↓AOpE, ↓AEff, ↓contE_at, ↓contC_at, ↓keepC_at, ↓keepW_at, ↓keepO_at, ↓keepL_at, ↓map_parts, ↓reduceIte, reduceCtorEq, Nat.reduceLT, Nat.reduceEqDiff, Nat.reduceAdd, Nat.reduceMul, Nat.reduceLeDiff, Nat.reduceSub, Nat.reduceBEq, Nat.reduceBNe, Nat.reduceBneDiff, Nat.reduceBeqDiff, ag_3, ag_4, ag_45, ag_74, ag_76, bo_4, by_3, by_4, by_45, by_74, by_76, el_45, el_74, en_3, fi_76_0, fi_76_1, in_3, nf_76, pl_76, ps_76, sz_3, sz_4, sz_45, sz_74, sz_76, ze_3, ze_4, ze_45, ze_74, ze_76, Sp48, SIn, Dr48, hbw', hi1, htk, hin0, t0, t1, t5, t6]))
            exact KB (hK _ x) (hno hf)
          · repeat' (first | with_reducible refine iteI (fun _ => ?_) (fun _ => ?_) | ((first | unfold AOpsC | unfold AOpsD | skip); simp (maxSteps := 1000000) (disch := (first | omega | assumption | (simp only [List.length_append, List.length_cons, List.length_nil, List.length_set]; omega))) only [go_sem, ↓skipC, ↓exitC, ↓retC, ↓seqC, ↓blockC, ↓condC, ↓regC, ↓drawC, ↓drawStep, ↓AOpC, ↓AOpF, ↓AOpE, ↓AEff, ↓contE_at, ↓contC_at, ↓keepC_at, ↓keepW_at, ↓keepO_at, ↓keepL_at, ↓map_parts, ↓reduceIte, reduceCtorEq, Nat.reduceLT, Nat.reduceEqDiff, Nat.reduceAdd, Nat.reduceMul, Nat.reduceLeDiff, Nat.reduceSub, Nat.reduceBEq, Nat.reduceBNe, Nat.reduceBneDiff, Nat.reduceBeqDiff, ag_3, ag_4, ag_45, ag_74, ag_76, bo_4, by_3, by_4, by_45, by_74, by_76, el_45, el_74, en_3, fi_76_0, fi_76_1, in_3, nf_76, pl_76, ps_76, sz_3, sz_4, sz_45, sz_74, sz_76, ze_3, ze_4, ze_45, ze_74, ze_76, Sp48, SIn, Dr48, hbw', hi1, htk, hin0, t0, t1, t5, t6]))
            exact KB (hK _ x) (hno hf)
        · repeat' (first | with_reducible refine iteI (fun _ => ?_) (fun _ => ?_) | ((first | unfold AOpsC | unfold AOpsD | skip); simp (maxSteps := 1000000) (disch := (first | omega | assumption | (simp only [List.length_append, List.length_cons, List.length_nil, List.length_set]; omega))) only [go_sem, ↓skipC, ↓exitC, ↓retC, ↓seqC, ↓blockC, ↓condC, ↓regC, ↓drawC, ↓drawStep, ↓AOpC, ↓AOpF, ↓AOpE, ↓AEff, ↓contE_at, ↓contC_at, ↓keepC_at, ↓keepW_at, ↓keepO_at, ↓keepL_at, ↓map_parts, ↓reduceIte, reduceCtorEq, Nat.reduceLT, Nat.reduceEqDiff, Nat.reduceAdd, Nat.reduceMul, Nat.reduceLeDiff, Nat.reduceSub, Nat.reduceBEq, Nat.reduceBNe, Nat.reduceBneDiff, Nat.reduceBeqDiff, ag_3, ag_4, ag_45, ag_74, ag_76, bo_4, by_3, by_4, by_45, by_74, by_76, el_45, el_74, en_3, fi_76_0, fi_76_1, in_3, nf_76, pl_76, ps_76, sz_3, sz_4, sz_45, sz_74, sz_76, ze_3, ze_4, ze_45, ze_74, ze_76, Sp48, SIn, Dr48, hbw', h0, hin0, t0, t1, t5, t6]))
          exact KB (hK _ x) (hno hf)
      obtain ⟨j, hfj, hjn⟩ : ∃ j : Nat, (es.getD i (0, 0)).2 = (j : Int) ∧ j < n := by
        have := inT hin0
        exact ⟨(es.getD i (0, 0)).2.toNat, by omega, by omega⟩
      have hin := hin0
      rw [hfj] at hin hfc
      have hin2 : inB (fcA es i) 0 ((((n + 1 : Nat) : Int)) - 2) = true := by rw [hfc, hfx]; exact hin
      by_cases h0 : 0 < i
      · have hi1 : ((i : Int) - 1).toNat = i - 1 := by omega
        have hi0 : ¬ i = 0 := by omega
        by_cases htk : (es.getD i (0, 0)).1 < (es.getD (i - 1) (0, 0)).1
        · have hf : ftE (n + 1) es i = false := by simp [ftE, tkA, hi0, ← List.getD_eq_getElem?_getD, htk]
          repeat' (first | with_reducible refine iteI (fun _ => ?_) (fun _ => ?_) | ((first | unfold AOpsC | unfold AOpsD | skip); simp (maxSteps := 1000000) (disch := (first | omega | assumption | (simp only [List.length_append, List.length_cons, List.length_nil, List.length_set]; omega))) only [go_sem, ↓skipC, ↓exitC, ↓retC, ↓seqC, ↓blockC, ↓condC, ↓regC, ↓drawC, ↓drawStep, ↓AOpC, ↓AOpF, ↓AOpE, ↓AEff, ↓contE_at, ↓contC_at, ↓keepC_at, ↓keepW_at, ↓keepO_at, ↓keepL_at, ↓map_parts, ↓reduceIte, reduceCtorEq, Nat.reduceLT, Nat.reduceEqDiff, Nat.reduceAdd, Nat.reduceMul, Nat.reduceLeDiff, Nat.reduceSub, Nat.reduceBEq, Nat.reduceBNe, Nat.reduceBneDiff, Nat.reduceBeqDiff, ag_3, ag_4, ag_45, ag_74, ag_76, bo_4, by_3, by_4, by_45, by_74, by_76, el_45, el_74, en_3, fi_76_0, fi_76_1, in_3, nf_76, pl_76, ps_76, sz_3, sz_4, sz_45, sz_74, sz_76, ze_3, ze_4, ze_45, ze_74, ze_76, Sp48, SIn, Dr48, hbw', hi1, htk, t0, t1, t5, t6]))
          exact KB (hK _ x) (hno hf)
        by_cases hne : (es.getD i (0, 0)).1 = (es.getD (i - 1) (0, 0)).1
        · have hfr : frE es i = false := by simp [frE, tkA, hi0, ← List.getD_eq_getElem?_getD, hne]
          have hat := acR_at (cuE es i) (n := n) (j := j) hjn
          have hal := acR_len n (cuE es i)
          have hs := acR_set (cuE es i) j (n := n)
          by_cases hm : (j : Int) ∈ cuE es i
          · rw [decide_eq_true hm] at hat
            have hf : ftE (n + 1) es i = false := by rw [ftE, hfr, hfc, decide_eq_true hm]; simp
            repeat' (first | with_reducible refine iteI (fun _ => ?_) (fun _ => ?_) | ((first | unfold AOpsC | unfold AOpsD | skip); simp (maxSteps := 1000000) (disch := (first | omega | assumption | (simp only [List.length_append, List.length_cons, List.length_nil, List.length_set]; omega))) only [go_sem, ↓skipC, ↓exitC, ↓retC, ↓seqC, ↓blockC, ↓condC, ↓regC, ↓drawC, ↓drawStep, ↓AOpC, ↓AOpF, ↓AOpE, ↓AEff, ↓contE_at, ↓contC_at, ↓keepC_at, ↓keepW_at, ↓keepO_at, ↓keepL_at, ↓map_parts, ↓reduceIte, reduceCtorEq, Nat.reduceLT, Nat.reduceEqDiff, Nat.reduceAdd, Nat.reduceMul, Nat.reduceLeDiff, Nat.reduceSub, Nat.reduceBEq, Nat.reduceBNe, Nat.reduceBneDiff, Nat.reduceBeqDiff, ag_3, ag_4, ag_45, ag_74, ag_76, bo_4, by_3, by_4, by_45, by_74, by_76, el_45, el_74, en_3, fi_76_0, fi_76_1, in_3, nf_76, pl_76, ps_76, sz_3, sz_4, sz_45, sz_74, sz_76, ze_3, ze_4, ze_45, ze_74, ze_76, Sp48, SIn, Dr48, hbw', g3, hat, hal, hfj, hin, hi1, htk, hne, acR_new, t0, t1, t5, t6]))
            exact KB (hK _ (x)) (hno hf)
          · rw [decide_eq_false hm] at hat
            have hcs : cuE es (i + 1) = cuE es i ++ [(j : Int)] := by rw [← ocE_snoc, ocE, hfr, if_neg (by simp), hfc]
            have htk' : ¬ tkA es i < tkA es (i - 1) := htk
            have hft : ftE (n + 1) es i = true := by rw [ftE, hin2, hfc, decide_eq_false hm, decide_eq_false htk']; simp
            repeat' (first | with_reducible refine iteI (fun _ => ?_) (fun _ => ?_) | ((first | unfold AOpsC | unfold AOpsD | skip); simp (maxSteps := 1000000) (disch := (first | omega | assumption | (simp only [List.length_append, List.length_cons, List.length_nil, List.length_set]; omega))) only [go_sem, ↓skipC, ↓exitC, ↓retC, ↓seqC, ↓blockC, ↓condC, ↓regC, ↓drawC, ↓drawStep, ↓AOpC, ↓AOpF, ↓AOpE, ↓AEff, ↓contE_at, ↓contC_at, ↓keepC_at, ↓keepW_at, ↓keepO_at, ↓keepL_at, ↓map_parts, ↓reduceIte, reduceCtorEq, Nat.reduceLT, Nat.reduceEqDiff, Nat.reduceAdd, Nat.reduceMul, Nat.reduceLeDiff, Nat.reduceSub, Nat.reduceBEq, Nat.reduceBNe, Nat.reduceBneDiff, Nat.reduceBeqDiff, ag_3, ag_4, ag_45, ag_74, ag_76, bo_4, by_3, by_4, by_45, by_74, by_76, el_45, el_74, en_3, fi_76_0, fi_76_1, in_3, nf_76, pl_76, ps_76, sz_3, sz_4, sz_45, sz_74, sz_76, ze_3, ze_4, ze_45, ze_74, ze_76, Sp48, SIn, Dr48, hbw', g3, hat, hal, hs, putBl, hfj, hin, hi1, htk, hne, acR_new, t0, t1, t5, t6]))
            refine ⟨⟨i + 1, _, ba, hlt, by rw [fts_succ, g1, hft]; rfl, ⟨x.set hba _, by omega⟩, by rw [hcs]; exact set_eq lba, rfl, by simp [upd, t0], by simp [upd, t1], by simp [upd, t5], by simp [upd], rfl, rfl⟩, by simp [ctr, upd, t6]; omega⟩
        · have hfr : frE es i = true := by simp [frE, tkA, hi0, ← List.getD_eq_getElem?_getD, hne]
          have hat := acR_at (([] : List Int)) (n := n) (j := j) hjn
          have hal := acR_len n (([] : List Int))
          have hs := acR_set (([] : List Int)) j (n := n)
          by_cases hm : (j : Int) ∈ ([] : List Int)
          · exact absurd hm (by simp)
          · rw [decide_eq_false hm] at hat
            have hcs : cuE es (i + 1) = [] ++ [(j : Int)] := by rw [← ocE_snoc, ocE, hfr, if_pos rfl, hfc]
            have htk' : ¬ tkA es i < tkA es (i - 1) := htk
            have hft : ftE (n + 1) es i = true := by rw [ftE, hin2, hfr, decide_eq_false htk']; simp
            repeat' (first | with_reducible refine iteI (fun _ => ?_) (fun _ => ?_) | ((first | unfold AOpsC | unfold AOpsD | skip); simp (maxSteps := 1000000) (disch := (first | omega | assumption | (simp only [List.length_append, List.length_cons, List.length_nil, List.length_set]; omega))) only [go_sem, ↓skipC, ↓exitC, ↓retC, ↓seqC, ↓blockC, ↓condC, ↓regC, ↓drawC, ↓drawStep, ↓AOpC, ↓AOpF, ↓AOpE, ↓AEff, ↓contE_at, ↓contC_at, ↓keepC_at, ↓keepW_at, ↓keepO_at, ↓keepL_at, ↓map_parts, ↓reduceIte, reduceCtorEq, Nat.reduceLT, Nat.reduceEqDiff, Nat.reduceAdd, Nat.reduceMul, Nat.reduceLeDiff, Nat.reduceSub, Nat.reduceBEq, Nat.reduceBNe, Nat.reduceBneDiff, Nat.reduceBeqDiff, ag_3, ag_4, ag_45, ag_74, ag_76, bo_4, by_3, by_4, by_45, by_74, by_76, el_45, el_74, en_3, fi_76_0, fi_76_1, in_3, nf_76, pl_76, ps_76, sz_3, sz_4, sz_45, sz_74, sz_76, ze_3, ze_4, ze_45, ze_74, ze_76, Sp48, SIn, Dr48, hbw', g3, hat, hal, hs, putBl, hfj, hin, hi1, htk, hne, acR_new, t0, t1, t5, t6]))
            refine ⟨⟨i + 1, _, η'.length, hlt, by rw [fts_succ, g1, hft]; rfl, ⟨(x.app _), by omega⟩, by rw [hcs]; exact app_last _ _, rfl, by simp [upd, t0], by simp [upd, t1], by simp [upd, t5], by simp [upd], rfl, rfl⟩, by simp [ctr, upd, t6]; omega⟩
      · have hi0 : i = 0 := by omega
        have hfr : frE es i = true := by simp [frE, hi0]
        have hcu0 : cuE es i = [] := by rw [hi0]; rfl
        rw [hcu0] at g3
        have hat := acR_at (([] : List Int)) (n := n) (j := j) hjn
        have hal := acR_len n (([] : List Int))
        have hs := acR_set (([] : List Int)) j (n := n)
        by_cases hm : (j : Int) ∈ ([] : List Int)
        · exact absurd hm (by simp)
        · rw [decide_eq_false hm] at hat
          have hcs : cuE es (i + 1) = [] ++ [(j : Int)] := by rw [← ocE_snoc, ocE, hfr, if_pos rfl, hfc]
          have hft : ftE (n + 1) es i = true := by rw [ftE, hin2, hfr, decide_eq_true hi0]; simp
          repeat' (first | with_reducible refine iteI (fun _ => ?_) (fun _ => ?_) | ((first | unfold AOpsC | unfold AOpsD | skip); simp (maxSteps := 1000000) (disch := (first | omega | assumption | (simp only [List.length_append, List.length_cons, List.length_nil, List.length_set]; omega))) only [go_sem, ↓skipC, ↓exitC, ↓retC, ↓seqC, ↓blockC, ↓condC, ↓regC, ↓drawC, ↓drawStep, ↓AOpC, ↓AOpF, ↓AOpE, ↓AEff, ↓contE_at, ↓contC_at, ↓keepC_at, ↓keepW_at, ↓keepO_at, ↓keepL_at, ↓map_parts, ↓reduceIte, reduceCtorEq, Nat.reduceLT, Nat.reduceEqDiff, Nat.reduceAdd, Nat.reduceMul, Nat.reduceLeDiff, Nat.reduceSub, Nat.reduceBEq, Nat.reduceBNe, Nat.reduceBneDiff, Nat.reduceBeqDiff, ag_3, ag_4, ag_45, ag_74, ag_76, bo_4, by_3, by_4, by_45, by_74, by_76, el_45, el_74, en_3, fi_76_0, fi_76_1, in_3, nf_76, pl_76, ps_76, sz_3, sz_4, sz_45, sz_74, sz_76, ze_3, ze_4, ze_45, ze_74, ze_76, Sp48, SIn, Dr48, hbw', g3, hat, hal, hs, putBl, hfj, hin, h0, acR_new, t0, t1, t5, t6]))
          refine ⟨⟨i + 1, _, ba, hlt, by rw [fts_succ, g1, hft]; rfl, ⟨x.set hba _, by omega⟩, by rw [hcs]; exact set_eq lba, rfl, by simp [upd, t0], by simp [upd, t1], by simp [upd, t5], by simp [upd], rfl, rfl⟩, by simp [ctr, upd, t6]; omega⟩
    · obtain rfl : i = es.length := by omega
      repeat' (first | with_reducible refine iteI (fun _ => ?_) (fun _ => ?_) | ((first | unfold AOpsC | unfold AOpsD | skip); simp (maxSteps := 1000000) (disch := (first | omega | assumption | (simp only [List.length_append, List.length_cons, List.length_nil, List.length_set]; omega))) only [go_sem, ↓skipC, ↓exitC, ↓retC, ↓seqC, ↓blockC, ↓condC, ↓regC, ↓drawC, ↓drawStep, ↓AOpC, ↓AOpF, ↓AOpE, ↓AEff, ↓contE_at, ↓contC_at, ↓keepC_at, ↓keepW_at, ↓keepO_at, ↓keepL_at, ↓map_parts, ↓reduceIte, reduceCtorEq, Nat.reduceLT, Nat.reduceEqDiff, Nat.reduceAdd, Nat.reduceMul, Nat.reduceLeDiff, Nat.reduceSub, Nat.reduceBEq, Nat.reduceBNe, Nat.reduceBneDiff, Nat.reduceBeqDiff, ag_3, ag_4, ag_45, ag_74, ag_76, bo_4, by_3, by_4, by_45, by_74, by_76, el_45, el_74, en_3, fi_76_0, fi_76_1, in_3, nf_76, pl_76, ps_76, sz_3, sz_4, sz_45, sz_74, sz_76, ze_3, ze_4, ze_45, ze_74, ze_76, Sp48, SIn, Dr48, hbw', t0, t1, t5, t6]))
      exact KB (hK _ x) g1
  · exact h.elim

end Go.Proofs.Ytaalpmbopkbdiaa
