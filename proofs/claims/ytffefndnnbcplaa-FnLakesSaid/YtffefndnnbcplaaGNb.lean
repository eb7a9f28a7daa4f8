/- What functions of the program compute, said in the abstract logic; no conditions. -/
import Derived.Test.YtffefndnnbcplaaGSteep

namespace Go.Proofs.Ytffefndnnbcplaa
open Go
set_option linter.unusedSimpArgs false
set_option linter.unusedVariables false
set_option maxRecDepth 100000
set_option maxHeartbeats 8000000
attribute [local go_sem] st0 AC thenA andC locLoadB KsSW_same KsSW_grow oldLoadB KsOS_same KsOS_grow pv ev put upd dstOk cv cvc binI setB Value.oneCell' EndA resA resA1 List.mapM_cons List.mapM_nil Option.pure_def Option.bind_eq_bind noLocV noLoc1 noLoc noLocs plainV cellsA newVarA putCells condA lam0 inBlockA cur lenA rowA avoidsB avoidB clearB Array.toList_append Op.operands Call.operands newSlot Nat.zero_add Nat.add_zero Nat.succ_ne_self Nat.lt_add_one Nat.zero_lt_succ true_and and_true true_or or_true false_or or_false and_self true_implies forall_const Bool.false_eq_true Bool.true_eq_false false_implies implies_true imp_self ne_eq not_false_eq_true not_true_eq_false false_and and_false List.getElem?_toArray List.getElem?_cons_succ List.getElem?_cons_zero Option.bind_some Option.map_some Bool.not_true Bool.not_false List.getD_cons_zero List.getD_cons_succ Option.some.injEq exists_eq_left' AV.bool.injEq List.map_cons List.map_nil List.all_cons List.all_nil Bool.and_self Bool.and_true Bool.true_and List.append_nil List.cons_append List.nil_append List.length_cons List.length_nil List.drop_zero List.take_zero List.drop_succ_cons List.take_succ_cons List.take_nil List.drop_nil List.not_mem_nil List.mem_cons List.contains_nil List.contains_cons Bool.or_self Bool.or_true Bool.true_or Bool.false_or Bool.or_false Bool.and_false Bool.false_and KsS_same KsS_grow skipV KsS_ext KsSW_ext KsOS_ext rep1 rep2 rep3 rep4 rep5 List.flatten_cons List.flatten_nil partsA isPtr fillA List.size_toArray ltT ltF leT leF ltTn ltFn leTn leFn eqTi eqFi wrapId toNat1 intGet boolGet memD app_get app_last app_lst app_set app_setL app_setF set_ne set_eq gt_iff_lt ge_iff_le decide_eq_true_eq len2 len3 get20 get21 drop2 put2 get30 get31 get32 drop3 put3 putI pairEta bneTi bneFi beqTi beqFi bne_eq_false_iff_eq beq_eq_false_iff_ne beq_iff_eq bne_iff_ne Int.toNat_natCast Nat.mul_one List.length_map Bool.not_eq_true Bool.not_eq_false Bool.decide_eq_true decide_true decide_false Bool.not_eq_true' Bool.not_eq_false' decide_eq_false_iff_not eq_self Decidable.not_not

def hasB (n x : Int) : Bool := inB x 0 (n - 1)
def nbK (n i : Int) (k : Nat) : List Int := ([i - 1, i + 1].take k).filter (hasB n)
def nbI (n i : Int) : List Int := nbK n i 2
theorem nb_len (n i : Int) (k : Nat) : (nbK n i k).length ≤ 2 := by
  unfold nbK
  have := List.length_filter_le (hasB n) ([i - 1, i + 1].take k)
  simp only [List.length_take, List.length_cons, List.length_nil] at this
  omega
theorem nb_mem {n i x : Int} (h : x ∈ nbI n i) : 0 ≤ x ∧ x ≤ n - 1 ∧ (x = i - 1 ∨ x = i + 1) := by
  simp only [nbI, nbK, List.mem_filter, List.take_succ_cons, List.take_zero, List.mem_cons, List.not_mem_nil, or_false] at h
  have := inT h.2
  omega
def SNb : List AV → List Blk → (AV → List Blk → Prop) → Prop
  | [.agg [.int .i64 r, v], .int .i64 i], η, K => (ok3 45 η v ∧ -4294967296 ≤ i ∧ i ≤ 4294967296) ∧ ∀ H u, NewI η.length H u (nbI (dec3 45 η v).length i) → Ext η H → K u H
  | _, _, _ => False
def invNb (η : List Blk) (r : Int) (l : List Id3) (v : AV) (i0 : Int) (st : St) : Prop := ∃ i : Nat, ∃ H : List Blk, ∃ bl : Nat, ∃ wer : Nat, (i ≤ 2) ∧ (Ext η H) ∧ (η.length + 1 ≤ bl) ∧ (H[bl]? = some ⟨wer, 3, 1, (nbK l.length i0 i).map (.int .i64)⟩) ∧ (H[η.length]? = some ⟨0, 3, 1, [i0 - 1, i0 + 1].map (.int .i64)⟩) ∧ st.n = 28 ∧ st.τ 1 = .int .i64 i0 ∧ st.τ 2 = .loc 2 1 0 ∧ st.τ 5 = .sl bl wer 0 (nbK l.length i0 i).length ∧ st.τ 13 = .sl η.length 0 0 2 ∧ st.τ 14 = .int .i64 2 ∧ st.τ 15 = .int .i64 i ∧ st.lam 2 = ⟨1, [.int .i64 r, v]⟩ ∧ st.η = H

/- (impl.Mesh).neighbours -/
def Sp128 (lo : Nat) : Spec := fun g args η K => match g with | 105 => SHasI args η K | _ => False
theorem Sp128_ok {lo : Nat} : Sound Try.prog lo (Sp128 lo) := by
  intro g args η K h
  unfold Sp128 at h
  split at h
  · exact f105_ok h
  · exact h.elim
theorem f128_ok {lo : Nat} {args : List AV} {η : List Blk} {K : AV → List Blk → Prop} (h : SNb args η K) : AF Try.prog lo 128 args η K := by
  unfold SNb at h
  split at h
  · obtain ⟨⟨⟨l, hr, hl⟩, i0, i1⟩, hK⟩ := h
    rename_i r _ i0'
    have d1 := hr.dec3
    have o1 : ok3 45 _ _ := ⟨l, hr, hl⟩
    simp only [d1] at hK
    obtain ⟨b, ver, rfl, hb⟩ := hr
    have hbl := blt hb
    refine AF_run Sp128_ok D0 [] [.tmp 4] hm Try.func128 rfl (by decide) Try.ntmps128 rfl (by kernel_rfl) (Nat.le_of_ble_eq_true rfl) ?_; intro hlo
    repeat' (first | with_reducible refine iteI (fun _ => ?_) (fun _ => ?_) | ((first | unfold AOpsC | unfold AOpsD | skip); simp (maxSteps := 1000000) (disch := (first | omega | assumption | (simp only [List.length_append, List.length_cons, List.length_nil, List.length_set]; omega))) only [go_sem, ↓skipC, ↓exitC, ↓retC, ↓seqC, ↓blockC, ↓condC, ↓regC, ↓drawC, ↓drawStep, ↓AOpC, ↓AOpF, ↓AOpE, ↓AEff, ↓contE_at, ↓contC_at, ↓keepC_at, ↓keepW_at, ↓keepO_at, ↓map_parts, ↓reduceIte, reduceCtorEq, Nat.reduceLT, Nat.reduceEqDiff, Nat.reduceAdd, Nat.reduceMul, Nat.reduceLeDiff, Nat.reduceSub, Nat.reduceBEq, Nat.reduceBNe, Nat.reduceBneDiff, Nat.reduceBeqDiff, ag_26, ag_28, ag_3, by_26, by_28, by_3, el_28, in_3, nf_26, pl_26, ps_26, sz_26, sz_28, sz_3, ze_26, ze_28, ze_3, Sp128, SHasI, hb, d1, o1]))
    refine ⟨invNb η r l (.sl b ver 0 l.length) i0', fun st => ctr 2 st 15, .inr ⟨5, 3, 1, Nat.le_of_ble_eq_true rfl, rfl, 0, _, η.length + 1, 0, Nat.zero_le _, ((Ext.refl η).app _).app _, Nat.le_refl _, by simp [RecE, nbK], by simp [RecE], rfl, by simp [RecE, upd, nbK], by simp [RecE, upd, nbK], by simp [RecE, upd, nbK], by simp [RecE, upd, nbK], by simp [RecE, upd, nbK], by simp [RecE, upd, nbK], rfl, rfl⟩, ?_⟩
    rintro ⟨n, τ, lam, η'⟩ ⟨i, H, bl, wer, g0, g1, g2, g3, g4, hn, t1, t2, t5, t13, t14, t15, l2, hη⟩; simp only at hn t1 t2 t5 t13 t14 t15 l2 hη; subst hn hη
    have hb' := g1.blk hb
    have d1' : dec3 45 η' (.sl b ver 0 l.length) = l := IsR.dec3 ⟨b, ver, rfl, hb'⟩
    have o1' : ok3 45 η' (.sl b ver 0 l.length) := ⟨l, ⟨b, ver, rfl, hb'⟩, hl⟩
    have hHl := blt g3
    have hHq := blt g4
    have hnl := nb_len l.length i0' i
    by_cases hlt : i < 2
    · have hq : i < [i0' - 1, i0' + 1].length := by simpa using hlt
      have htk : [i0' - 1, i0' + 1].take (i + 1) = [i0' - 1, i0' + 1].take i ++ [[i0' - 1, i0' + 1].getD i 0] := take1 (d := 0) hq
      have hcell : ([i0' - 1, i0' + 1].map (AV.int .i64))[i]? = some (.int .i64 ([i0' - 1, i0' + 1].getD i 0)) := rowGet _ _ _ hq
      have hll : ([i0' - 1, i0' + 1].map (AV.int .i64)).length = 2 := rfl
      generalize [i0' - 1, i0' + 1].getD i 0 = x at htk hcell
      generalize hQ : [i0' - 1, i0' + 1].map (AV.int .i64) = Q at hcell g4 hll
      cases e2 : inB x 0 ((l.length : Int) - 1)
      · have hac : nbK l.length i0' (i + 1) = nbK l.length i0' i := by rw [nbK, htk, List.filter_append, List.filter_cons, if_neg (by rw [hasB, e2]; exact Bool.false_ne_true), List.filter_nil, List.append_nil]; rfl
        repeat' (first | with_reducible refine iteI (fun _ => ?_) (fun _ => ?_) | ((first | unfold AOpsC | unfold AOpsD | skip); simp (maxSteps := 1000000) (disch := (first | omega | assumption | (simp only [List.length_append, List.length_cons, List.length_nil, List.length_set]; omega))) only [go_sem, ↓skipC, ↓exitC, ↓retC, ↓seqC, ↓blockC, ↓condC, ↓regC, ↓drawC, ↓drawStep, ↓AOpC, ↓AOpF, ↓AOpE, ↓AEff, ↓contE_at, ↓contC_at, ↓keepC_at, ↓keepW_at, ↓keepO_at, ↓map_parts, ↓reduceIte, reduceCtorEq, Nat.reduceLT, Nat.reduceEqDiff, Nat.reduceAdd, Nat.reduceMul, Nat.reduceLeDiff, Nat.reduceSub, Nat.reduceBEq, Nat.reduceBNe, Nat.reduceBneDiff, Nat.reduceBeqDiff, ag_26, ag_28, ag_3, by_26, by_28, by_3, el_28, in_3, nf_26, pl_26, ps_26, sz_26, sz_28, sz_3, ze_26, ze_28, ze_3, Sp128, SHasI, hb', d1', o1', t1, t2, t5, t13, t14, t15, l2, e2, g4, hcell, hll]))
        refine ⟨⟨i + 1, _, bl, wer, by omega, g1, g2, by rw [hac]; exact g3, by rw [hQ]; exact g4, rfl, by simp [upd, t1, t2, t5, t13, t14, t15, hac], by simp [upd, t1, t2, t5, t13, t14, t15, hac], by simp [upd, t1, t2, t5, t13, t14, t15, hac], by simp [upd, t1, t2, t5, t13, t14, t15, hac], by simp [upd, t1, t2, t5, t13, t14, t15, hac], by simp [upd, t1, t2, t5, t13, t14, t15, hac], by simp [upd, l2], rfl⟩, by simp [ctr, upd, t15]; omega⟩
      · have hac : nbK l.length i0' (i + 1) = nbK l.length i0' i ++ [x] := by rw [nbK, htk, List.filter_append, List.filter_cons, if_pos (by rw [hasB, e2]), List.filter_nil]; rfl
        repeat' (first | with_reducible refine iteI (fun _ => ?_) (fun _ => ?_) | ((first | unfold AOpsC | unfold AOpsD | skip); simp (maxSteps := 1000000) (disch := (first | omega | assumption | (simp only [List.length_append, List.length_cons, List.length_nil, List.length_set]; omega))) only [go_sem, ↓skipC, ↓exitC, ↓retC, ↓seqC, ↓blockC, ↓condC, ↓regC, ↓drawC, ↓drawStep, ↓AOpC, ↓AOpF, ↓AOpE, ↓AEff, ↓contE_at, ↓contC_at, ↓keepC_at, ↓keepW_at, ↓keepO_at, ↓map_parts, ↓reduceIte, reduceCtorEq, Nat.reduceLT, Nat.reduceEqDiff, Nat.reduceAdd, Nat.reduceMul, Nat.reduceLeDiff, Nat.reduceSub, Nat.reduceBEq, Nat.reduceBNe, Nat.reduceBneDiff, Nat.reduceBeqDiff, ag_26, ag_28, ag_3, by_26, by_28, by_3, el_28, in_3, nf_26, pl_26, ps_26, sz_26, sz_28, sz_3, ze_26, ze_28, ze_3, Sp128, SHasI, hb', d1', o1', t1, t2, t5, t13, t14, t15, l2, e2, g3, g4, hcell, hll, takeMap]))
        refine ⟨⟨i + 1, _, bl, wer + 1, by omega, (g1.set (by omega) _).app _, g2, by rw [hac, app_get (by simpa using hHl), set_eq hHl]; simp, by rw [hQ, app_get (by simpa using hHq), set_ne (by omega)]; exact g4, rfl, by simp [upd, t1, t2, t5, t13, t14, t15, hac], by simp [upd, t1, t2, t5, t13, t14, t15, hac], by simp [upd, t1, t2, t5, t13, t14, t15, hac], by simp [upd, t1, t2, t5, t13, t14, t15, hac], by simp [upd, t1, t2, t5, t13, t14, t15, hac], by simp [upd, t1, t2, t5, t13, t14, t15, hac], by simp [upd, l2], rfl⟩, by simp [ctr, upd, t15]; omega⟩
    · obtain rfl : i = 2 := by omega
      repeat' (first | with_reducible refine iteI (fun _ => ?_) (fun _ => ?_) | ((first | unfold AOpsC | unfold AOpsD | skip); simp (maxSteps := 1000000) (disch := (first | omega | assumption | (simp only [List.length_append, List.length_cons, List.length_nil, List.length_set]; omega))) only [go_sem, ↓skipC, ↓exitC, ↓retC, ↓seqC, ↓blockC, ↓condC, ↓regC, ↓drawC, ↓drawStep, ↓AOpC, ↓AOpF, ↓AOpE, ↓AEff, ↓contE_at, ↓contC_at, ↓keepC_at, ↓keepW_at, ↓keepO_at, ↓map_parts, ↓reduceIte, reduceCtorEq, Nat.reduceLT, Nat.reduceEqDiff, Nat.reduceAdd, Nat.reduceMul, Nat.reduceLeDiff, Nat.reduceSub, Nat.reduceBEq, Nat.reduceBNe, Nat.reduceBneDiff, Nat.reduceBeqDiff, ag_26, ag_28, ag_3, by_26, by_28, by_3, el_28, in_3, nf_26, pl_26, ps_26, sz_26, sz_28, sz_3, ze_26, ze_28, ze_3, Sp128, SHasI, hb', d1', o1', t1, t2, t5, t13, t14, t15, l2]))
      exact hK _ _ (NewI.mk (by omega) g3) g1
  · exact h.elim

/- (impl.State).jump -/
/- impl.JumpAt -/
end Go.Proofs.Ytffefndnnbcplaa
