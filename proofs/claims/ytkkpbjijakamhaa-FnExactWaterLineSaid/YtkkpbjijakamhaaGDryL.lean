/- What functions of the program compute, said in the abstract logic; no conditions. -/
import Derived.Test.YtkkpbjijakamhaaGFlux2

namespace Go.Proofs.Ytkkpbjijakamhaa
open Go
set_option linter.unusedSimpArgs false
set_option linter.unusedVariables false
set_option maxRecDepth 100000
set_option maxHeartbeats 8000000
attribute [local go_sem] st0 AC thenA pv ev put upd dstOk cv cvc binI setB Value.oneCell' EndA resA resA1 List.mapM_cons List.mapM_nil Option.pure_def Option.bind_eq_bind noLocV noLoc1 noLoc noLocs plainV cellsA newVarA putCells condA lam0 inBlockA cur lenA rowA avoidsB avoidB clearB Array.toList_append Op.operands Call.operands newSlot Nat.zero_add Nat.add_zero Nat.succ_ne_self Nat.lt_add_one Nat.zero_lt_succ true_and and_true true_or or_true false_or or_false and_self true_implies forall_const Bool.false_eq_true Bool.true_eq_false false_implies implies_true imp_self ne_eq not_false_eq_true not_true_eq_false false_and and_false List.getElem?_toArray List.getElem?_cons_succ List.getElem?_cons_zero Option.bind_some Option.map_some Bool.not_true Bool.not_false List.getD_cons_zero List.getD_cons_succ Option.some.injEq exists_eq_left' AV.bool.injEq List.map_cons List.map_nil List.all_cons List.all_nil Bool.and_self Bool.and_true Bool.true_and List.append_nil List.cons_append List.nil_append List.length_cons List.length_nil List.drop_zero List.take_zero List.drop_succ_cons List.take_succ_cons List.take_nil List.drop_nil List.not_mem_nil List.mem_cons List.contains_nil List.contains_cons Bool.or_self Bool.or_true Bool.true_or Bool.false_or Bool.or_false Bool.and_false Bool.false_and KsS_same KsS_grow skipV KsS_ext rep1 rep2 rep3 rep4 rep5 List.flatten_cons List.flatten_nil partsA isPtr fillA List.size_toArray ltT ltF leT leF ltTn ltFn leTn leFn eqTi eqFi wrapId toNat1 intGet boolGet memD app_get app_last app_lst app_set app_setL app_setF set_ne set_eq gt_iff_lt ge_iff_le decide_eq_true_eq len2 len3 get20 get21 drop2 put2 get30 get31 get32 drop3 put3 putI pairEta bneTi bneFi beqTi beqFi bne_eq_false_iff_eq beq_eq_false_iff_ne beq_iff_eq bne_iff_ne Int.toNat_natCast Nat.mul_one List.length_map Bool.not_eq_true Bool.not_eq_false Bool.decide_eq_true decide_true decide_false Bool.not_eq_true' Bool.not_eq_false' decide_eq_false_iff_not eq_self Decidable.not_not

def dryN (ms : List Int) : Nat → List Int
  | 0 => []
  | i + 1 => if ms.getD i 0 = 0 then dryN ms i ++ [(i : Int)] else dryN ms i
theorem dryN_len (ms : List Int) : ∀ i, (dryN ms i).length ≤ i
  | 0 => by simp [dryN]
  | i + 1 => by
    have := dryN_len ms i
    rw [dryN]
    split
    · simp; omega
    · omega
def dryLR (r : Int) (l : List Id3) (ms ts bs : List Int) : List Int := if okB r l ms ts bs = true then dryN ms ms.length else []
theorem dryLR_len {r : Int} {l : List Id3} {ms ts bs : List Int} (h : ms.length ≤ 1048576) : (dryLR r l ms ts bs).length ≤ 1048576 := by
  unfold dryLR
  split
  · have := dryN_len ms ms.length; omega
  · simp

def SDryL : List AV → List Blk → (AV → List Blk → Prop) → Prop
  | [.agg [.int .i64 r, v, a, b, c]], η, K => (ok3 45 η v ∧ okI η a ∧ okI η b ∧ okI η c) ∧ ∀ H u, NewI η.length H u (dryLR r (dec3 45 η v) (decI η a) (decI η b) (decI η c)) → Ext η H → K u H
  | _, _, _ => False

def invDryLS (η : List Blk) (r : Int) (l : List Id3) (v a b c : AV) (ms ts bs : List Int) (st : St) : Prop := ∃ i : Nat, ∃ H : List Blk, ∃ bl : Nat, ∃ wer : Nat, (i ≤ ms.length) ∧ (Ext η H) ∧ (η.length ≤ bl) ∧ (H[bl]? = some ⟨wer, 3, 1, (dryN ms i).map (.int .i64)⟩) ∧ st.n = 28 ∧ st.τ 1 = .loc 1 1 0 ∧ st.τ 3 = .sl bl wer 0 (dryN ms i).length ∧ st.τ 4 = .int .i64 i ∧ st.lam 1 = ⟨1, [.int .i64 r, v, a, b, c]⟩ ∧ st.η = H

/- spec.DryLeaves -/
def Sp72 (lo : Nat) : Spec := fun g args η K => match g with | 49 => SOk args η K | _ => False
theorem Sp72_ok {lo : Nat} : Sound Try.prog lo (Sp72 lo) := by
  intro g args η K h
  unfold Sp72 at h
  split at h
  · exact f49_ok h
  · exact h.elim
theorem f72_ok {lo : Nat} {args : List AV} {η : List Blk} {K : AV → List Blk → Prop} (h : SDryL args η K) : AF Try.prog lo 72 args η K := by
  unfold SDryL at h
  split at h
  · obtain ⟨⟨⟨l, hr, hl⟩, ⟨ms, ha, hla⟩, ⟨ts, hb, hlb⟩, ⟨bs, hc, hlc⟩⟩, hK⟩ := h
    rename_i r _ _ _ _
    have d1 := hr.dec3
    have d2 := ha.dec
    have d3 := hb.dec
    have d4 := hc.dec
    have o1 : ok3 45 _ _ := ⟨l, hr, hl⟩
    have o2 : okI _ _ := ⟨ms, ha, hla⟩
    have o3 : okI _ _ := ⟨ts, hb, hlb⟩
    have o4 : okI _ _ := ⟨bs, hc, hlc⟩
    simp only [d1, d2, d3, d4] at hK
    have hr' := hr
    have ha' := ha
    have hb' := hb
    have hc' := hc
    obtain ⟨b0, v0, rfl, hb0⟩ := hr'
    obtain ⟨b1, v1, rfl, hb1⟩ := ha'
    obtain ⟨b2, v2, rfl, hb2⟩ := hb'
    obtain ⟨b3, v3, rfl, hb3⟩ := hc'
    refine AF_run Sp72_ok D0 [] [.tmp 2] hm Try.func72 rfl (by decide) Try.ntmps72 rfl (by kernel_rfl) (Nat.le_of_ble_eq_true rfl) ?_; intro hlo
    cases e1 : okB r l ms ts bs
    · have hz : dryLR r l ms ts bs = [] := by simp [dryLR, e1]
      by_cases hlt : 0 < ms.length
      · repeat' (first | with_reducible refine iteI (fun _ => ?_) (fun _ => ?_) | ((first | unfold AOpsC | unfold AOpsD | skip); simp (maxSteps := 1000000) (disch := (first | omega | assumption | (simp only [List.length_append, List.length_cons, List.length_nil, List.length_set]; omega))) only [go_sem, ↓skipC, ↓exitC, ↓retC, ↓seqC, ↓blockC, ↓condC, ↓regC, ↓drawC, ↓drawStep, ↓AOpC, ↓AOpF, ↓AOpE, ↓AEff, ↓contE_at, ↓contC_at, ↓keepC_at, ↓map_parts, ↓reduceIte, reduceCtorEq, Nat.reduceLT, Nat.reduceEqDiff, Nat.reduceAdd, Nat.reduceMul, Nat.reduceLeDiff, Nat.reduceSub, Nat.reduceBEq, Nat.reduceBNe, Nat.reduceBneDiff, Nat.reduceBeqDiff, ag_28, ag_3, ag_39, by_28, by_3, by_39, el_28, fi_39_1, in_3, nf_39, pl_39, ps_39, sz_28, sz_3, sz_39, ze_28, ze_3, ze_39, Sp72, SOk, hb0, hb1, hb2, hb3, d1, d2, d3, d4, o1, o2, o3, o4, e1]))
        refine ⟨fun st => st.τ 3 = .emp ∧ st.η = η ∧ st.n = 28 ∧ st.τ 1 = .loc 1 1 0 ∧ st.lam 1 = ⟨1, [.int .i64 r, .sl b0 v0 0 l.length, .sl b1 v1 0 ms.length, .sl b2 v2 0 ts.length, .sl b3 v3 0 bs.length]⟩ ∧ st.τ 4 = .int .i64 0, fun _ => 0, .inl ⟨rfl, rfl, rfl, rfl, rfl, rfl⟩, ?_⟩
        rintro ⟨n, τ, lam, η'⟩ ⟨t5, hη, hn, t2, l2, t6⟩; simp only at t5 hη hn t2 l2 t6; subst hη hn
        repeat' (first | with_reducible refine iteI (fun _ => ?_) (fun _ => ?_) | ((first | unfold AOpsC | unfold AOpsD | skip); simp (maxSteps := 1000000) (disch := (first | omega | assumption | (simp only [List.length_append, List.length_cons, List.length_nil, List.length_set]; omega))) only [go_sem, ↓skipC, ↓exitC, ↓retC, ↓seqC, ↓blockC, ↓condC, ↓regC, ↓drawC, ↓drawStep, ↓AOpC, ↓AOpF, ↓AOpE, ↓AEff, ↓contE_at, ↓contC_at, ↓keepC_at, ↓map_parts, ↓reduceIte, reduceCtorEq, Nat.reduceLT, Nat.reduceEqDiff, Nat.reduceAdd, Nat.reduceMul, Nat.reduceLeDiff, Nat.reduceSub, Nat.reduceBEq, Nat.reduceBNe, Nat.reduceBneDiff, Nat.reduceBeqDiff, ag_28, ag_3, ag_39, by_28, by_3, by_39, el_28, fi_39_1, in_3, nf_39, pl_39, ps_39, sz_28, sz_3, sz_39, ze_28, ze_3, ze_39, Sp72, SOk, hb0, hb1, hb2, hb3, d1, d2, d3, d4, o1, o2, o3, o4, e1, t5, t2, l2, t6]))
        exact hK _ _ ((NewI.emp _ _).eq hz.symm) (Ext.refl _)
      · repeat' (first | with_reducible refine iteI (fun _ => ?_) (fun _ => ?_) | ((first | unfold AOpsC | unfold AOpsD | skip); simp (maxSteps := 1000000) (disch := (first | omega | assumption | (simp only [List.length_append, List.length_cons, List.length_nil, List.length_set]; omega))) only [go_sem, ↓skipC, ↓exitC, ↓retC, ↓seqC, ↓blockC, ↓condC, ↓regC, ↓drawC, ↓drawStep, ↓AOpC, ↓AOpF, ↓AOpE, ↓AEff, ↓contE_at, ↓contC_at, ↓keepC_at, ↓map_parts, ↓reduceIte, reduceCtorEq, Nat.reduceLT, Nat.reduceEqDiff, Nat.reduceAdd, Nat.reduceMul, Nat.reduceLeDiff, Nat.reduceSub, Nat.reduceBEq, Nat.reduceBNe, Nat.reduceBneDiff, Nat.reduceBeqDiff, ag_28, ag_3, ag_39, by_28, by_3, by_39, el_28, fi_39_1, in_3, nf_39, pl_39, ps_39, sz_28, sz_3, sz_39, ze_28, ze_3, ze_39, Sp72, SOk, hb0, hb1, hb2, hb3, d1, d2, d3, d4, o1, o2, o3, o4, e1]))
        refine ⟨fun st => st.τ 3 = .emp ∧ st.η = η ∧ st.n = 28 ∧ st.τ 1 = .loc 1 1 0 ∧ st.lam 1 = ⟨1, [.int .i64 r, .sl b0 v0 0 l.length, .sl b1 v1 0 ms.length, .sl b2 v2 0 ts.length, .sl b3 v3 0 bs.length]⟩ ∧ st.τ 4 = .int .i64 0, fun _ => 0, .inl ⟨rfl, rfl, rfl, rfl, rfl, rfl⟩, ?_⟩
        rintro ⟨n, τ, lam, η'⟩ ⟨t5, hη, hn, t2, l2, t6⟩; simp only at t5 hη hn t2 l2 t6; subst hη hn
        repeat' (first | with_reducible refine iteI (fun _ => ?_) (fun _ => ?_) | ((first | unfold AOpsC | unfold AOpsD | skip); simp (maxSteps := 1000000) (disch := (first | omega | assumption | (simp only [List.length_append, List.length_cons, List.length_nil, List.length_set]; omega))) only [go_sem, ↓skipC, ↓exitC, ↓retC, ↓seqC, ↓blockC, ↓condC, ↓regC, ↓drawC, ↓drawStep, ↓AOpC, ↓AOpF, ↓AOpE, ↓AEff, ↓contE_at, ↓contC_at, ↓keepC_at, ↓map_parts, ↓reduceIte, reduceCtorEq, Nat.reduceLT, Nat.reduceEqDiff, Nat.reduceAdd, Nat.reduceMul, Nat.reduceLeDiff, Nat.reduceSub, Nat.reduceBEq, Nat.reduceBNe, Nat.reduceBneDiff, Nat.reduceBeqDiff, ag_28, ag_3, ag_39, by_28, by_3, by_39, el_28, fi_39_1, in_3, nf_39, pl_39, ps_39, sz_28, sz_3, sz_39, ze_28, ze_3, ze_39, Sp72, SOk, hb0, hb1, hb2, hb3, d1, d2, d3, d4, o1, o2, o3, o4, e1, t5, t2, l2, t6]))
        exact hK _ _ ((NewI.emp _ _).eq hz.symm) (Ext.refl _)
    obtain ⟨k1, k2, k3, k4, k5, k6, k7, k8⟩ := okT e1
    repeat' (first | with_reducible refine iteI (fun _ => ?_) (fun _ => ?_) | ((first | unfold AOpsC | unfold AOpsD | skip); simp (maxSteps := 1000000) (disch := (first | omega | assumption | (simp only [List.length_append, List.length_cons, List.length_nil, List.length_set]; omega))) only [go_sem, ↓skipC, ↓exitC, ↓retC, ↓seqC, ↓blockC, ↓condC, ↓regC, ↓drawC, ↓drawStep, ↓AOpC, ↓AOpF, ↓AOpE, ↓AEff, ↓contE_at, ↓contC_at, ↓keepC_at, ↓map_parts, ↓reduceIte, reduceCtorEq, Nat.reduceLT, Nat.reduceEqDiff, Nat.reduceAdd, Nat.reduceMul, Nat.reduceLeDiff, Nat.reduceSub, Nat.reduceBEq, Nat.reduceBNe, Nat.reduceBneDiff, Nat.reduceBeqDiff, ag_28, ag_3, ag_39, by_28, by_3, by_39, el_28, fi_39_1, in_3, nf_39, pl_39, ps_39, sz_28, sz_3, sz_39, ze_28, ze_3, ze_39, Sp72, SOk, hb0, hb1, hb2, hb3, d1, d2, d3, d4, o1, o2, o3, o4, e1]))
    refine ⟨invDryLS η r l (.sl b0 v0 0 l.length) (.sl b1 v1 0 ms.length) (.sl b2 v2 0 ts.length) (.sl b3 v3 0 bs.length) ms ts bs, fun st => ctr ms.length st 4, .inr ⟨3, 3, 1, Nat.le_of_ble_eq_true rfl, rfl, 0, _, η.length, 0, Nat.zero_le _, (Ext.refl η).app _, Nat.le_refl _, by simp [RecE, dryN], rfl, by simp [RecE, upd, dryN], by simp [RecE, upd, dryN], by simp [RecE, upd, dryN], by simp [RecE, upd], rfl⟩, ?_⟩
    rintro ⟨n, τ, lam, η'⟩ ⟨i, H, bl, wer, g0, g1, g2, g3, hn, t1, t3, t4, l1, hη⟩; simp only at hn t1 t3 t4 l1 hη; subst hn hη
    have w0 := g1.blk hb0
    have w1 := g1.blk hb1
    have w2 := g1.blk hb2
    have w3 := g1.blk hb3
    have D1 : dec3 45 η' (.sl b0 v0 0 l.length) = l := IsR.dec3 ⟨b0, v0, rfl, w0⟩
    have D2 : decI η' (.sl b1 v1 0 ms.length) = ms := IsI.dec ⟨b1, v1, rfl, w1⟩
    have D3 : decI η' (.sl b2 v2 0 ts.length) = ts := IsI.dec ⟨b2, v2, rfl, w2⟩
    have D4 : decI η' (.sl b3 v3 0 bs.length) = bs := IsI.dec ⟨b3, v3, rfl, w3⟩
    have O1 : ok3 45 η' (.sl b0 v0 0 l.length) := ⟨l, ⟨b0, v0, rfl, w0⟩, hl⟩
    have O2 : okI η' (.sl b1 v1 0 ms.length) := ⟨ms, ⟨b1, v1, rfl, w1⟩, hla⟩
    have O3 : okI η' (.sl b2 v2 0 ts.length) := ⟨ts, ⟨b2, v2, rfl, w2⟩, hlb⟩
    have O4 : okI η' (.sl b3 v3 0 bs.length) := ⟨bs, ⟨b3, v3, rfl, w3⟩, hlc⟩
    have hHl := blt g3
    have hal := dryN_len ms i
    by_cases hlt : i < ms.length
    · by_cases hm' : ms.getD i 0 = 0
      · have hac : dryN ms (i + 1) = dryN ms i ++ [(i : Int)] := by rw [dryN, if_pos hm']
        repeat' (first | with_reducible refine iteI (fun _ => ?_) (fun _ => ?_) | ((first | unfold AOpsC | unfold AOpsD | skip); simp (maxSteps := 1000000) (disch := (first | omega | assumption | (simp only [List.length_append, List.length_cons, List.length_nil, List.length_set]; omega))) only [go_sem, ↓skipC, ↓exitC, ↓retC, ↓seqC, ↓blockC, ↓condC, ↓regC, ↓drawC, ↓drawStep, ↓AOpC, ↓AOpF, ↓AOpE, ↓AEff, ↓contE_at, ↓contC_at, ↓keepC_at, ↓map_parts, ↓reduceIte, reduceCtorEq, Nat.reduceLT, Nat.reduceEqDiff, Nat.reduceAdd, Nat.reduceMul, Nat.reduceLeDiff, Nat.reduceSub, Nat.reduceBEq, Nat.reduceBNe, Nat.reduceBneDiff, Nat.reduceBeqDiff, ag_28, ag_3, ag_39, by_28, by_3, by_39, el_28, fi_39_1, in_3, nf_39, pl_39, ps_39, sz_28, sz_3, sz_39, ze_28, ze_3, ze_39, Sp72, SOk, w0, w1, w2, w3, D1, D2, D3, D4, O1, O2, O3, O4, t1, t3, t4, l1, e1, g3, takeMap]))
        refine ⟨⟨i + 1, _, bl, wer + 1, by omega, (g1.set g2 _).app _, g2, by rw [hac, app_get (by simpa using hHl), set_eq hHl]; simp, rfl, by simp [upd, t1, t3, t4, hac], by simp [upd, t1, t3, t4, hac], by simp [upd, t1, t3, t4, hac], by simp [upd, l1], rfl⟩, by simp [ctr, upd, t4]; omega⟩
      · have hac : dryN ms (i + 1) = dryN ms i := by rw [dryN, if_neg hm']
        repeat' (first | with_reducible refine iteI (fun _ => ?_) (fun _ => ?_) | ((first | unfold AOpsC | unfold AOpsD | skip); simp (maxSteps := 1000000) (disch := (first | omega | assumption | (simp only [List.length_append, List.length_cons, List.length_nil, List.length_set]; omega))) only [go_sem, ↓skipC, ↓exitC, ↓retC, ↓seqC, ↓blockC, ↓condC, ↓regC, ↓drawC, ↓drawStep, ↓AOpC, ↓AOpF, ↓AOpE, ↓AEff, ↓contE_at, ↓contC_at, ↓keepC_at, ↓map_parts, ↓reduceIte, reduceCtorEq, Nat.reduceLT, Nat.reduceEqDiff, Nat.reduceAdd, Nat.reduceMul, Nat.reduceLeDiff, Nat.reduceSub, Nat.reduceBEq, Nat.reduceBNe, Nat.reduceBneDiff, Nat.reduceBeqDiff, ag_28, ag_3, ag_39, by_28, by_3, by_39, el_28, fi_39_1, in_3, nf_39, pl_39, ps_39, sz_28, sz_3, sz_39, ze_28, ze_3, ze_39, Sp72, SOk, w0, w1, w2, w3, D1, D2, D3, D4, O1, O2, O3, O4, t1, t3, t4, l1, e1, g3, takeMap]))
        refine ⟨⟨i + 1, _, bl, wer, by omega, g1, g2, by rw [hac]; exact g3, rfl, by simp [upd, t1, t3, t4, hac], by simp [upd, t1, t3, t4, hac], by simp [upd, t1, t3, t4, hac], by simp [upd, l1], rfl⟩, by simp [ctr, upd, t4]; omega⟩
    · obtain rfl : i = ms.length := by omega
      repeat' (first | with_reducible refine iteI (fun _ => ?_) (fun _ => ?_) | ((first | unfold AOpsC | unfold AOpsD | skip); simp (maxSteps := 1000000) (disch := (first | omega | assumption | (simp only [List.length_append, List.length_cons, List.length_nil, List.length_set]; omega))) only [go_sem, ↓skipC, ↓exitC, ↓retC, ↓seqC, ↓blockC, ↓condC, ↓regC, ↓drawC, ↓drawStep, ↓AOpC, ↓AOpF, ↓AOpE, ↓AEff, ↓contE_at, ↓contC_at, ↓keepC_at, ↓map_parts, ↓reduceIte, reduceCtorEq, Nat.reduceLT, Nat.reduceEqDiff, Nat.reduceAdd, Nat.reduceMul, Nat.reduceLeDiff, Nat.reduceSub, Nat.reduceBEq, Nat.reduceBNe, Nat.reduceBneDiff, Nat.reduceBeqDiff, ag_28, ag_3, ag_39, by_28, by_3, by_39, el_28, fi_39_1, in_3, nf_39, pl_39, ps_39, sz_28, sz_3, sz_39, ze_28, ze_3, ze_39, Sp72, SOk, w0, w1, w2, w3, D1, D2, D3, D4, O1, O2, O3, O4, t1, t3, t4, l1, e1]))
      exact hK _ _ ((NewI.mk g2 g3).eq (by rw [dryLR, if_pos e1])) g1
  · exact h.elim

def invDryLI (η : List Blk) (r : Int) (l : List Id3) (v a b c : AV) (ms ts bs : List Int) (st : St) : Prop := ∃ i : Nat, ∃ H : List Blk, ∃ bl : Nat, ∃ wer : Nat, (i ≤ ms.length) ∧ (Ext η H) ∧ (η.length ≤ bl) ∧ (H[bl]? = some ⟨wer, 3, 1, (dryN ms i).map (.int .i64)⟩) ∧ st.n = 26 ∧ st.τ 1 = .loc 1 1 0 ∧ st.τ 3 = .sl bl wer 0 (dryN ms i).length ∧ st.τ 11 = a ∧ st.τ 12 = .int .i64 ms.length ∧ st.τ 13 = .int .i64 i ∧ st.lam 1 = ⟨1, [.int .i64 r, v, a, b, c]⟩ ∧ st.η = H

/- impl.DryLeaves -/
def Sp73 (lo : Nat) : Spec := fun g args η K => match g with | 107 => SOk args η K | _ => False
theorem Sp73_ok {lo : Nat} : Sound Try.prog lo (Sp73 lo) := by
  intro g args η K h
  unfold Sp73 at h
  split at h
  · exact f107_ok h
  · exact h.elim
theorem f73_ok {lo : Nat} {args : List AV} {η : List Blk} {K : AV → List Blk → Prop} (h : SDryL args η K) : AF Try.prog lo 73 args η K := by
  unfold SDryL at h
  split at h
  · obtain ⟨⟨⟨l, hr, hl⟩, ⟨ms, ha, hla⟩, ⟨ts, hb, hlb⟩, ⟨bs, hc, hlc⟩⟩, hK⟩ := h
    rename_i r _ _ _ _
    have d1 := hr.dec3
    have d2 := ha.dec
    have d3 := hb.dec
    have d4 := hc.dec
    have o1 : ok3 45 _ _ := ⟨l, hr, hl⟩
    have o2 : okI _ _ := ⟨ms, ha, hla⟩
    have o3 : okI _ _ := ⟨ts, hb, hlb⟩
    have o4 : okI _ _ := ⟨bs, hc, hlc⟩
    simp only [d1, d2, d3, d4] at hK
    have hr' := hr
    have ha' := ha
    have hb' := hb
    have hc' := hc
    obtain ⟨b0, v0, rfl, hb0⟩ := hr'
    obtain ⟨b1, v1, rfl, hb1⟩ := ha'
    obtain ⟨b2, v2, rfl, hb2⟩ := hb'
    obtain ⟨b3, v3, rfl, hb3⟩ := hc'
    refine AF_run Sp73_ok D0 [] [.tmp 2] hm Try.func73 rfl (by decide) Try.ntmps73 rfl (by kernel_rfl) (Nat.le_of_ble_eq_true rfl) ?_; intro hlo
    cases e1 : okB r l ms ts bs
    · repeat' (first | with_reducible refine iteI (fun _ => ?_) (fun _ => ?_) | ((first | unfold AOpsC | unfold AOpsD | skip); simp (maxSteps := 1000000) (disch := (first | omega | assumption | (simp only [List.length_append, List.length_cons, List.length_nil, List.length_set]; omega))) only [go_sem, ↓skipC, ↓exitC, ↓retC, ↓seqC, ↓blockC, ↓condC, ↓regC, ↓drawC, ↓drawStep, ↓AOpC, ↓AOpF, ↓AOpE, ↓AEff, ↓contE_at, ↓contC_at, ↓keepC_at, ↓map_parts, ↓reduceIte, reduceCtorEq, Nat.reduceLT, Nat.reduceEqDiff, Nat.reduceAdd, Nat.reduceMul, Nat.reduceLeDiff, Nat.reduceSub, Nat.reduceBEq, Nat.reduceBNe, Nat.reduceBneDiff, Nat.reduceBeqDiff, ag_28, ag_3, ag_39, by_28, by_3, by_39, el_28, fi_39_1, in_3, nf_39, pl_39, ps_39, sz_28, sz_3, sz_39, ze_28, ze_3, ze_39, Sp73, SOk, hb0, hb1, hb2, hb3, d1, d2, d3, d4, o1, o2, o3, o4, e1]))
      exact hK _ _ ((NewI.nil _ _).eq (by simp [dryLR, e1])) (Ext.refl _)
    obtain ⟨k1, k2, k3, k4, k5, k6, k7, k8⟩ := okT e1
    repeat' (first | with_reducible refine iteI (fun _ => ?_) (fun _ => ?_) | ((first | unfold AOpsC | unfold AOpsD | skip); simp (maxSteps := 1000000) (disch := (first | omega | assumption | (simp only [List.length_append, List.length_cons, List.length_nil, List.length_set]; omega))) only [go_sem, ↓skipC, ↓exitC, ↓retC, ↓seqC, ↓blockC, ↓condC, ↓regC, ↓drawC, ↓drawStep, ↓AOpC, ↓AOpF, ↓AOpE, ↓AEff, ↓contE_at, ↓contC_at, ↓keepC_at, ↓map_parts, ↓reduceIte, reduceCtorEq, Nat.reduceLT, Nat.reduceEqDiff, Nat.reduceAdd, Nat.reduceMul, Nat.reduceLeDiff, Nat.reduceSub, Nat.reduceBEq, Nat.reduceBNe, Nat.reduceBneDiff, Nat.reduceBeqDiff, ag_28, ag_3, ag_39, by_28, by_3, by_39, el_28, fi_39_1, in_3, nf_39, pl_39, ps_39, sz_28, sz_3, sz_39, ze_28, ze_3, ze_39, Sp73, SOk, hb0, hb1, hb2, hb3, d1, d2, d3, d4, o1, o2, o3, o4, e1]))
    refine ⟨invDryLI η r l (.sl b0 v0 0 l.length) (.sl b1 v1 0 ms.length) (.sl b2 v2 0 ts.length) (.sl b3 v3 0 bs.length) ms ts bs, fun st => ctr ms.length st 13, .inr ⟨3, 3, 1, Nat.le_of_ble_eq_true rfl, rfl, 0, _, η.length, 0, Nat.zero_le _, (Ext.refl η).app _, Nat.le_refl _, by simp [RecE, dryN], rfl, by simp [RecE, upd, dryN], by simp [RecE, upd, dryN], by simp [RecE, upd, dryN], by simp [RecE, upd, dryN], by simp [RecE, upd, dryN], by simp [RecE, upd], rfl⟩, ?_⟩
    rintro ⟨n, τ, lam, η'⟩ ⟨i, H, bl, wer, g0, g1, g2, g3, hn, t1, t3, t11, t12, t13, l1, hη⟩; simp only at hn t1 t3 t11 t12 t13 l1 hη; subst hn hη
    have w0 := g1.blk hb0
    have w1 := g1.blk hb1
    have w2 := g1.blk hb2
    have w3 := g1.blk hb3
    have D1 : dec3 45 η' (.sl b0 v0 0 l.length) = l := IsR.dec3 ⟨b0, v0, rfl, w0⟩
    have D2 : decI η' (.sl b1 v1 0 ms.length) = ms := IsI.dec ⟨b1, v1, rfl, w1⟩
    have D3 : decI η' (.sl b2 v2 0 ts.length) = ts := IsI.dec ⟨b2, v2, rfl, w2⟩
    have D4 : decI η' (.sl b3 v3 0 bs.length) = bs := IsI.dec ⟨b3, v3, rfl, w3⟩
    have O1 : ok3 45 η' (.sl b0 v0 0 l.length) := ⟨l, ⟨b0, v0, rfl, w0⟩, hl⟩
    have O2 : okI η' (.sl b1 v1 0 ms.length) := ⟨ms, ⟨b1, v1, rfl, w1⟩, hla⟩
    have O3 : okI η' (.sl b2 v2 0 ts.length) := ⟨ts, ⟨b2, v2, rfl, w2⟩, hlb⟩
    have O4 : okI η' (.sl b3 v3 0 bs.length) := ⟨bs, ⟨b3, v3, rfl, w3⟩, hlc⟩
    have hHl := blt g3
    have hal := dryN_len ms i
    by_cases hlt : i < ms.length
    · by_cases hm' : ms.getD i 0 = 0
      · have hac : dryN ms (i + 1) = dryN ms i ++ [(i : Int)] := by rw [dryN, if_pos hm']
        repeat' (first | with_reducible refine iteI (fun _ => ?_) (fun _ => ?_) | ((first | unfold AOpsC | unfold AOpsD | skip); simp (maxSteps := 1000000) (disch := (first | omega | assumption | (simp only [List.length_append, List.length_cons, List.length_nil, List.length_set]; omega))) only [go_sem, ↓skipC, ↓exitC, ↓retC, ↓seqC, ↓blockC, ↓condC, ↓regC, ↓drawC, ↓drawStep, ↓AOpC, ↓AOpF, ↓AOpE, ↓AEff, ↓contE_at, ↓contC_at, ↓keepC_at, ↓map_parts, ↓reduceIte, reduceCtorEq, Nat.reduceLT, Nat.reduceEqDiff, Nat.reduceAdd, Nat.reduceMul, Nat.reduceLeDiff, Nat.reduceSub, Nat.reduceBEq, Nat.reduceBNe, Nat.reduceBneDiff, Nat.reduceBeqDiff, ag_28, ag_3, ag_39, by_28, by_3, by_39, el_28, fi_39_1, in_3, nf_39, pl_39, ps_39, sz_28, sz_3, sz_39, ze_28, ze_3, ze_39, Sp73, SOk, w0, w1, w2, w3, D1, D2, D3, D4, O1, O2, O3, O4, t1, t3, t11, t12, t13, l1, e1, g3, takeMap]))
        refine ⟨⟨i + 1, _, bl, wer + 1, by omega, (g1.set g2 _).app _, g2, by rw [hac, app_get (by simpa using hHl), set_eq hHl]; simp, rfl, by simp [upd, t1, t3, t11, t12, t13, hac], by simp [upd, t1, t3, t11, t12, t13, hac], by simp [upd, t1, t3, t11, t12, t13, hac], by simp [upd, t1, t3, t11, t12, t13, hac], by simp [upd, t1, t3, t11, t12, t13, hac], by simp [upd, l1], rfl⟩, by simp [ctr, upd, t13]; omega⟩
      · have hac : dryN ms (i + 1) = dryN ms i := by rw [dryN, if_neg hm']
        repeat' (first | with_reducible refine iteI (fun _ => ?_) (fun _ => ?_) | ((first | unfold AOpsC | unfold AOpsD | skip); simp (maxSteps := 1000000) (disch := (first | omega | assumption | (simp only [List.length_append, List.length_cons, List.length_nil, List.length_set]; omega))) only [go_sem, ↓skipC, ↓exitC, ↓retC, ↓seqC, ↓blockC, ↓condC, ↓regC, ↓drawC, ↓drawStep, ↓AOpC, ↓AOpF, ↓AOpE, ↓AEff, ↓contE_at, ↓contC_at, ↓keepC_at, ↓map_parts, ↓reduceIte, reduceCtorEq, Nat.reduceLT, Nat.reduceEqDiff, Nat.reduceAdd, Nat.reduceMul, Nat.reduceLeDiff, Nat.reduceSub, Nat.reduceBEq, Nat.reduceBNe, Nat.reduceBneDiff, Nat.reduceBeqDiff, ag_28, ag_3, ag_39, by_28, by_3, by_39, el_28, fi_39_1, in_3, nf_39, pl_39, ps_39, sz_28, sz_3, sz_39, ze_28, ze_3, ze_39, Sp73, SOk, w0, w1, w2, w3, D1, D2, D3, D4, O1, O2, O3, O4, t1, t3, t11, t12, t13, l1, e1, g3, takeMap]))
        refine ⟨⟨i + 1, _, bl, wer, by omega, g1, g2, by rw [hac]; exact g3, rfl, by simp [upd, t1, t3, t11, t12, t13, hac], by simp [upd, t1, t3, t11, t12, t13, hac], by simp [upd, t1, t3, t11, t12, t13, hac], by simp [upd, t1, t3, t11, t12, t13, hac], by simp [upd, t1, t3, t11, t12, t13, hac], by simp [upd, l1], rfl⟩, by simp [ctr, upd, t13]; omega⟩
    · obtain rfl : i = ms.length := by omega
      repeat' (first | with_reducible refine iteI (fun _ => ?_) (fun _ => ?_) | ((first | unfold AOpsC | unfold AOpsD | skip); simp (maxSteps := 1000000) (disch := (first | omega | assumption | (simp only [List.length_append, List.length_cons, List.length_nil, List.length_set]; omega))) only [go_sem, ↓skipC, ↓exitC, ↓retC, ↓seqC, ↓blockC, ↓condC, ↓regC, ↓drawC, ↓drawStep, ↓AOpC, ↓AOpF, ↓AOpE, ↓AEff, ↓contE_at, ↓contC_at, ↓keepC_at, ↓map_parts, ↓reduceIte, reduceCtorEq, Nat.reduceLT, Nat.reduceEqDiff, Nat.reduceAdd, Nat.reduceMul, Nat.reduceLeDiff, Nat.reduceSub, Nat.reduceBEq, Nat.reduceBNe, Nat.reduceBneDiff, Nat.reduceBeqDiff, ag_28, ag_3, ag_39, by_28, by_3, by_39, el_28, fi_39_1, in_3, nf_39, pl_39, ps_39, sz_28, sz_3, sz_39, ze_28, ze_3, ze_39, Sp73, SOk, w0, w1, w2, w3, D1, D2, D3, D4, O1, O2, O3, O4, t1, t3, t11, t12, t13, l1, e1]))
      exact hK _ _ ((NewI.mk g2 g3).eq (by rw [dryLR, if_pos e1])) g1
  · exact h.elim

def wlN (l : List Id3) (ms : List Int) : Nat → Int × Int
  | 0 => (-1, 0)
  | i + 1 => if ms.getD i 0 = 0 then wlN l ms i else (if (wlN l ms i).1 < 0 then stI (l.getD i (0, 0, 0)).1 (l.getD i (0, 0, 0)).2.1 (l.getD i (0, 0, 0)).2.2 else (wlN l ms i).1, enI (l.getD i (0, 0, 0)).1 (l.getD i (0, 0, 0)).2.1 (l.getD i (0, 0, 0)).2.2)
def max0 (x : Int) : Int := if x < 0 then 0 else x
def wlR (r : Int) (l : List Id3) (ms ts bs : List Int) : Int × Int := if okB r l ms ts bs = true then (max0 (wlN l ms ms.length).1, (wlN l ms ms.length).2) else (0, 0)
theorem st_nn {x : Id3} (h : idT x = true) : 0 ≤ stI x.1 x.2.1 x.2.2 ∧ 0 < enI x.1 x.2.1 x.2.2 := by
  have b := id_bd h
  unfold enI stI
  rw [if_pos (show idB x.1 x.2.1 x.2.2 = true from h)]
  omega
theorem wlN_inv {l : List Id3} {ms : List Int} (hi : ∀ x ∈ l, idT x = true) : ∀ i, i ≤ l.length → ((wlN l ms i).1 < 0 ∧ (wlN l ms i).2 = 0) ∨ (0 ≤ (wlN l ms i).1 ∧ 0 < (wlN l ms i).2)
  | 0, _ => by simp [wlN]
  | i + 1, h => by
    have ih := wlN_inv hi (ms := ms) i (by omega)
    have hs := st_nn (hi _ (getD_mem (d := (0, 0, 0)) (show i < l.length by omega)))
    rw [wlN]
    split
    · exact ih
    · right
      dsimp only
      refine ⟨?_, hs.2⟩
      split
      · exact hs.1
      · omega
def SWl : List AV → List Blk → (AV → List Blk → Prop) → Prop
  | [.agg [.int .i64 r, v, a, b, c]], η, K => (ok3 45 η v ∧ okI η a ∧ okI η b ∧ okI η c) ∧ K (.tup [.int .i64 (wlR r (dec3 45 η v) (decI η a) (decI η b) (decI η c)).1, .int .i64 (wlR r (dec3 45 η v) (decI η a) (decI η b) (decI η c)).2]) η
  | _, _, _ => False
theorem KT2 {K : AV → List Blk → Prop} {η : List Blk} {a b c d : Int} (h : K (.tup [.int .i64 a, .int .i64 b]) η) (e : a = c) (f : b = d) : K (.tup [.int .i64 c, .int .i64 d]) η := e ▸ f ▸ h

def invWlS (η : List Blk) (r : Int) (l : List Id3) (v a b c : AV) (ms ts bs : List Int) (st : St) : Prop := ∃ i : Nat, (i ≤ ms.length) ∧ st.n = 43 ∧ st.τ 1 = .loc 1 1 0 ∧ st.τ 4 = .int .i64 (wlN l ms i).1 ∧ st.τ 5 = .int .i64 (wlN l ms i).2 ∧ st.τ 6 = .int .i64 i ∧ st.lam 1 = ⟨1, [.int .i64 r, v, a, b, c]⟩ ∧ st.η = η

/- spec.WaterLine -/
def Sp58 (lo : Nat) : Spec := fun g args η K => match g with | 49 => SOk args η K | 131 => SSt args η K | 132 => SEn args η K | _ => False
theorem Sp58_ok {lo : Nat} : Sound Try.prog lo (Sp58 lo) := by
  intro g args η K h
  unfold Sp58 at h
  split at h
  · exact f49_ok h
  · exact f131_ok h
  · exact f132_ok h
  · exact h.elim
theorem f58_ok {lo : Nat} {args : List AV} {η : List Blk} {K : AV → List Blk → Prop} (h : SWl args η K) : AF Try.prog lo 58 args η K := by
  unfold SWl at h
  split at h
  · obtain ⟨⟨⟨l, hr, hl⟩, ⟨ms, ha, hla⟩, ⟨ts, hb, hlb⟩, ⟨bs, hc, hlc⟩⟩, hK⟩ := h
    rename_i r _ _ _ _
    have d1 := hr.dec3
    have d2 := ha.dec
    have d3 := hb.dec
    have d4 := hc.dec
    have o1 : ok3 45 _ _ := ⟨l, hr, hl⟩
    have o2 : okI _ _ := ⟨ms, ha, hla⟩
    have o3 : okI _ _ := ⟨ts, hb, hlb⟩
    have o4 : okI _ _ := ⟨bs, hc, hlc⟩
    simp only [d1, d2, d3, d4] at hK
    have hr' := hr
    have ha' := ha
    have hb' := hb
    have hc' := hc
    obtain ⟨b0, v0, rfl, hb0⟩ := hr'
    obtain ⟨b1, v1, rfl, hb1⟩ := ha'
    obtain ⟨b2, v2, rfl, hb2⟩ := hb'
    obtain ⟨b3, v3, rfl, hb3⟩ := hc'
    refine AF_run Sp58_ok D0 [] [.tmp 2, .tmp 3] hm Try.func58 rfl (by decide) Try.ntmps58 rfl (by kernel_rfl) (Nat.le_of_ble_eq_true rfl) ?_; intro hlo
    cases e1 : okB r l ms ts bs
    · have hz : wlR r l ms ts bs = (0, 0) := by simp [wlR, e1]
      rw [hz] at hK
      by_cases hlt : 0 < ms.length
      · repeat' (first | with_reducible refine iteI (fun _ => ?_) (fun _ => ?_) | ((first | unfold AOpsC | unfold AOpsD | skip); simp (maxSteps := 1000000) (disch := (first | omega | assumption | (simp only [List.length_append, List.length_cons, List.length_nil, List.length_set]; omega))) only [go_sem, ↓skipC, ↓exitC, ↓retC, ↓seqC, ↓blockC, ↓condC, ↓regC, ↓drawC, ↓drawStep, ↓AOpC, ↓AOpF, ↓AOpE, ↓AEff, ↓contE_at, ↓contC_at, ↓keepC_at, ↓map_parts, ↓reduceIte, reduceCtorEq, Nat.reduceLT, Nat.reduceEqDiff, Nat.reduceAdd, Nat.reduceMul, Nat.reduceLeDiff, Nat.reduceSub, Nat.reduceBEq, Nat.reduceBNe, Nat.reduceBneDiff, Nat.reduceBeqDiff, ag_24, ag_28, ag_3, ag_39, ag_45, by_24, by_28, by_3, by_39, by_45, el_24, el_28, fi_26_1, fi_39_0, fi_39_1, in_3, nf_39, nf_45, pl_39, pl_45, ps_39, ps_45, sz_24, sz_28, sz_3, sz_39, sz_45, ze_24, ze_28, ze_3, ze_39, ze_45, Sp58, SOk, SSt, SEn, hb0, hb1, hb2, hb3, d1, d2, d3, d4, o1, o2, o3, o4, e1]))
        refine ⟨fun st => st.τ 4 = .int .i64 (-1) ∧ st.τ 5 = .int .i64 0 ∧ st.η = η ∧ st.n = 43 ∧ st.τ 1 = .loc 1 1 0 ∧ st.lam 1 = ⟨1, [.int .i64 r, .sl b0 v0 0 l.length, .sl b1 v1 0 ms.length, .sl b2 v2 0 ts.length, .sl b3 v3 0 bs.length]⟩ ∧ st.τ 6 = .int .i64 0, fun _ => 0, .inl ⟨rfl, rfl, rfl, rfl, rfl, rfl, rfl⟩, ?_⟩
        rintro ⟨n, τ, lam, η'⟩ ⟨t4, t5, hη, hn, t2, l2, t6⟩; simp only at t4 t5 hη hn t2 l2 t6; subst hη hn
        repeat' (first | with_reducible refine iteI (fun _ => ?_) (fun _ => ?_) | ((first | unfold AOpsC | unfold AOpsD | skip); simp (maxSteps := 1000000) (disch := (first | omega | assumption | (simp only [List.length_append, List.length_cons, List.length_nil, List.length_set]; omega))) only [go_sem, ↓skipC, ↓exitC, ↓retC, ↓seqC, ↓blockC, ↓condC, ↓regC, ↓drawC, ↓drawStep, ↓AOpC, ↓AOpF, ↓AOpE, ↓AEff, ↓contE_at, ↓contC_at, ↓keepC_at, ↓map_parts, ↓reduceIte, reduceCtorEq, Nat.reduceLT, Nat.reduceEqDiff, Nat.reduceAdd, Nat.reduceMul, Nat.reduceLeDiff, Nat.reduceSub, Nat.reduceBEq, Nat.reduceBNe, Nat.reduceBneDiff, Nat.reduceBeqDiff, ag_24, ag_28, ag_3, ag_39, ag_45, by_24, by_28, by_3, by_39, by_45, el_24, el_28, fi_26_1, fi_39_0, fi_39_1, in_3, nf_39, nf_45, pl_39, pl_45, ps_39, ps_45, sz_24, sz_28, sz_3, sz_39, sz_45, ze_24, ze_28, ze_3, ze_39, ze_45, Sp58, SOk, SSt, SEn, hb0, hb1, hb2, hb3, d1, d2, d3, d4, o1, o2, o3, o4, e1, t4, t5, t2, l2, t6, maxStep, List.foldl_cons, List.foldl_nil]))
        exact hK
      · repeat' (first | with_reducible refine iteI (fun _ => ?_) (fun _ => ?_) | ((first | unfold AOpsC | unfold AOpsD | skip); simp (maxSteps := 1000000) (disch := (first | omega | assumption | (simp only [List.length_append, List.length_cons, List.length_nil, List.length_set]; omega))) only [go_sem, ↓skipC, ↓exitC, ↓retC, ↓seqC, ↓blockC, ↓condC, ↓regC, ↓drawC, ↓drawStep, ↓AOpC, ↓AOpF, ↓AOpE, ↓AEff, ↓contE_at, ↓contC_at, ↓keepC_at, ↓map_parts, ↓reduceIte, reduceCtorEq, Nat.reduceLT, Nat.reduceEqDiff, Nat.reduceAdd, Nat.reduceMul, Nat.reduceLeDiff, Nat.reduceSub, Nat.reduceBEq, Nat.reduceBNe, Nat.reduceBneDiff, Nat.reduceBeqDiff, ag_24, ag_28, ag_3, ag_39, ag_45, by_24, by_28, by_3, by_39, by_45, el_24, el_28, fi_26_1, fi_39_0, fi_39_1, in_3, nf_39, nf_45, pl_39, pl_45, ps_39, ps_45, sz_24, sz_28, sz_3, sz_39, sz_45, ze_24, ze_28, ze_3, ze_39, ze_45, Sp58, SOk, SSt, SEn, hb0, hb1, hb2, hb3, d1, d2, d3, d4, o1, o2, o3, o4, e1]))
        refine ⟨fun st => st.τ 4 = .int .i64 (-1) ∧ st.τ 5 = .int .i64 0 ∧ st.η = η ∧ st.n = 43 ∧ st.τ 1 = .loc 1 1 0 ∧ st.lam 1 = ⟨1, [.int .i64 r, .sl b0 v0 0 l.length, .sl b1 v1 0 ms.length, .sl b2 v2 0 ts.length, .sl b3 v3 0 bs.length]⟩ ∧ st.τ 6 = .int .i64 0, fun _ => 0, .inl ⟨rfl, rfl, rfl, rfl, rfl, rfl, rfl⟩, ?_⟩
        rintro ⟨n, τ, lam, η'⟩ ⟨t4, t5, hη, hn, t2, l2, t6⟩; simp only at t4 t5 hη hn t2 l2 t6; subst hη hn
        repeat' (first | with_reducible refine iteI (fun _ => ?_) (fun _ => ?_) | ((first | unfold AOpsC | unfold AOpsD | skip); simp (maxSteps := 1000000) (disch := (first | omega | assumption | (simp only [List.length_append, List.length_cons, List.length_nil, List.length_set]; omega))) only [go_sem, ↓skipC, ↓exitC, ↓retC, ↓seqC, ↓blockC, ↓condC, ↓regC, ↓drawC, ↓drawStep, ↓AOpC, ↓AOpF, ↓AOpE, ↓AEff, ↓contE_at, ↓contC_at, ↓keepC_at, ↓map_parts, ↓reduceIte, reduceCtorEq, Nat.reduceLT, Nat.reduceEqDiff, Nat.reduceAdd, Nat.reduceMul, Nat.reduceLeDiff, Nat.reduceSub, Nat.reduceBEq, Nat.reduceBNe, Nat.reduceBneDiff, Nat.reduceBeqDiff, ag_24, ag_28, ag_3, ag_39, ag_45, by_24, by_28, by_3, by_39, by_45, el_24, el_28, fi_26_1, fi_39_0, fi_39_1, in_3, nf_39, nf_45, pl_39, pl_45, ps_39, ps_45, sz_24, sz_28, sz_3, sz_39, sz_45, ze_24, ze_28, ze_3, ze_39, ze_45, Sp58, SOk, SSt, SEn, hb0, hb1, hb2, hb3, d1, d2, d3, d4, o1, o2, o3, o4, e1, t4, t5, t2, l2, t6, maxStep, List.foldl_cons, List.foldl_nil]))
        exact hK
    obtain ⟨k1, k2, k3, k4, k5, k6, k7, k8⟩ := okT e1
    repeat' (first | with_reducible refine iteI (fun _ => ?_) (fun _ => ?_) | ((first | unfold AOpsC | unfold AOpsD | skip); simp (maxSteps := 1000000) (disch := (first | omega | assumption | (simp only [List.length_append, List.length_cons, List.length_nil, List.length_set]; omega))) only [go_sem, ↓skipC, ↓exitC, ↓retC, ↓seqC, ↓blockC, ↓condC, ↓regC, ↓drawC, ↓drawStep, ↓AOpC, ↓AOpF, ↓AOpE, ↓AEff, ↓contE_at, ↓contC_at, ↓keepC_at, ↓map_parts, ↓reduceIte, reduceCtorEq, Nat.reduceLT, Nat.reduceEqDiff, Nat.reduceAdd, Nat.reduceMul, Nat.reduceLeDiff, Nat.reduceSub, Nat.reduceBEq, Nat.reduceBNe, Nat.reduceBneDiff, Nat.reduceBeqDiff, ag_24, ag_28, ag_3, ag_39, ag_45, by_24, by_28, by_3, by_39, by_45, el_24, el_28, fi_26_1, fi_39_0, fi_39_1, in_3, nf_39, nf_45, pl_39, pl_45, ps_39, ps_45, sz_24, sz_28, sz_3, sz_39, sz_45, ze_24, ze_28, ze_3, ze_39, ze_45, Sp58, SOk, SSt, SEn, hb0, hb1, hb2, hb3, d1, d2, d3, d4, o1, o2, o3, o4, e1]))
    refine ⟨invWlS η r l (.sl b0 v0 0 l.length) (.sl b1 v1 0 ms.length) (.sl b2 v2 0 ts.length) (.sl b3 v3 0 bs.length) ms ts bs, fun st => ctr ms.length st 6, .inl ⟨0, Nat.zero_le _, rfl, (by first | (simp [upd]; done) | (simp [upd, *]; done) | rfl), (by first | (simp [upd]; done) | (simp [upd, *]; done) | rfl), (by first | (simp [upd]; done) | (simp [upd, *]; done) | rfl), (by first | (simp [upd]; done) | (simp [upd, *]; done) | rfl), (by first | (simp [upd]; done) | (simp [upd, *]; done) | rfl), rfl⟩, ?_⟩
    rintro ⟨n, τ, lam, η'⟩ ⟨i, g0, hn, t1, t4, t5, t6, l1, hη⟩; simp only at hn t1 t4 t5 t6 l1 hη; subst hn hη
    have hinv := wlN_inv (ms := ms) (mesh_ids k1) i (by omega)
    by_cases hlt : i < ms.length
    · by_cases hm' : ms.getD i 0 = 0
      · have hac : wlN l ms (i + 1) = wlN l ms i := by rw [wlN, if_pos hm']
        repeat' (first | with_reducible refine iteI (fun _ => ?_) (fun _ => ?_) | ((first | unfold AOpsC | unfold AOpsD | skip); simp (maxSteps := 1000000) (disch := (first | omega | assumption | (simp only [List.length_append, List.length_cons, List.length_nil, List.length_set]; omega))) only [go_sem, ↓skipC, ↓exitC, ↓retC, ↓seqC, ↓blockC, ↓condC, ↓regC, ↓drawC, ↓drawStep, ↓AOpC, ↓AOpF, ↓AOpE, ↓AEff, ↓contE_at, ↓contC_at, ↓keepC_at, ↓map_parts, ↓reduceIte, reduceCtorEq, Nat.reduceLT, Nat.reduceEqDiff, Nat.reduceAdd, Nat.reduceMul, Nat.reduceLeDiff, Nat.reduceSub, Nat.reduceBEq, Nat.reduceBNe, Nat.reduceBneDiff, Nat.reduceBeqDiff, ag_24, ag_28, ag_3, ag_39, ag_45, by_24, by_28, by_3, by_39, by_45, el_24, el_28, fi_26_1, fi_39_0, fi_39_1, in_3, nf_39, nf_45, pl_39, pl_45, ps_39, ps_45, sz_24, sz_28, sz_3, sz_39, sz_45, ze_24, ze_28, ze_3, ze_39, ze_45, Sp58, SOk, SSt, SEn, hb0, hb1, hb2, hb3, d1, d2, d3, d4, o1, o2, o3, o4, t1, t4, t5, t6, l1, e1]))
        refine ⟨⟨i + 1, hlt, rfl, by simp [upd, t1, t4, t5, t6, hac], by simp [upd, t1, t4, t5, t6, hac], by simp [upd, t1, t4, t5, t6, hac], by simp [upd, t1, t4, t5, t6, hac], by simp [upd, l1], rfl⟩, by simp [ctr, upd, t6]; omega⟩
      · by_cases hf : (wlN l ms i).1 < 0
        · have hac : wlN l ms (i + 1) = (stI (l.getD i (0, 0, 0)).1 (l.getD i (0, 0, 0)).2.1 (l.getD i (0, 0, 0)).2.2, enI (l.getD i (0, 0, 0)).1 (l.getD i (0, 0, 0)).2.1 (l.getD i (0, 0, 0)).2.2) := by rw [wlN, if_neg hm', if_pos hf]
          repeat' (first | with_reducible refine iteI (fun _ => ?_) (fun _ => ?_) | ((first | unfold AOpsC | unfold AOpsD | skip); simp (maxSteps := 1000000) (disch := (first | omega | assumption | (simp only [List.length_append, List.length_cons, List.length_nil, List.length_set]; omega))) only [go_sem, ↓skipC, ↓exitC, ↓retC, ↓seqC, ↓blockC, ↓condC, ↓regC, ↓drawC, ↓drawStep, ↓AOpC, ↓AOpF, ↓AOpE, ↓AEff, ↓contE_at, ↓contC_at, ↓keepC_at, ↓map_parts, ↓reduceIte, reduceCtorEq, Nat.reduceLT, Nat.reduceEqDiff, Nat.reduceAdd, Nat.reduceMul, Nat.reduceLeDiff, Nat.reduceSub, Nat.reduceBEq, Nat.reduceBNe, Nat.reduceBneDiff, Nat.reduceBeqDiff, ag_24, ag_28, ag_3, ag_39, ag_45, by_24, by_28, by_3, by_39, by_45, el_24, el_28, fi_26_1, fi_39_0, fi_39_1, in_3, nf_39, nf_45, pl_39, pl_45, ps_39, ps_45, sz_24, sz_28, sz_3, sz_39, sz_45, ze_24, ze_28, ze_3, ze_39, ze_45, Sp58, SOk, SSt, SEn, hb0, hb1, hb2, hb3, d1, d2, d3, d4, o1, o2, o3, o4, t1, t4, t5, t6, l1, e1]))
          refine ⟨⟨i + 1, hlt, rfl, by simp [upd, t1, t4, t5, t6, hac], by simp [upd, t1, t4, t5, t6, hac], by simp [upd, t1, t4, t5, t6, hac], by simp [upd, t1, t4, t5, t6, hac], by simp [upd, l1], rfl⟩, by simp [ctr, upd, t6]; omega⟩
        · have hac : wlN l ms (i + 1) = ((wlN l ms i).1, enI (l.getD i (0, 0, 0)).1 (l.getD i (0, 0, 0)).2.1 (l.getD i (0, 0, 0)).2.2) := by rw [wlN, if_neg hm', if_neg hf]
          repeat' (first | with_reducible refine iteI (fun _ => ?_) (fun _ => ?_) | ((first | unfold AOpsC | unfold AOpsD | skip); simp (maxSteps := 1000000) (disch := (first | omega | assumption | (simp only [List.length_append, List.length_cons, List.length_nil, List.length_set]; omega))) only [go_sem, ↓skipC, ↓exitC, ↓retC, ↓seqC, ↓blockC, ↓condC, ↓regC, ↓drawC, ↓drawStep, ↓AOpC, ↓AOpF, ↓AOpE, ↓AEff, ↓contE_at, ↓contC_at, ↓keepC_at, ↓map_parts, ↓reduceIte, reduceCtorEq, Nat.reduceLT, Nat.reduceEqDiff, Nat.reduceAdd, Nat.reduceMul, Nat.reduceLeDiff, Nat.reduceSub, Nat.reduceBEq, Nat.reduceBNe, Nat.reduceBneDiff, Nat.reduceBeqDiff, ag_24, ag_28, ag_3, ag_39, ag_45, by_24, by_28, by_3, by_39, by_45, el_24, el_28, fi_26_1, fi_39_0, fi_39_1, in_3, nf_39, nf_45, pl_39, pl_45, ps_39, ps_45, sz_24, sz_28, sz_3, sz_39, sz_45, ze_24, ze_28, ze_3, ze_39, ze_45, Sp58, SOk, SSt, SEn, hb0, hb1, hb2, hb3, d1, d2, d3, d4, o1, o2, o3, o4, t1, t4, t5, t6, l1, e1]))
          refine ⟨⟨i + 1, hlt, rfl, by simp [upd, t1, t4, t5, t6, hac], by simp [upd, t1, t4, t5, t6, hac], by simp [upd, t1, t4, t5, t6, hac], by simp [upd, t1, t4, t5, t6, hac], by simp [upd, l1], rfl⟩, by simp [ctr, upd, t6]; omega⟩
    · obtain rfl : i = ms.length := by omega
      repeat' (first | with_reducible refine iteI (fun _ => ?_) (fun _ => ?_) | ((first | unfold AOpsC | unfold AOpsD | skip); simp (maxSteps := 1000000) (disch := (first | omega | assumption | (simp only [List.length_append, List.length_cons, List.length_nil, List.length_set]; omega))) only [go_sem, ↓skipC, ↓exitC, ↓retC, ↓seqC, ↓blockC, ↓condC, ↓regC, ↓drawC, ↓drawStep, ↓AOpC, ↓AOpF, ↓AOpE, ↓AEff, ↓contE_at, ↓contC_at, ↓keepC_at, ↓map_parts, ↓reduceIte, reduceCtorEq, Nat.reduceLT, Nat.reduceEqDiff, Nat.reduceAdd, Nat.reduceMul, Nat.reduceLeDiff, Nat.reduceSub, Nat.reduceBEq, Nat.reduceBNe, Nat.reduceBneDiff, Nat.reduceBeqDiff, ag_24, ag_28, ag_3, ag_39, ag_45, by_24, by_28, by_3, by_39, by_45, el_24, el_28, fi_26_1, fi_39_0, fi_39_1, in_3, nf_39, nf_45, pl_39, pl_45, ps_39, ps_45, sz_24, sz_28, sz_3, sz_39, sz_45, ze_24, ze_28, ze_3, ze_39, ze_45, Sp58, SOk, SSt, SEn, hb0, hb1, hb2, hb3, d1, d2, d3, d4, o1, o2, o3, o4, t1, t4, t5, t6, l1, e1, maxStep, List.foldl_cons, List.foldl_nil]))
      refine KT2 hK ?_ ?_
      · rw [wlR, if_pos e1]
        unfold max0
        dsimp only
        repeat' split
        all_goals omega
      · rw [wlR, if_pos e1]
  · exact h.elim

def invWlI (η : List Blk) (r : Int) (l : List Id3) (v a b c : AV) (ms ts bs : List Int) (st : St) : Prop := ∃ i : Nat, (i ≤ ms.length) ∧ st.n = 42 ∧ st.τ 1 = .loc 1 1 0 ∧ st.τ 4 = .int .i64 (max0 (wlN l ms i).1) ∧ st.τ 5 = .int .i64 (wlN l ms i).2 ∧ st.τ 14 = a ∧ st.τ 15 = .int .i64 ms.length ∧ st.τ 16 = .int .i64 i ∧ st.lam 1 = ⟨1, [.int .i64 r, v, a, b, c]⟩ ∧ st.η = η

/- impl.WaterLine -/
def Sp59 (lo : Nat) : Spec := fun g args η K => match g with | 107 => SOk args η K | 133 => SSt args η K | 134 => SEn args η K | _ => False
theorem Sp59_ok {lo : Nat} : Sound Try.prog lo (Sp59 lo) := by
  intro g args η K h
  unfold Sp59 at h
  split at h
  · exact f107_ok h
  · exact f133_ok h
  · exact f134_ok h
  · exact h.elim
theorem f59_ok {lo : Nat} {args : List AV} {η : List Blk} {K : AV → List Blk → Prop} (h : SWl args η K) : AF Try.prog lo 59 args η K := by
  unfold SWl at h
  split at h
  · obtain ⟨⟨⟨l, hr, hl⟩, ⟨ms, ha, hla⟩, ⟨ts, hb, hlb⟩, ⟨bs, hc, hlc⟩⟩, hK⟩ := h
    rename_i r _ _ _ _
    have d1 := hr.dec3
    have d2 := ha.dec
    have d3 := hb.dec
    have d4 := hc.dec
    have o1 : ok3 45 _ _ := ⟨l, hr, hl⟩
    have o2 : okI _ _ := ⟨ms, ha, hla⟩
    have o3 : okI _ _ := ⟨ts, hb, hlb⟩
    have o4 : okI _ _ := ⟨bs, hc, hlc⟩
    simp only [d1, d2, d3, d4] at hK
    have hr' := hr
    have ha' := ha
    have hb' := hb
    have hc' := hc
    obtain ⟨b0, v0, rfl, hb0⟩ := hr'
    obtain ⟨b1, v1, rfl, hb1⟩ := ha'
    obtain ⟨b2, v2, rfl, hb2⟩ := hb'
    obtain ⟨b3, v3, rfl, hb3⟩ := hc'
    refine AF_run Sp59_ok D0 [] [.tmp 2, .tmp 3] hm Try.func59 rfl (by decide) Try.ntmps59 rfl (by kernel_rfl) (Nat.le_of_ble_eq_true rfl) ?_; intro hlo
    cases e1 : okB r l ms ts bs
    · repeat' (first | with_reducible refine iteI (fun _ => ?_) (fun _ => ?_) | ((first | unfold AOpsC | unfold AOpsD | skip); simp (maxSteps := 1000000) (disch := (first | omega | assumption | (simp only [List.length_append, List.length_cons, List.length_nil, List.length_set]; omega))) only [go_sem, ↓skipC, ↓exitC, ↓retC, ↓seqC, ↓blockC, ↓condC, ↓regC, ↓drawC, ↓drawStep, ↓AOpC, ↓AOpF, ↓AOpE, ↓AEff, ↓contE_at, ↓contC_at, ↓keepC_at, ↓map_parts, ↓reduceIte, reduceCtorEq, Nat.reduceLT, Nat.reduceEqDiff, Nat.reduceAdd, Nat.reduceMul, Nat.reduceLeDiff, Nat.reduceSub, Nat.reduceBEq, Nat.reduceBNe, Nat.reduceBneDiff, Nat.reduceBeqDiff, ag_24, ag_28, ag_3, ag_39, ag_45, by_24, by_28, by_3, by_39, by_45, el_24, el_28, fi_26_1, fi_39_0, fi_39_1, in_3, nf_39, nf_45, pl_39, pl_45, ps_39, ps_45, sz_24, sz_28, sz_3, sz_39, sz_45, ze_24, ze_28, ze_3, ze_39, ze_45, Sp59, SOk, SSt, SEn, hb0, hb1, hb2, hb3, d1, d2, d3, d4, o1, o2, o3, o4, e1]))
      exact KT2 hK (by simp [wlR, e1]) (by simp [wlR, e1])
    obtain ⟨k1, k2, k3, k4, k5, k6, k7, k8⟩ := okT e1
    repeat' (first | with_reducible refine iteI (fun _ => ?_) (fun _ => ?_) | ((first | unfold AOpsC | unfold AOpsD | skip); simp (maxSteps := 1000000) (disch := (first | omega | assumption | (simp only [List.length_append, List.length_cons, List.length_nil, List.length_set]; omega))) only [go_sem, ↓skipC, ↓exitC, ↓retC, ↓seqC, ↓blockC, ↓condC, ↓regC, ↓drawC, ↓drawStep, ↓AOpC, ↓AOpF, ↓AOpE, ↓AEff, ↓contE_at, ↓contC_at, ↓keepC_at, ↓map_parts, ↓reduceIte, reduceCtorEq, Nat.reduceLT, Nat.reduceEqDiff, Nat.reduceAdd, Nat.reduceMul, Nat.reduceLeDiff, Nat.reduceSub, Nat.reduceBEq, Nat.reduceBNe, Nat.reduceBneDiff, Nat.reduceBeqDiff, ag_24, ag_28, ag_3, ag_39, ag_45, by_24, by_28, by_3, by_39, by_45, el_24, el_28, fi_26_1, fi_39_0, fi_39_1, in_3, nf_39, nf_45, pl_39, pl_45, ps_39, ps_45, sz_24, sz_28, sz_3, sz_39, sz_45, ze_24, ze_28, ze_3, ze_39, ze_45, Sp59, SOk, SSt, SEn, hb0, hb1, hb2, hb3, d1, d2, d3, d4, o1, o2, o3, o4, e1]))
    refine ⟨invWlI η r l (.sl b0 v0 0 l.length) (.sl b1 v1 0 ms.length) (.sl b2 v2 0 ts.length) (.sl b3 v3 0 bs.length) ms ts bs, fun st => ctr ms.length st 16, .inl ⟨0, Nat.zero_le _, rfl, (by first | (simp [upd]; done) | (simp [upd, *]; done) | rfl), (by first | (simp [upd]; done) | (simp [upd, *]; done) | rfl), (by first | (simp [upd]; done) | (simp [upd, *]; done) | rfl), (by first | (simp [upd]; done) | (simp [upd, *]; done) | rfl), (by first | (simp [upd]; done) | (simp [upd, *]; done) | rfl), (by first | (simp [upd]; done) | (simp [upd, *]; done) | rfl), (by first | (simp [upd]; done) | (simp [upd, *]; done) | rfl), rfl⟩, ?_⟩
    rintro ⟨n, τ, lam, η'⟩ ⟨i, g0, hn, t1, t4, t5, t14, t15, t16, l1, hη⟩; simp only at hn t1 t4 t5 t14 t15 t16 l1 hη; subst hn hη
    have hinv := wlN_inv (ms := ms) (mesh_ids k1) i (by omega)
    by_cases hlt : i < ms.length
    · by_cases hm' : ms.getD i 0 = 0
      · have hac : wlN l ms (i + 1) = wlN l ms i := by rw [wlN, if_pos hm']
        repeat' (first | with_reducible refine iteI (fun _ => ?_) (fun _ => ?_) | ((first | unfold AOpsC | unfold AOpsD | skip); simp (maxSteps := 1000000) (disch := (first | omega | assumption | (simp only [List.length_append, List.length_cons, List.length_nil, List.length_set]; omega))) only [go_sem, ↓skipC, ↓exitC, ↓retC, ↓seqC, ↓blockC, ↓condC, ↓regC, ↓drawC, ↓drawStep, ↓AOpC, ↓AOpF, ↓AOpE, ↓AEff, ↓contE_at, ↓contC_at, ↓keepC_at, ↓map_parts, ↓reduceIte, reduceCtorEq, Nat.reduceLT, Nat.reduceEqDiff, Nat.reduceAdd, Nat.reduceMul, Nat.reduceLeDiff, Nat.reduceSub, Nat.reduceBEq, Nat.reduceBNe, Nat.reduceBneDiff, Nat.reduceBeqDiff, ag_24, ag_28, ag_3, ag_39, ag_45, by_24, by_28, by_3, by_39, by_45, el_24, el_28, fi_26_1, fi_39_0, fi_39_1, in_3, nf_39, nf_45, pl_39, pl_45, ps_39, ps_45, sz_24, sz_28, sz_3, sz_39, sz_45, ze_24, ze_28, ze_3, ze_39, ze_45, Sp59, SOk, SSt, SEn, hb0, hb1, hb2, hb3, d1, d2, d3, d4, o1, o2, o3, o4, t1, t4, t5, t14, t15, t16, l1, e1]))
        refine ⟨⟨i + 1, hlt, rfl, by simp [upd, t1, t4, t5, t14, t15, t16, hac], by simp [upd, t1, t4, t5, t14, t15, t16, hac], by simp [upd, t1, t4, t5, t14, t15, t16, hac], by simp [upd, t1, t4, t5, t14, t15, t16, hac], by simp [upd, t1, t4, t5, t14, t15, t16, hac], by simp [upd, t1, t4, t5, t14, t15, t16, hac], by simp [upd, l1], rfl⟩, by simp [ctr, upd, t16]; omega⟩
      · have hs := st_nn (mesh_ids k1 _ (getD_mem (d := (0, 0, 0)) (show i < l.length by omega)))
        rcases hinv with ⟨hf, hz⟩ | ⟨hf, hz⟩
        · have hac : wlN l ms (i + 1) = (stI (l.getD i (0, 0, 0)).1 (l.getD i (0, 0, 0)).2.1 (l.getD i (0, 0, 0)).2.2, enI (l.getD i (0, 0, 0)).1 (l.getD i (0, 0, 0)).2.1 (l.getD i (0, 0, 0)).2.2) := by rw [wlN, if_neg hm', if_pos hf]
          have hac2 : max0 (stI (l.getD i (0, 0, 0)).1 (l.getD i (0, 0, 0)).2.1 (l.getD i (0, 0, 0)).2.2) = stI (l.getD i (0, 0, 0)).1 (l.getD i (0, 0, 0)).2.1 (l.getD i (0, 0, 0)).2.2 := if_neg (by omega)
          repeat' (first | with_reducible refine iteI (fun _ => ?_) (fun _ => ?_) | ((first | unfold AOpsC | unfold AOpsD | skip); simp (maxSteps := 1000000) (disch := (first | omega | assumption | (simp only [List.length_append, List.length_cons, List.length_nil, List.length_set]; omega))) only [go_sem, ↓skipC, ↓exitC, ↓retC, ↓seqC, ↓blockC, ↓condC, ↓regC, ↓drawC, ↓drawStep, ↓AOpC, ↓AOpF, ↓AOpE, ↓AEff, ↓contE_at, ↓contC_at, ↓keepC_at, ↓map_parts, ↓reduceIte, reduceCtorEq, Nat.reduceLT, Nat.reduceEqDiff, Nat.reduceAdd, Nat.reduceMul, Nat.reduceLeDiff, Nat.reduceSub, Nat.reduceBEq, Nat.reduceBNe, Nat.reduceBneDiff, Nat.reduceBeqDiff, ag_24, ag_28, ag_3, ag_39, ag_45, by_24, by_28, by_3, by_39, by_45, el_24, el_28, fi_26_1, fi_39_0, fi_39_1, in_3, nf_39, nf_45, pl_39, pl_45, ps_39, ps_45, sz_24, sz_28, sz_3, sz_39, sz_45, ze_24, ze_28, ze_3, ze_39, ze_45, Sp59, SOk, SSt, SEn, hb0, hb1, hb2, hb3, d1, d2, d3, d4, o1, o2, o3, o4, t1, t4, t5, t14, t15, t16, l1, e1]))
          refine ⟨⟨i + 1, hlt, rfl, by (try simp only [hac, hac2]); simp [upd, t1, t4, t5, t14, t15, t16], by (try simp only [hac, hac2]); simp [upd, t1, t4, t5, t14, t15, t16], by (try simp only [hac, hac2]); simp [upd, t1, t4, t5, t14, t15, t16], by (try simp only [hac, hac2]); simp [upd, t1, t4, t5, t14, t15, t16], by (try simp only [hac, hac2]); simp [upd, t1, t4, t5, t14, t15, t16], by (try simp only [hac, hac2]); simp [upd, t1, t4, t5, t14, t15, t16], by simp [upd, l1], rfl⟩, by simp [ctr, upd, t16]; omega⟩
        · have hac : wlN l ms (i + 1) = ((wlN l ms i).1, enI (l.getD i (0, 0, 0)).1 (l.getD i (0, 0, 0)).2.1 (l.getD i (0, 0, 0)).2.2) := by rw [wlN, if_neg hm', if_neg (by omega)]
          have hne : ¬ (wlN l ms i).2 = 0 := by omega
          repeat' (first | with_reducible refine iteI (fun _ => ?_) (fun _ => ?_) | ((first | unfold AOpsC | unfold AOpsD | skip); simp (maxSteps := 1000000) (disch := (first | omega | assumption | (simp only [List.length_append, List.length_cons, List.length_nil, List.length_set]; omega))) only [go_sem, ↓skipC, ↓exitC, ↓retC, ↓seqC, ↓blockC, ↓condC, ↓regC, ↓drawC, ↓drawStep, ↓AOpC, ↓AOpF, ↓AOpE, ↓AEff, ↓contE_at, ↓contC_at, ↓keepC_at, ↓map_parts, ↓reduceIte, reduceCtorEq, Nat.reduceLT, Nat.reduceEqDiff, Nat.reduceAdd, Nat.reduceMul, Nat.reduceLeDiff, Nat.reduceSub, Nat.reduceBEq, Nat.reduceBNe, Nat.reduceBneDiff, Nat.reduceBeqDiff, ag_24, ag_28, ag_3, ag_39, ag_45, by_24, by_28, by_3, by_39, by_45, el_24, el_28, fi_26_1, fi_39_0, fi_39_1, in_3, nf_39, nf_45, pl_39, pl_45, ps_39, ps_45, sz_24, sz_28, sz_3, sz_39, sz_45, ze_24, ze_28, ze_3, ze_39, ze_45, Sp59, SOk, SSt, SEn, hb0, hb1, hb2, hb3, d1, d2, d3, d4, o1, o2, o3, o4, t1, t4, t5, t14, t15, t16, l1, e1]))
          refine ⟨⟨i + 1, hlt, rfl, by simp [upd, t1, t4, t5, t14, t15, t16, hac], by simp [upd, t1, t4, t5, t14, t15, t16, hac], by simp [upd, t1, t4, t5, t14, t15, t16, hac], by simp [upd, t1, t4, t5, t14, t15, t16, hac], by simp [upd, t1, t4, t5, t14, t15, t16, hac], by simp [upd, t1, t4, t5, t14, t15, t16, hac], by simp [upd, l1], rfl⟩, by simp [ctr, upd, t16]; omega⟩
    · obtain rfl : i = ms.length := by omega
      repeat' (first | with_reducible refine iteI (fun _ => ?_) (fun _ => ?_) | ((first | unfold AOpsC | unfold AOpsD | skip); simp (maxSteps := 1000000) (disch := (first | omega | assumption | (simp only [List.length_append, List.length_cons, List.length_nil, List.length_set]; omega))) only [go_sem, ↓skipC, ↓exitC, ↓retC, ↓seqC, ↓blockC, ↓condC, ↓regC, ↓drawC, ↓drawStep, ↓AOpC, ↓AOpF, ↓AOpE, ↓AEff, ↓contE_at, ↓contC_at, ↓keepC_at, ↓map_parts, ↓reduceIte, reduceCtorEq, Nat.reduceLT, Nat.reduceEqDiff, Nat.reduceAdd, Nat.reduceMul, Nat.reduceLeDiff, Nat.reduceSub, Nat.reduceBEq, Nat.reduceBNe, Nat.reduceBneDiff, Nat.reduceBeqDiff, ag_24, ag_28, ag_3, ag_39, ag_45, by_24, by_28, by_3, by_39, by_45, el_24, el_28, fi_26_1, fi_39_0, fi_39_1, in_3, nf_39, nf_45, pl_39, pl_45, ps_39, ps_45, sz_24, sz_28, sz_3, sz_39, sz_45, ze_24, ze_28, ze_3, ze_39, ze_45, Sp59, SOk, SSt, SEn, hb0, hb1, hb2, hb3, d1, d2, d3, d4, o1, o2, o3, o4, t1, t4, t5, t14, t15, t16, l1, e1]))
      exact KT2 hK (by rw [wlR, if_pos e1]) (by rw [wlR, if_pos e1])
  · exact h.elim

end Go.Proofs.Ytkkpbjijakamhaa
