/- What functions of the program compute, said in the abstract logic; no conditions. -/
import Derived.Test.YtffefndnnbcplaaGStepS
import Derived.Test.YtffefndnnbcplaaGStepOk

namespace Go.Proofs.Ytffefndnnbcplaa
open Go
set_option linter.unusedSimpArgs false
set_option linter.unusedVariables false
set_option maxRecDepth 100000
set_option maxHeartbeats 8000000
attribute [local go_sem] st0 AC thenA andC locLoadB KsSW_same KsSW_grow oldLoadB KsOS_same KsOS_grow pv ev put upd dstOk cv cvc binI setB Value.oneCell' EndA resA resA1 List.mapM_cons List.mapM_nil Option.pure_def Option.bind_eq_bind noLocV noLoc1 noLoc noLocs plainV cellsA newVarA putCells condA lam0 inBlockA cur lenA rowA avoidsB avoidB clearB Array.toList_append Op.operands Call.operands newSlot Nat.zero_add Nat.add_zero Nat.succ_ne_self Nat.lt_add_one Nat.zero_lt_succ true_and and_true true_or or_true false_or or_false and_self true_implies forall_const Bool.false_eq_true Bool.true_eq_false false_implies implies_true imp_self ne_eq not_false_eq_true not_true_eq_false false_and and_false List.getElem?_toArray List.getElem?_cons_succ List.getElem?_cons_zero Option.bind_some Option.map_some Bool.not_true Bool.not_false List.getD_cons_zero List.getD_cons_succ Option.some.injEq exists_eq_left' AV.bool.injEq List.map_cons List.map_nil List.all_cons List.all_nil Bool.and_self Bool.and_true Bool.true_and List.append_nil List.cons_append List.nil_append List.length_cons List.length_nil List.drop_zero List.take_zero List.drop_succ_cons List.take_succ_cons List.take_nil List.drop_nil List.not_mem_nil List.mem_cons List.contains_nil List.contains_cons Bool.or_self Bool.or_true Bool.true_or Bool.false_or Bool.or_false Bool.and_false Bool.false_and KsS_same KsS_grow skipV KsS_ext KsSW_ext KsOS_ext rep1 rep2 rep3 rep4 rep5 List.flatten_cons List.flatten_nil partsA isPtr fillA List.size_toArray ltT ltF leT leF ltTn ltFn leTn leFn eqTi eqFi wrapId toNat1 intGet boolGet memD app_get app_last app_lst app_set app_setL app_setF set_ne set_eq gt_iff_lt ge_iff_le decide_eq_true_eq len2 len3 get20 get21 drop2 put2 get30 get31 get32 drop3 put3 putI pairEta bneTi bneFi beqTi beqFi bne_eq_false_iff_eq beq_eq_false_iff_ne beq_iff_eq bne_iff_ne Int.toNat_natCast Nat.mul_one List.length_map Bool.not_eq_true Bool.not_eq_false Bool.decide_eq_true decide_true decide_false Bool.not_eq_true' Bool.not_eq_false' decide_eq_false_iff_not eq_self Decidable.not_not

def mcM (r : Int) (l : List Id3) (ms ts bs : List Int) : List Int := if okB r l ms ts bs = true then (mac l ms ts bs 16).1 else ms
def mcT (r : Int) (l : List Id3) (ms ts bs : List Int) : List Int := if okB r l ms ts bs = true then (mac l ms ts bs 16).2 else ts
def SMacS : List AV → List Blk → (AV → List Blk → Prop) → Prop
  | [.agg [.int .i64 r, v, a, b, c]], η, K => (ok3 45 η v ∧ okI η a ∧ okI η b ∧ okI η c) ∧ ∀ H b0 b1 b2 b3 v0 v1 v2 v3, New4 η.length H b0 b1 b2 b3 v0 v1 v2 v3 (dec3 45 η v) (mcM r (dec3 45 η v) (decI η a) (decI η b) (decI η c) ) (mcT r (dec3 45 η v) (decI η a) (decI η b) (decI η c) ) (decI η c) → Ext η H →
      K (.agg [.int .i64 r, .sl b0 v0 0 (dec3 45 η v).length, .sl b1 v1 0 (mcM r (dec3 45 η v) (decI η a) (decI η b) (decI η c) ).length, .sl b2 v2 0 (mcT r (dec3 45 η v) (decI η a) (decI η b) (decI η c) ).length, .sl b3 v3 0 (decI η c).length]) H
  | _, _, _ => False

/- (*impl.State).macro -/
/- impl.MacroStep -/
def invMcS (η : List Blk) (r : Int) (v a b c : AV) (l : List Id3) (ms ts bs : List Int) (st : St) : Prop := ∃ i : Nat, ∃ q0 : Nat, ∃ q1 : Nat, ∃ q2 : Nat, ∃ q3 : Nat, ∃ H : List Blk, (i ≤ 16) ∧ (Ext η H) ∧ (New4 η.length H q0 q1 q2 q3 0 0 0 0 l (mac l ms ts bs i).1 (mac l ms ts bs i).2 bs) ∧ (i = 0 ∨ okB r l ms ts bs = true) ∧ st.n = 19 ∧ st.τ 1 = .loc 1 1 0 ∧ st.τ 2 = .loc 2 1 0 ∧ st.τ 3 = .loc 3 1 0 ∧ st.τ 4 = .int .i64 i ∧ st.lam 1 = ⟨1, [.int .i64 r, v, a, b, c]⟩ ∧ st.lam 2 = ⟨1, [.int .i64 0, .nils, .nils, .nils, .nils]⟩ ∧ st.lam 3 = ⟨1, [.int .i64 r, .sl q0 0 0 l.length, .sl q1 0 0 ms.length, .sl q2 0 0 ts.length, .sl q3 0 0 bs.length]⟩ ∧ st.η = H

/- spec.MacroStep -/
def Sp61 (lo : Nat) : Spec := fun g args η K => match g with | 44 => SOk args η K | 126 => SCopyS args η K | 127 => SStepQ args η K | _ => False
theorem Sp61_ok {lo : Nat} : Sound Try.prog lo (Sp61 lo) := by
  intro g args η K h
  unfold Sp61 at h
  split at h
  · exact f44_ok h
  · exact f126_ok h
  · exact f127_ok h
  · exact h.elim
theorem f61_ok {lo : Nat} {args : List AV} {η : List Blk} {K : AV → List Blk → Prop} (h : SMacS args η K) : AF Try.prog lo 61 args η K := by
  unfold SMacS at h
  split at h
  · obtain ⟨⟨⟨l, hr, hl⟩, ⟨ms, ha, hla⟩, ⟨ts, hb, hlb⟩, ⟨bs, hc, hlc⟩⟩, hK⟩ := h
    rename_i r _ _ _ _
    have d1 := hr.dec3
    have d2 := ha.dec
    have d3 := hb.dec
    have d4 := hc.dec
    have o1 : ok3 45 _ _ := ⟨l, hr, hl⟩
    have o2 : okI _ _ := ⟨ms, ha, hla⟩
    have o3 : okI _ _ := ⟨ts, hb, hlb⟩
    have o4 : okI _ _ := ⟨bs, hc, hlc⟩
    simp only [d1, d2, d3, d4] at hK
    have hr' := hr
    have ha' := ha
    have hb' := hb
    have hc' := hc
    obtain ⟨b0, v0, rfl, hb0⟩ := hr'
    obtain ⟨b1, v1, rfl, hb1⟩ := ha'
    obtain ⟨b2, v2, rfl, hb2⟩ := hb'
    obtain ⟨b3, v3, rfl, hb3⟩ := hc'
    refine AF_run Sp61_ok D0 [] [.cell 2 39] hm Try.func61 rfl (by decide) Try.ntmps61 rfl (by kernel_rfl) (Nat.le_of_ble_eq_true rfl) ?_; intro hlo
    repeat' (first | with_reducible refine iteI (fun _ => ?_) (fun _ => ?_) | ((first | unfold AOpsC | unfold AOpsD | skip); simp (maxSteps := 1000000) (disch := (first | omega | assumption | (simp only [List.length_append, List.length_cons, List.length_nil, List.length_set]; omega))) only [go_sem, ↓skipC, ↓exitC, ↓retC, ↓seqC, ↓blockC, ↓condC, ↓regC, ↓drawC, ↓drawStep, ↓AOpC, ↓AOpF, ↓AOpE, ↓AEff, ↓contE_at, ↓contC_at, ↓keepC_at, ↓keepW_at, ↓keepO_at, ↓map_parts, ↓reduceIte, reduceCtorEq, Nat.reduceLT, Nat.reduceEqDiff, Nat.reduceAdd, Nat.reduceMul, Nat.reduceLeDiff, Nat.reduceSub, Nat.reduceBEq, Nat.reduceBNe, Nat.reduceBneDiff, Nat.reduceBeqDiff, ag_39, by_39, nf_39, pl_39, ps_39, sz_39, ze_39, Sp61, SOk, hb0, hb1, hb2, hb3, d1, d2, d3, d4, o1, o2, o3, o4]))
    refine copyN ⟨l, ms, ts, bs, ⟨hr, ha, hb, hc⟩, ⟨hl, hla, hlb, hlc⟩, fun H q0 q1 q2 q3 hN x => ?_⟩
    repeat' (first | with_reducible refine iteI (fun _ => ?_) (fun _ => ?_) | ((first | unfold AOpsC | unfold AOpsD | skip); simp (maxSteps := 1000000) (disch := (first | omega | assumption | (simp only [List.length_append, List.length_cons, List.length_nil, List.length_set]; omega))) only [go_sem, ↓skipC, ↓exitC, ↓retC, ↓seqC, ↓blockC, ↓condC, ↓regC, ↓drawC, ↓drawStep, ↓AOpC, ↓AOpF, ↓AOpE, ↓AEff, ↓contE_at, ↓contC_at, ↓keepC_at, ↓keepW_at, ↓keepO_at, ↓map_parts, ↓reduceIte, reduceCtorEq, Nat.reduceLT, Nat.reduceEqDiff, Nat.reduceAdd, Nat.reduceMul, Nat.reduceLeDiff, Nat.reduceSub, Nat.reduceBEq, Nat.reduceBNe, Nat.reduceBneDiff, Nat.reduceBeqDiff, ag_39, by_39, nf_39, pl_39, ps_39, sz_39, ze_39, Sp61, SOk]))
    refine ⟨invMcS η r (.sl b0 v0 0 l.length) (.sl b1 v1 0 ms.length) (.sl b2 v2 0 ts.length) (.sl b3 v3 0 bs.length) l ms ts bs, fun st => ctr 16 st 4, .inl ⟨0, q0, q1, q2, q3, H, Nat.zero_le _, x, hN, .inl rfl, rfl, by simp [upd], by simp [upd], by simp [upd], by simp [upd], by simp [upd], by simp [upd], by simp [upd], rfl⟩, ?_⟩
    clear hN x
    rintro ⟨n, τ, lam, η'⟩ ⟨i, q0, q1, q2, q3, H, g0, g1, g2, g3, hn, t1, t2, t3, t4, l1, l2, l3, hη⟩; simp only at hn t1 t2 t3 t4 l1 l2 l3 hη; subst hn hη
    have x := g1
    have w0 := x.blk hb0
    have w1 := x.blk hb1
    have w2 := x.blk hb2
    have w3 := x.blk hb3
    have D1 : dec3 45 η' (.sl b0 v0 0 l.length) = l := IsR.dec3 ⟨b0, v0, rfl, w0⟩
    have D2 : decI η' (.sl b1 v1 0 ms.length) = ms := IsI.dec ⟨b1, v1, rfl, w1⟩
    have D3 : decI η' (.sl b2 v2 0 ts.length) = ts := IsI.dec ⟨b2, v2, rfl, w2⟩
    have D4 : decI η' (.sl b3 v3 0 bs.length) = bs := IsI.dec ⟨b3, v3, rfl, w3⟩
    have O1 : ok3 45 η' (.sl b0 v0 0 l.length) := ⟨l, ⟨b0, v0, rfl, w0⟩, hl⟩
    have O2 : okI η' (.sl b1 v1 0 ms.length) := ⟨ms, ⟨b1, v1, rfl, w1⟩, hla⟩
    have O3 : okI η' (.sl b2 v2 0 ts.length) := ⟨ts, ⟨b2, v2, rfl, w2⟩, hlb⟩
    have O4 : okI η' (.sl b3 v3 0 bs.length) := ⟨bs, ⟨b3, v3, rfl, w3⟩, hlc⟩
    cases e1 : okB r l ms ts bs
    · by_cases hi : i = 0
      · subst hi
        have z0 : mcM r l ms ts bs = ms := by simp [mcM, e1]
        have z1 : mcT r l ms ts bs = ts := by simp [mcT, e1]
        rw [z0, z1] at hK
        repeat' (first | with_reducible refine iteI (fun _ => ?_) (fun _ => ?_) | ((first | unfold AOpsC | unfold AOpsD | skip); simp (maxSteps := 1000000) (disch := (first | omega | assumption | (simp only [List.length_append, List.length_cons, List.length_nil, List.length_set]; omega))) only [go_sem, ↓skipC, ↓exitC, ↓retC, ↓seqC, ↓blockC, ↓condC, ↓regC, ↓drawC, ↓drawStep, ↓AOpC, ↓AOpF, ↓AOpE, ↓AEff, ↓contE_at, ↓contC_at, ↓keepC_at, ↓keepW_at, ↓keepO_at, ↓map_parts, ↓reduceIte, reduceCtorEq, Nat.reduceLT, Nat.reduceEqDiff, Nat.reduceAdd, Nat.reduceMul, Nat.reduceLeDiff, Nat.reduceSub, Nat.reduceBEq, Nat.reduceBNe, Nat.reduceBneDiff, Nat.reduceBeqDiff, ag_39, by_39, nf_39, pl_39, ps_39, sz_39, ze_39, Sp61, SOk, w0, w1, w2, w3, D1, D2, D3, D4, O1, O2, O3, O4, e1, t1, t2, t3, t4, l1, l2, l3]))
        exact hK _ _ _ _ _ _ _ _ _ g2 g1
      · exfalso
        rcases g3 with g3 | g3
        · exact hi g3
        · rw [e1] at g3; cases g3
    obtain ⟨n1, n2⟩ := mac_len e1 i
    have e2 := mac_ok e1 i
    by_cases hlt : i < 16
    · repeat' (first | with_reducible refine iteI (fun _ => ?_) (fun _ => ?_) | ((first | unfold AOpsC | unfold AOpsD | skip); simp (maxSteps := 1000000) (disch := (first | omega | assumption | (simp only [List.length_append, List.length_cons, List.length_nil, List.length_set]; omega))) only [go_sem, ↓skipC, ↓exitC, ↓retC, ↓seqC, ↓blockC, ↓condC, ↓regC, ↓drawC, ↓drawStep, ↓AOpC, ↓AOpF, ↓AOpE, ↓AEff, ↓contE_at, ↓contC_at, ↓keepC_at, ↓keepW_at, ↓keepO_at, ↓map_parts, ↓reduceIte, reduceCtorEq, Nat.reduceLT, Nat.reduceEqDiff, Nat.reduceAdd, Nat.reduceMul, Nat.reduceLeDiff, Nat.reduceSub, Nat.reduceBEq, Nat.reduceBNe, Nat.reduceBneDiff, Nat.reduceBeqDiff, ag_39, by_39, nf_39, pl_39, ps_39, sz_39, ze_39, Sp61, SOk, w0, w1, w2, w3, D1, D2, D3, D4, O1, O2, O3, O4, e1, t1, t2, t3, t4, l1, l2, l3]))
      unfold SStepQ
      refine ⟨l, (mac l ms ts bs i).1, (mac l ms ts bs i).2, bs, ⟨⟨q0, 0, rfl, g2.g0⟩, ⟨q1, 0, by rw [n1], g2.g1⟩, ⟨q2, 0, by rw [n2], g2.g2⟩, ⟨q3, 0, rfl, g2.g3⟩⟩, e2, by omega, fun H2 c0 c1 c2 c3 hN2 x2 => ?_⟩
      rw [n1, n2]
      repeat' (first | with_reducible refine iteI (fun _ => ?_) (fun _ => ?_) | ((first | unfold AOpsC | unfold AOpsD | skip); simp (maxSteps := 1000000) (disch := (first | omega | assumption | (simp only [List.length_append, List.length_cons, List.length_nil, List.length_set]; omega))) only [go_sem, ↓skipC, ↓exitC, ↓retC, ↓seqC, ↓blockC, ↓condC, ↓regC, ↓drawC, ↓drawStep, ↓AOpC, ↓AOpF, ↓AOpE, ↓AEff, ↓contE_at, ↓contC_at, ↓keepC_at, ↓keepW_at, ↓keepO_at, ↓map_parts, ↓reduceIte, reduceCtorEq, Nat.reduceLT, Nat.reduceEqDiff, Nat.reduceAdd, Nat.reduceMul, Nat.reduceLeDiff, Nat.reduceSub, Nat.reduceBEq, Nat.reduceBNe, Nat.reduceBneDiff, Nat.reduceBeqDiff, ag_39, by_39, nf_39, pl_39, ps_39, sz_39, ze_39, Sp61, SOk, t1, t2, t3, t4, l1, l2, l3]))
      refine ⟨⟨i + 1, c0, c1, c2, c3, H2, hlt, g1.trans x2, hN2.mono g1.len, .inr e1, rfl, by simp [upd, t1], by simp [upd, t2], by simp [upd, t3], by simp [upd], by simp [upd, l1], by simp [upd, l2], by simp [upd], rfl⟩, by simp [ctr, upd, t4]; omega⟩
    · obtain rfl : i = 16 := by omega
      have z0 : mcM r l ms ts bs = (mac l ms ts bs 16).1 := if_pos e1
      have z1 : mcT r l ms ts bs = (mac l ms ts bs 16).2 := if_pos e1
      rw [z0, z1, n1, n2] at hK
      repeat' (first | with_reducible refine iteI (fun _ => ?_) (fun _ => ?_) | ((first | unfold AOpsC | unfold AOpsD | skip); simp (maxSteps := 1000000) (disch := (first | omega | assumption | (simp only [List.length_append, List.length_cons, List.length_nil, List.length_set]; omega))) only [go_sem, ↓skipC, ↓exitC, ↓retC, ↓seqC, ↓blockC, ↓condC, ↓regC, ↓drawC, ↓drawStep, ↓AOpC, ↓AOpF, ↓AOpE, ↓AEff, ↓contE_at, ↓contC_at, ↓keepC_at, ↓keepW_at, ↓keepO_at, ↓map_parts, ↓reduceIte, reduceCtorEq, Nat.reduceLT, Nat.reduceEqDiff, Nat.reduceAdd, Nat.reduceMul, Nat.reduceLeDiff, Nat.reduceSub, Nat.reduceBEq, Nat.reduceBNe, Nat.reduceBneDiff, Nat.reduceBeqDiff, ag_39, by_39, nf_39, pl_39, ps_39, sz_39, ze_39, Sp61, SOk, w0, w1, w2, w3, D1, D2, D3, D4, O1, O2, O3, O4, e1, t1, t2, t3, t4, l1, l2, l3]))
      exact hK _ _ _ _ _ _ _ _ _ g2 g1
  · exact h.elim

end Go.Proofs.Ytffefndnnbcplaa
