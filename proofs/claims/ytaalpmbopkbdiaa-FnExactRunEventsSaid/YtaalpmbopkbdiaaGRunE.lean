/- What functions of the program compute, said in the abstract logic; no conditions. -/
import Derived.Test.YtaalpmbopkbdiaaGRunF
import Derived.Test.YtaalpmbopkbdiaaGRunQ
import Derived.Test.YtaalpmbopkbdiaaGMoveW
import Derived.Test.YtaalpmbopkbdiaaGRes
import Derived.Test.YtaalpmbopkbdiaaGResS

namespace Go.Proofs.Ytaalpmbopkbdiaa
open Go
set_option linter.unusedSimpArgs false
set_option linter.unusedVariables false
set_option maxRecDepth 100000
set_option maxHeartbeats 8000000
attribute [local go_sem] st0 AC thenA andC locLoadB KsSW_same KsSW_grow oldLoadB noBlkB KsSL_same KsOS_same KsOS_grow pv ev put upd dstOk cv cvc binI setB Value.oneCell' EndA resA resA1 List.mapM_cons List.mapM_nil Option.pure_def Option.bind_eq_bind noLocV noLoc1 noLoc noLocs plainV cellsA newVarA putCells condA lam0 inBlockA cur lenA rowA writeA dstA appendC appendZ avoidsB avoidB clearB Array.toList_append Op.operands Call.operands newSlot Nat.zero_add Nat.add_zero Nat.succ_ne_self Nat.lt_add_one Nat.zero_lt_succ true_and and_true true_or or_true false_or or_false and_self true_implies forall_const Bool.false_eq_true Bool.true_eq_false false_implies implies_true imp_self ne_eq not_false_eq_true not_true_eq_false false_and and_false List.getElem?_toArray List.getElem?_cons_succ List.getElem?_cons_zero Option.bind_some Option.map_some Bool.not_true Bool.not_false List.getD_cons_zero List.getD_cons_succ Option.some.injEq exists_eq_left' AV.bool.injEq List.map_cons List.map_nil List.all_cons List.all_nil Bool.and_self Bool.and_true Bool.true_and List.append_nil List.cons_append List.nil_append List.length_cons List.length_nil List.drop_zero List.take_zero List.drop_succ_cons List.take_succ_cons List.take_nil List.drop_nil List.not_mem_nil List.mem_cons List.contains_nil List.contains_cons Bool.or_self Bool.or_true Bool.true_or Bool.false_or Bool.or_false Bool.and_false Bool.false_and KsS_same KsS_grow skipV KsS_ext KsSW_ext KsOS_ext rep1 rep2 rep3 rep4 rep5 List.flatten_cons List.flatten_nil partsA isPtr fillA List.size_toArray ltT ltF leT leF ltTn ltFn leTn leFn eqTi eqFi wrapId toNat1 intGet boolGet memD app_get app_last app_lst app_set app_setL app_setF set_ne set_eq gt_iff_lt ge_iff_le decide_eq_true_eq len2 len3 get20 get21 drop2 put2 get30 get31 get32 drop3 put3 putI pairEta bneTi bneFi beqTi beqFi bne_eq_false_iff_eq beq_eq_false_iff_ne beq_iff_eq bne_iff_ne Int.toNat_natCast Nat.mul_one List.length_map Bool.not_eq_true Bool.not_eq_false Bool.decide_eq_true decide_true decide_false Bool.not_eq_true' Bool.not_eq_false' decide_eq_false_iff_not eq_self Decidable.not_not

def invRvS (η : List Blk) (r : Int) (v a b c w : AV) (l : List Id3) (ms ts bs : List Int) (es : List (Int × Int)) (st : St) : Prop := ∃ i : Nat, ∃ H : List Blk, ∃ q0 : Nat, ∃ q1 : Nat, ∃ q2 : Nat, ∃ q3 : Nat, ∃ u0 : Nat, ∃ u1 : Nat, ∃ u2 : Nat, ∃ u3 : Nat, ∃ ba : Nat, (i ≤ es.length) ∧ (Ext η H ∧ η.length ≤ ba ∧ ba ≠ q0 ∧ ba ≠ q1 ∧ ba ≠ q2 ∧ ba ≠ q3) ∧ (New4 η.length H q0 q1 q2 q3 u0 u1 u2 u3 l (rvG l ms ts bs (dgE es i)).1 (rvG l ms ts bs (dgE es i)).2 bs) ∧ (H[ba]? = some ⟨0, 4, 1, (acR ms.length (acE es i)).map AV.bool⟩) ∧ st.n = 67 ∧ st.τ 1 = w ∧ st.τ 2 = .loc 2 1 0 ∧ st.τ 4 = .loc 4 1 0 ∧ st.τ 5 = .loc 5 1 0 ∧ st.τ 6 = .sl ba 0 0 ms.length ∧ st.τ 7 = .int .i64 i ∧ st.lam 2 = ⟨1, [.int .i64 r, v, a, b, c]⟩ ∧ st.lam 4 = ⟨1, [.int .i64 0, .nils, .nils, .nils, .nils]⟩ ∧ st.lam 5 = ⟨1, [.int .i64 r, .sl q0 u0 0 l.length, .sl q1 u1 0 (rvG l ms ts bs (dgE es i)).1.length, .sl q2 u2 0 (rvG l ms ts bs (dgE es i)).2.length, .sl q3 u3 0 bs.length]⟩ ∧ st.η = H

/- spec.RunEvents -/
def Sp17 (lo : Nat) : Spec := fun g args η K => match g with | 38 => SOk args η K | 43 => SCopyS args η K | 48 => SFit args η K | 49 => SMovQ args η K | _ => False
theorem Sp17_ok {lo : Nat} : Sound Try.prog lo (Sp17 lo) := by
  intro g args η K h
  unfold Sp17 at h
  split at h
  · exact .inl (f38_ok h)
  · exact .inl (f43_ok h)
  · exact .inl (f48_ok h)
  · exact .inl (f49_ok h)
  · exact h.elim
def Dr17 : Draws := fun id => match id with | 9 => ([0, 1, 0, 4, 15, 31, 63, 63, 191, 511, 1023, 2047, 63, 63, 12351, 28735, 61503, 131071, 262143], [], [], (.one 0 (.one 1 (.one 2 (.one 3 (.one 4 (.one 5 (.one 6 (.one 7 (.one 8 (.one 9 (.one 10 (.one 11 (.one 12 (.one 13 (.one 14 (.one 15 (.one 16 (.one 17 (.one 18 .nil)))))))))))))))))))) | _ => ([], [], [], .nil)
theorem f17_ok {lo : Nat} {args : List AV} {η : List Blk} {K : AV → List Blk → Prop} (h : SRvE args η K) : AF Try.prog lo 17 args η K := by
  unfold SRvE at h
  split at h
  · obtain ⟨⟨hst, ⟨es, hw, hwl⟩⟩, hK⟩ := h
    obtain ⟨⟨l, hr, hl⟩, ⟨ms, ha, hla⟩, ⟨ts, hb, hlb⟩, ⟨bs, hc, hlc⟩⟩ := hst
    rw [hw.dec2] at hK
    rename_i r _ _ _ _ _
    have d1 := hr.dec3
    have d2 := ha.dec
    have d3 := hb.dec
    have d4 := hc.dec
    have o1 : ok3 63 _ _ := ⟨l, hr, hl⟩
    have o2 : okI _ _ := ⟨ms, ha, hla⟩
    have o3 : okI _ _ := ⟨ts, hb, hlb⟩
    have o4 : okI _ _ := ⟨bs, hc, hlc⟩
    simp only [d1, d2, d3, d4] at hK
    have hr' := hr
    have ha' := ha
    have hb' := hb
    have hc' := hc
    obtain ⟨b0, v0, rfl, hb0⟩ := hr'
    obtain ⟨b1, v1, rfl, hb1⟩ := ha'
    obtain ⟨b2, v2, rfl, hb2⟩ := hb'
    obtain ⟨b3, v3, rfl, hb3⟩ := hc'
    have hw0 := hw
    obtain ⟨bw, vw, rfl, hbw⟩ := hw
    refine AF_run Sp17_ok Dr17 [] [.cell 4 29] hm Try.func17 rfl (by decide) Try.ntmps17 rfl (by kernel_rfl) (Nat.le_of_ble_eq_true rfl) ?_; intro hlo
    repeat' (first | with_reducible refine iteI (fun _ => ?_) (fun _ => ?_) | ((first | unfold AOpsC | unfold AOpsD | skip); simp (maxSteps := 1000000) (disch := (first | omega | assumption | (simp only [List.length_append, List.length_cons, List.length_nil, List.length_set]; omega))) only [go_sem, ↓skipC, ↓exitC, ↓retC, ↓seqC, ↓blockC, ↓condC, ↓regC, ↓drawC, ↓drawStep, ↓AOpC, ↓AOpF, ↓AOpE, ↓AEff, ↓contE_at, ↓contC_at, ↓keepC_at, ↓keepW_at, ↓keepO_at, ↓keepL_at, ↓map_parts, ↓reduceIte, reduceCtorEq, Nat.reduceLT, Nat.reduceEqDiff, Nat.reduceAdd, Nat.reduceMul, Nat.reduceLeDiff, Nat.reduceSub, Nat.reduceBEq, Nat.reduceBNe, Nat.reduceBneDiff, Nat.reduceBeqDiff, ag_27, ag_29, ag_3, ag_4, ag_45, ag_74, ag_76, bo_4, by_27, by_29, by_3, by_4, by_45, by_74, by_76, el_27, el_45, el_74, en_3, fi_29_1, fi_76_0, fi_76_1, in_3, nf_29, nf_76, pl_29, pl_76, ps_29, ps_76, sz_27, sz_29, sz_3, sz_4, sz_45, sz_74, sz_76, ze_27, ze_29, ze_3, ze_4, ze_45, ze_74, ze_76, Sp17, SOk, Dr17, hb0, hb1, hb2, hb3, d1, d2, d3, d4, o1, o2, o3, o4]))
    refine copyN ⟨l, ms, ts, bs, ⟨hr, ha, hb, hc⟩, ⟨hl, hla, hlb, hlc⟩, fun H q0 q1 q2 q3 hN x => ?_⟩
    have w0 := x.blk hb0
    have w1 := x.blk hb1
    have w2 := x.blk hb2
    have w3 := x.blk hb3
    have D1 : dec3 63 H (.sl b0 v0 0 l.length) = l := IsR.dec3 ⟨b0, v0, rfl, w0⟩
    have D2 : decI H (.sl b1 v1 0 ms.length) = ms := IsI.dec ⟨b1, v1, rfl, w1⟩
    have D3 : decI H (.sl b2 v2 0 ts.length) = ts := IsI.dec ⟨b2, v2, rfl, w2⟩
    have D4 : decI H (.sl b3 v3 0 bs.length) = bs := IsI.dec ⟨b3, v3, rfl, w3⟩
    have O1 : ok3 63 H (.sl b0 v0 0 l.length) := ⟨l, ⟨b0, v0, rfl, w0⟩, hl⟩
    have O2 : okI H (.sl b1 v1 0 ms.length) := ⟨ms, ⟨b1, v1, rfl, w1⟩, hla⟩
    have O3 : okI H (.sl b2 v2 0 ts.length) := ⟨ts, ⟨b2, v2, rfl, w2⟩, hlb⟩
    have O4 : okI H (.sl b3 v3 0 bs.length) := ⟨bs, ⟨b3, v3, rfl, w3⟩, hlc⟩
    cases e1 : okB r l ms ts bs
    · have z0 : rvR r l ms ts bs es = (ms, ts) := by simp [rvR, rvB, e1]
      rw [z0] at hK
      repeat' (first | with_reducible refine iteI (fun _ => ?_) (fun _ => ?_) | ((first | unfold AOpsC | unfold AOpsD | skip); simp (maxSteps := 1000000) (disch := (first | omega | assumption | (simp only [List.length_append, List.length_cons, List.length_nil, List.length_set]; omega))) only [go_sem, ↓skipC, ↓exitC, ↓retC, ↓seqC, ↓blockC, ↓condC, ↓regC, ↓drawC, ↓drawStep, ↓AOpC, ↓AOpF, ↓AOpE, ↓AEff, ↓contE_at, ↓contC_at, ↓keepC_at, ↓keepW_at, ↓keepO_at, ↓keepL_at, ↓map_parts, ↓reduceIte, reduceCtorEq, Nat.reduceLT, Nat.reduceEqDiff, Nat.reduceAdd, Nat.reduceMul, Nat.reduceLeDiff, Nat.reduceSub, Nat.reduceBEq, Nat.reduceBNe, Nat.reduceBneDiff, Nat.reduceBeqDiff, ag_27, ag_29, ag_3, ag_4, ag_45, ag_74, ag_76, bo_4, by_27, by_29, by_3, by_4, by_45, by_74, by_76, el_27, el_45, el_74, en_3, fi_29_1, fi_76_0, fi_76_1, in_3, nf_29, nf_76, pl_29, pl_76, ps_29, ps_76, sz_27, sz_29, sz_3, sz_4, sz_45, sz_74, sz_76, ze_27, ze_29, ze_3, ze_4, ze_45, ze_74, ze_76, Sp17, SOk, Dr17, w0, w1, w2, w3, D1, D2, D3, D4, O1, O2, O3, O4, e1]))
      exact hK _ _ _ _ _ _ _ _ _ hN x
    obtain ⟨k1, k2, k3, k4, k5, k6, k7, k8⟩ := okT e1
    have hln := mesh_len k1
    have hne := mesh_ne k1
    repeat' (first | with_reducible refine iteI (fun _ => ?_) (fun _ => ?_) | ((first | unfold AOpsC | unfold AOpsD | skip); simp (maxSteps := 1000000) (disch := (first | omega | assumption | (simp only [List.length_append, List.length_cons, List.length_nil, List.length_set]; omega))) only [go_sem, ↓skipC, ↓exitC, ↓retC, ↓seqC, ↓blockC, ↓condC, ↓regC, ↓drawC, ↓drawStep, ↓AOpC, ↓AOpF, ↓AOpE, ↓AEff, ↓contE_at, ↓contC_at, ↓keepC_at, ↓keepW_at, ↓keepO_at, ↓keepL_at, ↓map_parts, ↓reduceIte, reduceCtorEq, Nat.reduceLT, Nat.reduceEqDiff, Nat.reduceAdd, Nat.reduceMul, Nat.reduceLeDiff, Nat.reduceSub, Nat.reduceBEq, Nat.reduceBNe, Nat.reduceBneDiff, Nat.reduceBeqDiff, ag_27, ag_29, ag_3, ag_4, ag_45, ag_74, ag_76, bo_4, by_27, by_29, by_3, by_4, by_45, by_74, by_76, el_27, el_45, el_74, en_3, fi_29_1, fi_76_0, fi_76_1, in_3, nf_29, nf_76, pl_29, pl_76, ps_29, ps_76, sz_27, sz_29, sz_3, sz_4, sz_45, sz_74, sz_76, ze_27, ze_29, ze_3, ze_4, ze_45, ze_74, ze_76, Sp17, SOk, Dr17, w0, w1, w2, w3, D1, D2, D3, D4, O1, O2, O3, O4, e1]))
    unfold SFit
    refine ⟨es, ⟨by omega, by omega⟩, ⟨hw0.ext x, hwl⟩, fun H2 x2' => ?_⟩
    have x2 := x.trans x2'
    rw [show ((ms.length : Int) - 1).toNat + 1 = ms.length by omega]
    have w0k := x2.blk hb0
    have w1k := x2.blk hb1
    have w2k := x2.blk hb2
    have w3k := x2.blk hb3
    have D1k : dec3 63 H2 (.sl b0 v0 0 l.length) = l := IsR.dec3 ⟨b0, v0, rfl, w0k⟩
    have D2k : decI H2 (.sl b1 v1 0 ms.length) = ms := IsI.dec ⟨b1, v1, rfl, w1k⟩
    have D3k : decI H2 (.sl b2 v2 0 ts.length) = ts := IsI.dec ⟨b2, v2, rfl, w2k⟩
    have D4k : decI H2 (.sl b3 v3 0 bs.length) = bs := IsI.dec ⟨b3, v3, rfl, w3k⟩
    have O1k : ok3 63 H2 (.sl b0 v0 0 l.length) := ⟨l, ⟨b0, v0, rfl, w0k⟩, hl⟩
    have O2k : okI H2 (.sl b1 v1 0 ms.length) := ⟨ms, ⟨b1, v1, rfl, w1k⟩, hla⟩
    have O3k : okI H2 (.sl b2 v2 0 ts.length) := ⟨ts, ⟨b2, v2, rfl, w2k⟩, hlb⟩
    have O4k : okI H2 (.sl b3 v3 0 bs.length) := ⟨bs, ⟨b3, v3, rfl, w3k⟩, hlc⟩
    have hbw2 := x2.blk hbw
    cases e2 : ftsE ms.length es es.length
    · have z0 : rvR r l ms ts bs es = (ms, ts) := by simp [rvR, rvB, e2]
      rw [z0] at hK
      repeat' (first | with_reducible refine iteI (fun _ => ?_) (fun _ => ?_) | ((first | unfold AOpsC | unfold AOpsD | skip); simp (maxSteps := 1000000) (disch := (first | omega | assumption | (simp only [List.length_append, List.length_cons, List.length_nil, List.length_set]; omega))) only [go_sem, ↓skipC, ↓exitC, ↓retC, ↓seqC, ↓blockC, ↓condC, ↓regC, ↓drawC, ↓drawStep, ↓AOpC, ↓AOpF, ↓AOpE, ↓AEff, ↓contE_at, ↓contC_at, ↓keepC_at, ↓keepW_at, ↓keepO_at, ↓keepL_at, ↓map_parts, ↓reduceIte, reduceCtorEq, Nat.reduceLT, Nat.reduceEqDiff, Nat.reduceAdd, Nat.reduceMul, Nat.reduceLeDiff, Nat.reduceSub, Nat.reduceBEq, Nat.reduceBNe, Nat.reduceBneDiff, Nat.reduceBeqDiff, ag_27, ag_29, ag_3, ag_4, ag_45, ag_74, ag_76, bo_4, by_27, by_29, by_3, by_4, by_45, by_74, by_76, el_27, el_45, el_74, en_3, fi_29_1, fi_76_0, fi_76_1, in_3, nf_29, nf_76, pl_29, pl_76, ps_29, ps_76, sz_27, sz_29, sz_3, sz_4, sz_45, sz_74, sz_76, ze_27, ze_29, ze_3, ze_4, ze_45, ze_74, ze_76, Sp17, SOk, Dr17, w0k, w1k, w2k, w3k, D1k, D2k, D3k, D4k, O1k, O2k, O3k, O4k]))
      exact hK _ _ _ _ _ _ _ _ _ (hN.ext x2') x2
    have z0 : rvR r l ms ts bs es = rvG l ms ts bs (gpE es es.length) := by simp [rvR, rvB, e1, e2]
    rw [z0] at hK
    repeat' (first | with_reducible refine iteI (fun _ => ?_) (fun _ => ?_) | ((first | unfold AOpsC | unfold AOpsD | skip); simp (maxSteps := 1000000) (disch := (first | omega | assumption | (simp only [List.length_append, List.length_cons, List.length_nil, List.length_set]; omega))) only [go_sem, ↓skipC, ↓exitC, ↓retC, ↓seqC, ↓blockC, ↓condC, ↓regC, ↓drawC, ↓drawStep, ↓AOpC, ↓AOpF, ↓AOpE, ↓AEff, ↓contE_at, ↓contC_at, ↓keepC_at, ↓keepW_at, ↓keepO_at, ↓keepL_at, ↓map_parts, ↓reduceIte, reduceCtorEq, Nat.reduceLT, Nat.reduceEqDiff, Nat.reduceAdd, Nat.reduceMul, Nat.reduceLeDiff, Nat.reduceSub, Nat.reduceBEq, Nat.reduceBNe, Nat.reduceBneDiff, Nat.reduceBeqDiff, ag_27, ag_29, ag_3, ag_4, ag_45, ag_74, ag_76, bo_4, by_27, by_29, by_3, by_4, by_45, by_74, by_76, el_27, el_45, el_74, en_3, fi_29_1, fi_76_0, fi_76_1, in_3, nf_29, nf_76, pl_29, pl_76, ps_29, ps_76, sz_27, sz_29, sz_3, sz_4, sz_45, sz_74, sz_76, ze_27, ze_29, ze_3, ze_4, ze_45, ze_74, ze_76, Sp17, SOk, Dr17, w0k, w1k, w2k, w3k, D1k, D2k, D3k, D4k, O1k, O2k, O3k, O4k, acR_new]))
    have hlt4 := fun c => (hN.ext x2').lt (c := c)
    have lq0 := hlt4 q0 (.inl rfl)
    have lq1 := hlt4 q1 (.inr (.inl rfl))
    have lq2 := hlt4 q2 (.inr (.inr (.inl rfl)))
    have lq3 := hlt4 q3 (.inr (.inr (.inr rfl)))
    have hHl2 := x2.len
    have hd0 : dgE es 0 = [] := by unfold dgE; split <;> rfl
    have ha0 : acE es 0 = [] := by unfold acE; split <;> rfl
    refine ⟨invRvS η r (.sl b0 v0 0 l.length) (.sl b1 v1 0 ms.length) (.sl b2 v2 0 ts.length) (.sl b3 v3 0 bs.length) (.sl bw vw 0 es.length) l ms ts bs es, fun st => ctr es.length st 7, .inl ⟨0, _, q0, q1, q2, q3, 0, 0, 0, 0, H2.length, Nat.zero_le _, ⟨x2.app _, hHl2, by omega, by omega, by omega, by omega⟩, by rw [hd0]; exact (hN.ext x2').ext ⟨_, rfl⟩, by rw [ha0]; exact app_last _ _, rfl, by simp [upd], by simp [upd], by simp [upd], by simp [upd], by simp [upd], by simp [upd], by simp [upd], by simp [upd], by simp [upd, hd0, rvG], rfl⟩, ?_⟩
    clear w0 w1 w2 w3 D1 D2 D3 D4 O1 O2 O3 O4 w0k w1k w2k w3k D1k D2k D3k D4k O1k O2k O3k O4k hbw2 lq0 lq1 lq2 lq3 hHl2 hd0 ha0 hlt4 hN x x2 x2'
    rintro ⟨n, τ, lam, η'⟩ ⟨i, H, q0, q1, q2, q3, u0, u1, u2, u3, ba, g0, g1, g2, g3, hn, t1, t2, t4, t5, t6, t7, l2, l4, l5, hη⟩; simp only at hn t1 t2 t4 t5 t6 t7 l2 l4 l5 hη; subst hn hη
    obtain ⟨x, nb, n0, n1, n2, n3⟩ := g1
    have w0 := x.blk hb0
    have w1 := x.blk hb1
    have w2 := x.blk hb2
    have w3 := x.blk hb3
    have D1 : dec3 63 η' (.sl b0 v0 0 l.length) = l := IsR.dec3 ⟨b0, v0, rfl, w0⟩
    have D2 : decI η' (.sl b1 v1 0 ms.length) = ms := IsI.dec ⟨b1, v1, rfl, w1⟩
    have D3 : decI η' (.sl b2 v2 0 ts.length) = ts := IsI.dec ⟨b2, v2, rfl, w2⟩
    have D4 : decI η' (.sl b3 v3 0 bs.length) = bs := IsI.dec ⟨b3, v3, rfl, w3⟩
    have O1 : ok3 63 η' (.sl b0 v0 0 l.length) := ⟨l, ⟨b0, v0, rfl, w0⟩, hl⟩
    have O2 : okI η' (.sl b1 v1 0 ms.length) := ⟨ms, ⟨b1, v1, rfl, w1⟩, hla⟩
    have O3 : okI η' (.sl b2 v2 0 ts.length) := ⟨ts, ⟨b2, v2, rfl, w2⟩, hlb⟩
    have O4 : okI η' (.sl b3 v3 0 bs.length) := ⟨bs, ⟨b3, v3, rfl, w3⟩, hlc⟩
    have hbw2 := x.blk hbw
    have lba := blt g3
    by_cases hlt : i < es.length
    · have hft := fts_at e2 hlt
      obtain ⟨j, hfj, hjn⟩ := ft_face hft
      have hfj2 : (es.getD i (0, 0)).2 = (j : Int) := hfj
      have hsn := ac_snoc hlt
      have hdg := dg_dn hlt
      have hac := acR_len ms.length (acE es i)
      have hset := acR_set (acE es i) j (n := ms.length)
      rw [← hfj, hsn] at hset
      have hfs : ftsE ms.length es (i + 1) = true := fts_le e2 hlt
      have hcf := cu_faces _ hfs
      have hdf := dn_faces _ hfs
      rw [hdg] at g2 l5
      obtain ⟨o1', o2', o3'⟩ := rvG_ok (dnE es (i + 1)) e1 hdf
      have hN2 := g2.oth (b := ba) ⟨n0, n1, n2, n3⟩ (⟨0, 4, 1, (acR ms.length (cuE es (i + 1))).map AV.bool⟩ : Blk)
      have hb2 : (η'.set ba (⟨0, 4, 1, (acR ms.length (cuE es (i + 1))).map AV.bool⟩ : Blk))[ba]? = _ := set_eq lba
      have xs := x.set nb (⟨0, 4, 1, (acR ms.length (cuE es (i + 1))).map AV.bool⟩ : Blk)
      have hbw3 := xs.blk hbw
      have hw13 := xs.blk hb1
      by_cases hlast : i + 1 = es.length ∨ frE es (i + 1) = true
      · have hac2 : acE es (i + 1) = [] := if_pos hlast
        have hdg2 : dgE es (i + 1) = dnE es (i + 1) ++ [cuE es (i + 1)] := by rw [dgE, if_pos hlast, gpE, if_neg (by omega)]
        have hsn2 := rvG_snoc l ms ts bs (dnE es (i + 1)) (cuE es (i + 1))
        generalize rvG l ms ts bs (dnE es (i + 1)) = RV0 at *
        by_cases hl1 : i + 1 = es.length
        · have hl1' : (i : Int) + 1 = (es.length : Int) := by omega
          repeat' (first | with_reducible refine iteI (fun _ => ?_) (fun _ => ?_) | ((first | unfold AOpsC | unfold AOpsD | skip); simp (maxSteps := 1000000) (disch := (first | omega | assumption | (simp only [List.length_append, List.length_cons, List.length_nil, List.length_set]; omega))) only [go_sem, ↓skipC, ↓exitC, ↓retC, ↓seqC, ↓blockC, ↓condC, ↓regC, ↓drawC, ↓drawStep, ↓AOpC, ↓AOpF, ↓AOpE, ↓AEff, ↓contE_at, ↓contC_at, ↓keepC_at, ↓keepW_at, ↓keepO_at, ↓keepL_at, ↓map_parts, ↓reduceIte, reduceCtorEq, Nat.reduceLT, Nat.reduceEqDiff, Nat.reduceAdd, Nat.reduceMul, Nat.reduceLeDiff, Nat.reduceSub, Nat.reduceBEq, Nat.reduceBNe, Nat.reduceBneDiff, Nat.reduceBeqDiff, ag_27, ag_29, ag_3, ag_4, ag_45, ag_74, ag_76, bo_4, by_27, by_29, by_3, by_4, by_45, by_74, by_76, el_27, el_45, el_74, en_3, fi_29_1, fi_76_0, fi_76_1, in_3, nf_29, nf_76, pl_29, pl_76, ps_29, ps_76, sz_27, sz_29, sz_3, sz_4, sz_45, sz_74, sz_76, ze_27, ze_29, ze_3, ze_4, ze_45, ze_74, ze_76, Sp17, SOk, Dr17, w0, w1, w2, w3, D1, D2, D3, D4, O1, O2, O3, O4, hbw2, hbw3, hb2, hw13, hfj2, hac, hset, putBl, hl1', g3, t1, t2, t4, t5, t6, t7, l2, l4, l5]))
          unfold SMovQ
          refine ⟨l, RV0.1, RV0.2, bs, cuE es (i + 1), ⟨⟨q0, u0, rfl, hN2.g0⟩, ⟨q1, u1, rfl, hN2.g1⟩, ⟨q2, u2, rfl, hN2.g2⟩, ⟨q3, u3, rfl, hN2.g3⟩⟩, o1', by rw [o2']; exact hcf, ⟨o2'.symm, by rw [o2']; exact hb2⟩, fun G d0 d1 d2 d3 hN3 xG => ?_⟩
          have xx := xs.trans xG
          have hw1G := xx.blk hb1
          have hGl := xx.len
          have hlt5 := fun c => hN3.lt (c := c)
          have m0 := hlt5 d0 (.inl rfl)
          have m1 := hlt5 d1 (.inr (.inl rfl))
          have m2 := hlt5 d2 (.inr (.inr (.inl rfl)))
          have m3 := hlt5 d3 (.inr (.inr (.inr rfl)))
          have hn1 : (nM l RV0.1 bs (cuE es (i + 1))).length = RV0.1.length := mapLn _ _
          have hn2 : (nT l RV0.1 RV0.2 bs (cuE es (i + 1))).length = RV0.2.length := by rw [nT, mapLn]; omega
          repeat' (first | with_reducible refine iteI (fun _ => ?_) (fun _ => ?_) | ((first | unfold AOpsC | unfold AOpsD | skip); simp (maxSteps := 1000000) (disch := (first | omega | assumption | (simp only [List.length_append, List.length_cons, List.length_nil, List.length_set]; omega))) only [go_sem, ↓skipC, ↓exitC, ↓retC, ↓seqC, ↓blockC, ↓condC, ↓regC, ↓drawC, ↓drawStep, ↓AOpC, ↓AOpF, ↓AOpE, ↓AEff, ↓contE_at, ↓contC_at, ↓keepC_at, ↓keepW_at, ↓keepO_at, ↓keepL_at, ↓map_parts, ↓reduceIte, reduceCtorEq, Nat.reduceLT, Nat.reduceEqDiff, Nat.reduceAdd, Nat.reduceMul, Nat.reduceLeDiff, Nat.reduceSub, Nat.reduceBEq, Nat.reduceBNe, Nat.reduceBneDiff, Nat.reduceBeqDiff, ag_27, ag_29, ag_3, ag_4, ag_45, ag_74, ag_76, bo_4, by_27, by_29, by_3, by_4, by_45, by_74, by_76, el_27, el_45, el_74, en_3, fi_29_1, fi_76_0, fi_76_1, in_3, nf_29, nf_76, pl_29, pl_76, ps_29, ps_76, sz_27, sz_29, sz_3, sz_4, sz_45, sz_74, sz_76, ze_27, ze_29, ze_3, ze_4, ze_45, ze_74, ze_76, Sp17, SOk, Dr17, hw1G, acR_new, t1, t2, t4, t5, t6, t7, l2, l4, l5]))
          exact ⟨⟨i + 1, _, d0, d1, d2, d3, 0, 0, 0, 0, G.length, hlt, ⟨xx.app _, hGl, by omega, by omega, by omega, by omega⟩, by rw [hdg2, hsn2]; exact (hN3.mono (by simpa using x.len)).ext ⟨_, rfl⟩, by rw [hac2]; exact app_last _ _, rfl, by simp [upd, t1], by simp [upd, t2], by simp [upd, t4], by simp [upd, t5], by simp [upd], by simp [upd], by simp [upd, l2], by simp [upd, l4], by simp [upd, hdg2, hsn2, hn1, hn2], rfl⟩, by simp [ctr, upd, t7]; omega⟩
        · have hl1' : ¬ (i : Int) + 1 = (es.length : Int) := by omega
          have hfr : frE es (i + 1) = true := hlast.resolve_left hl1
          have hne2 : ¬ (es.getD (i + 1) (0, 0)).1 = (es.getD i (0, 0)).1 := by
            rw [fr_iff] at hfr
            simpa [tkA] using hfr
          repeat' (first | with_reducible refine iteI (fun _ => ?_) (fun _ => ?_) | ((first | unfold AOpsC | unfold AOpsD | skip); simp (maxSteps := 1000000) (disch := (first | omega | assumption | (simp only [List.length_append, List.length_cons, List.length_nil, List.length_set]; omega))) only [go_sem, ↓skipC, ↓exitC, ↓retC, ↓seqC, ↓blockC, ↓condC, ↓regC, ↓drawC, ↓drawStep, ↓AOpC, ↓AOpF, ↓AOpE, ↓AEff, ↓contE_at, ↓contC_at, ↓keepC_at, ↓keepW_at, ↓keepO_at, ↓keepL_at, ↓map_parts, ↓reduceIte, reduceCtorEq, Nat.reduceLT, Nat.reduceEqDiff, Nat.reduceAdd, Nat.reduceMul, Nat.reduceLeDiff, Nat.reduceSub, Nat.reduceBEq, Nat.reduceBNe, Nat.reduceBneDiff, Nat.reduceBeqDiff, ag_27, ag_29, ag_3, ag_4, ag_45, ag_74, ag_76, bo_4, by_27, by_29, by_3, by_4, by_45, by_74, by_76, el_27, el_45, el_74, en_3, fi_29_1, fi_76_0, fi_76_1, in_3, nf_29, nf_76, pl_29, pl_76, ps_29, ps_76, sz_27, sz_29, sz_3, sz_4, sz_45, sz_74, sz_76, ze_27, ze_29, ze_3, ze_4, ze_45, ze_74, ze_76, Sp17, SOk, Dr17, w0, w1, w2, w3, D1, D2, D3, D4, O1, O2, O3, O4, hbw2, hbw3, hb2, hw13, hfj2, hac, hset, putBl, hl1', hne2, g3, t1, t2, t4, t5, t6, t7, l2, l4, l5]))
          unfold SMovQ
          refine ⟨l, RV0.1, RV0.2, bs, cuE es (i + 1), ⟨⟨q0, u0, rfl, hN2.g0⟩, ⟨q1, u1, rfl, hN2.g1⟩, ⟨q2, u2, rfl, hN2.g2⟩, ⟨q3, u3, rfl, hN2.g3⟩⟩, o1', by rw [o2']; exact hcf, ⟨o2'.symm, by rw [o2']; exact hb2⟩, fun G d0 d1 d2 d3 hN3 xG => ?_⟩
          have xx := xs.trans xG
          have hw1G := xx.blk hb1
          have hGl := xx.len
          have hlt5 := fun c => hN3.lt (c := c)
          have m0 := hlt5 d0 (.inl rfl)
          have m1 := hlt5 d1 (.inr (.inl rfl))
          have m2 := hlt5 d2 (.inr (.inr (.inl rfl)))
          have m3 := hlt5 d3 (.inr (.inr (.inr rfl)))
          have hn1 : (nM l RV0.1 bs (cuE es (i + 1))).length = RV0.1.length := mapLn _ _
          have hn2 : (nT l RV0.1 RV0.2 bs (cuE es (i + 1))).length = RV0.2.length := by rw [nT, mapLn]; omega
          repeat' (first | with_reducible refine iteI (fun _ => ?_) (fun _ => ?_) | ((first | unfold AOpsC | unfold AOpsD | skip); simp (maxSteps := 1000000) (disch := (first | omega | assumption | (simp only [List.length_append, List.length_cons, List.length_nil, List.length_set]; omega))) only [go_sem, ↓skipC, ↓exitC, ↓retC, ↓seqC, ↓blockC, ↓condC, ↓regC, ↓drawC, ↓drawStep, ↓AOpC, ↓AOpF, ↓AOpE, ↓AEff, ↓contE_at, ↓contC_at, ↓keepC_at, ↓keepW_at, ↓keepO_at, ↓keepL_at, ↓map_parts, ↓reduceIte, reduceCtorEq, Nat.reduceLT, Nat.reduceEqDiff, Nat.reduceAdd, Nat.reduceMul, Nat.reduceLeDiff, Nat.reduceSub, Nat.reduceBEq, Nat.reduceBNe, Nat.reduceBneDiff, Nat.reduceBeqDiff, ag_27, ag_29, ag_3, ag_4, ag_45, ag_74, ag_76, bo_4, by_27, by_29, by_3, by_4, by_45, by_74, by_76, el_27, el_45, el_74, en_3, fi_29_1, fi_76_0, fi_76_1, in_3, nf_29, nf_76, pl_29, pl_76, ps_29, ps_76, sz_27, sz_29, sz_3, sz_4, sz_45, sz_74, sz_76, ze_27, ze_29, ze_3, ze_4, ze_45, ze_74, ze_76, Sp17, SOk, Dr17, hw1G, acR_new, t1, t2, t4, t5, t6, t7, l2, l4, l5]))
          exact ⟨⟨i + 1, _, d0, d1, d2, d3, 0, 0, 0, 0, G.length, hlt, ⟨xx.app _, hGl, by omega, by omega, by omega, by omega⟩, by rw [hdg2, hsn2]; exact (hN3.mono (by simpa using x.len)).ext ⟨_, rfl⟩, by rw [hac2]; exact app_last _ _, rfl, by simp [upd, t1], by simp [upd, t2], by simp [upd, t4], by simp [upd, t5], by simp [upd], by simp [upd], by simp [upd, l2], by simp [upd, l4], by simp [upd, hdg2, hsn2, hn1, hn2], rfl⟩, by simp [ctr, upd, t7]; omega⟩
      · have hac2 : acE es (i + 1) = cuE es (i + 1) := if_neg hlast
        have hdg2 : dgE es (i + 1) = dnE es (i + 1) := if_neg hlast
        have hl1' : ¬ (i : Int) + 1 = (es.length : Int) := by omega
        have hne2 : (es.getD (i + 1) (0, 0)).1 = (es.getD i (0, 0)).1 := by
          have : ¬ frE es (i + 1) = true := fun e => hlast (.inr e)
          rw [fr_iff] at this
          simpa [tkA] using this
        repeat' (first | with_reducible refine iteI (fun _ => ?_) (fun _ => ?_) | ((first | unfold AOpsC | unfold AOpsD | skip); simp (maxSteps := 1000000) (disch := (first | omega | assumption | (simp only [List.length_append, List.length_cons, List.length_nil, List.length_set]; omega))) only [go_sem, ↓skipC, ↓exitC, ↓retC, ↓seqC, ↓blockC, ↓condC, ↓regC, ↓drawC, ↓drawStep, ↓AOpC, ↓AOpF, ↓AOpE, ↓AEff, ↓contE_at, ↓contC_at, ↓keepC_at, ↓keepW_at, ↓keepO_at, ↓keepL_at, ↓map_parts, ↓reduceIte, reduceCtorEq, Nat.reduceLT, Nat.reduceEqDiff, Nat.reduceAdd, Nat.reduceMul, Nat.reduceLeDiff, Nat.reduceSub, Nat.reduceBEq, Nat.reduceBNe, Nat.reduceBneDiff, Nat.reduceBeqDiff, ag_27, ag_29, ag_3, ag_4, ag_45, ag_74, ag_76, bo_4, by_27, by_29, by_3, by_4, by_45, by_74, by_76, el_27, el_45, el_74, en_3, fi_29_1, fi_76_0, fi_76_1, in_3, nf_29, nf_76, pl_29, pl_76, ps_29, ps_76, sz_27, sz_29, sz_3, sz_4, sz_45, sz_74, sz_76, ze_27, ze_29, ze_3, ze_4, ze_45, ze_74, ze_76, Sp17, SOk, Dr17, w0, w1, w2, w3, D1, D2, D3, D4, O1, O2, O3, O4, hbw2, hbw3, hb2, hw13, hfj2, hac, hset, putBl, hl1', hne2, g3, t1, t2, t4, t5, t6, t7, l2, l4, l5]))
        exact ⟨⟨i + 1, _, q0, q1, q2, q3, u0, u1, u2, u3, ba, hlt, ⟨xs, nb, n0, n1, n2, n3⟩, by rw [hdg2]; exact hN2, by rw [hac2]; exact hb2, rfl, by simp [upd, t1], by simp [upd, t2], by simp [upd, t4], by simp [upd, t5], by simp [upd, t6], by simp [upd], by simp [upd, l2], by simp [upd, l4], by simp [upd, l5, hdg2], rfl⟩, by simp [ctr, upd, t7]; omega⟩
    · obtain rfl : i = es.length := by omega
      rw [dg_end] at g2 l5
      repeat' (first | with_reducible refine iteI (fun _ => ?_) (fun _ => ?_) | ((first | unfold AOpsC | unfold AOpsD | skip); simp (maxSteps := 1000000) (disch := (first | omega | assumption | (simp only [List.length_append, List.length_cons, List.length_nil, List.length_set]; omega))) only [go_sem, ↓skipC, ↓exitC, ↓retC, ↓seqC, ↓blockC, ↓condC, ↓regC, ↓drawC, ↓drawStep, ↓AOpC, ↓AOpF, ↓AOpE, ↓AEff, ↓contE_at, ↓contC_at, ↓keepC_at, ↓keepW_at, ↓keepO_at, ↓keepL_at, ↓map_parts, ↓reduceIte, reduceCtorEq, Nat.reduceLT, Nat.reduceEqDiff, Nat.reduceAdd, Nat.reduceMul, Nat.reduceLeDiff, Nat.reduceSub, Nat.reduceBEq, Nat.reduceBNe, Nat.reduceBneDiff, Nat.reduceBeqDiff, ag_27, ag_29, ag_3, ag_4, ag_45, ag_74, ag_76, bo_4, by_27, by_29, by_3, by_4, by_45, by_74, by_76, el_27, el_45, el_74, en_3, fi_29_1, fi_76_0, fi_76_1, in_3, nf_29, nf_76, pl_29, pl_76, ps_29, ps_76, sz_27, sz_29, sz_3, sz_4, sz_45, sz_74, sz_76, ze_27, ze_29, ze_3, ze_4, ze_45, ze_74, ze_76, Sp17, SOk, Dr17, w0, w1, w2, w3, D1, D2, D3, D4, O1, O2, O3, O4, hbw2, t1, t2, t4, t5, t6, t7, l2, l4, l5]))
      exact hK _ _ _ _ _ _ _ _ _ g2 x
  · exact h.elim

def invRvI (η H2 : List Blk) (r : Int) (v a b c : AV) (q0 q1 q2 q3 bo wo : Nat) (C : List AV) (l : List Id3) (ms ts bs : List Int) (es : List (Int × Int)) (st : St) : Prop := ∃ i : Nat, ∃ H : List Blk, ∃ p : Nat, (i ≤ C.length) ∧ (Ext η H) ∧ (H2.length ≤ H.length) ∧ (PtrS η.length p H r q0 q1 q2 q3 0 0 0 0 l (rvG l ms ts bs ((gpE es es.length).take i)).1 (rvG l ms ts bs ((gpE es es.length).take i)).2 bs ∧ (p < H2.length ∧ q0 < H2.length ∧ q1 < H2.length ∧ q2 < H2.length ∧ q3 < H2.length)) ∧ (H[bo]? = some ⟨wo, 27, 1, C⟩ ∧ H2.length ≤ bo) ∧ (GsR H2.length bo H H.length C (gpE es es.length)) ∧ st.n = 33 ∧ st.τ 2 = .loc 2 1 0 ∧ st.τ 4 = .loc 4 1 0 ∧ st.τ 5 = .ptr p 0 0 ∧ st.τ 23 = .sl bo wo 0 C.length ∧ st.τ 24 = .int .i64 C.length ∧ st.τ 25 = .int .i64 i ∧ st.lam 2 = ⟨1, [.int .i64 r, v, a, b, c]⟩ ∧ st.lam 4 = ⟨1, [.int .i64 0, .nils, .nils, .nils, .nils]⟩ ∧ st.η = H

/- impl.RunEvents -/
def Sp20 (lo : Nat) : Spec := fun g args η K => match g with | 46 => SOk args η K | 52 => SCopyS args η K | 53 => SGrp args η K | 54 => SMov lo args η K | _ => False
theorem Sp20_ok {lo : Nat} : Sound Try.prog lo (Sp20 lo) := by
  intro g args η K h
  unfold Sp20 at h
  split at h
  · exact .inl (f46_ok h)
  · exact .inl (f52_ok h)
  · exact .inl (f53_ok h)
  · exact .inl (f54_ok h)
  · exact h.elim
theorem f20_ok {lo : Nat} {args : List AV} {η : List Blk} {K : AV → List Blk → Prop} (h : SRvE args η K) : AF Try.prog lo 20 args η K := by
  unfold SRvE at h
  split at h
  · obtain ⟨⟨hst, ⟨es, hw, hwl⟩⟩, hK⟩ := h
    obtain ⟨⟨l, hr, hl⟩, ⟨ms, ha, hla⟩, ⟨ts, hb, hlb⟩, ⟨bs, hc, hlc⟩⟩ := hst
    rw [hw.dec2] at hK
    rename_i r _ _ _ _ _
    have d1 := hr.dec3
    have d2 := ha.dec
    have d3 := hb.dec
    have d4 := hc.dec
    have o1 : ok3 63 _ _ := ⟨l, hr, hl⟩
    have o2 : okI _ _ := ⟨ms, ha, hla⟩
    have o3 : okI _ _ := ⟨ts, hb, hlb⟩
    have o4 : okI _ _ := ⟨bs, hc, hlc⟩
    simp only [d1, d2, d3, d4] at hK
    have hr' := hr
    have ha' := ha
    have hb' := hb
    have hc' := hc
    obtain ⟨b0, v0, rfl, hb0⟩ := hr'
    obtain ⟨b1, v1, rfl, hb1⟩ := ha'
    obtain ⟨b2, v2, rfl, hb2⟩ := hb'
    obtain ⟨b3, v3, rfl, hb3⟩ := hc'
    have hw0 := hw
    obtain ⟨bw, vw, rfl, hbw⟩ := hw
    refine AF_run Sp20_ok D0 [5] [.cell 4 29] hm Try.func20 rfl (by decide) Try.ntmps20 rfl (by kernel_rfl) (Nat.le_of_ble_eq_true rfl) ?_; intro hlo
    repeat' (first | with_reducible refine iteI (fun _ => ?_) (fun _ => ?_) | ((first | unfold AOpsC | unfold AOpsD | skip); simp (maxSteps := 1000000) (disch := (first | omega | assumption | (simp only [List.length_append, List.length_cons, List.length_nil, List.length_set]; omega))) only [go_sem, ↓skipC, ↓exitC, ↓retC, ↓seqC, ↓blockC, ↓condC, ↓regC, ↓drawC, ↓drawStep, ↓AOpC, ↓AOpF, ↓AOpE, ↓AEff, ↓contE_at, ↓contC_at, ↓keepC_at, ↓keepW_at, ↓keepO_at, ↓keepL_at, ↓map_parts, ↓reduceIte, reduceCtorEq, Nat.reduceLT, Nat.reduceEqDiff, Nat.reduceAdd, Nat.reduceMul, Nat.reduceLeDiff, Nat.reduceSub, Nat.reduceBEq, Nat.reduceBNe, Nat.reduceBneDiff, Nat.reduceBeqDiff, ag_26, ag_27, ag_29, ag_3, ag_81, by_26, by_27, by_29, by_3, by_81, el_27, el_81, en_3, fi_29_0, in_3, nf_26, nf_29, pl_26, pl_29, ps_26, ps_29, sz_26, sz_27, sz_29, sz_3, sz_81, ze_26, ze_27, ze_29, ze_3, ze_81, Sp20, SOk, hb0, hb1, hb2, hb3, d1, d2, d3, d4, o1, o2, o3, o4]))
    refine copyN ⟨l, ms, ts, bs, ⟨hr, ha, hb, hc⟩, ⟨hl, hla, hlb, hlc⟩, fun H q0 q1 q2 q3 hN x => ?_⟩
    have w0 := x.blk hb0
    have w1 := x.blk hb1
    have w2 := x.blk hb2
    have w3 := x.blk hb3
    have D1 : dec3 63 H (.sl b0 v0 0 l.length) = l := IsR.dec3 ⟨b0, v0, rfl, w0⟩
    have D2 : decI H (.sl b1 v1 0 ms.length) = ms := IsI.dec ⟨b1, v1, rfl, w1⟩
    have D3 : decI H (.sl b2 v2 0 ts.length) = ts := IsI.dec ⟨b2, v2, rfl, w2⟩
    have D4 : decI H (.sl b3 v3 0 bs.length) = bs := IsI.dec ⟨b3, v3, rfl, w3⟩
    have O1 : ok3 63 H (.sl b0 v0 0 l.length) := ⟨l, ⟨b0, v0, rfl, w0⟩, hl⟩
    have O2 : okI H (.sl b1 v1 0 ms.length) := ⟨ms, ⟨b1, v1, rfl, w1⟩, hla⟩
    have O3 : okI H (.sl b2 v2 0 ts.length) := ⟨ts, ⟨b2, v2, rfl, w2⟩, hlb⟩
    have O4 : okI H (.sl b3 v3 0 bs.length) := ⟨bs, ⟨b3, v3, rfl, w3⟩, hlc⟩
    have hHl := x.len
    have nlt := fun c => hN.lt (c := c)
    have l0 := nlt q0 (.inl rfl)
    have l1 := nlt q1 (.inr (.inl rfl))
    have l2 := nlt q2 (.inr (.inr (.inl rfl)))
    have l3 := nlt q3 (.inr (.inr (.inr rfl)))
    generalize hH2 : H ++ [(⟨0, 29, 5, [.int .i64 r, .sl q0 0 0 l.length, .sl q1 0 0 ms.length, .sl q2 0 0 ts.length, .sl q3 0 0 bs.length]⟩ : Blk)] = H2
    have x2' : Ext H H2 := ⟨_, hH2.symm⟩
    have hH2l : H2.length = H.length + 1 := by rw [← hH2]; simp
    have hP : PtrS η.length H.length H2 r q0 q1 q2 q3 0 0 0 0 l ms ts bs := ⟨by rw [← hH2]; exact app_last _ _, hN.ext x2', hHl, by omega, by omega, by omega, by omega⟩
    have x2 := x.trans x2'
    have w0k := x2.blk hb0
    have w1k := x2.blk hb1
    have w2k := x2.blk hb2
    have w3k := x2.blk hb3
    have D1k : dec3 63 H2 (.sl b0 v0 0 l.length) = l := IsR.dec3 ⟨b0, v0, rfl, w0k⟩
    have D2k : decI H2 (.sl b1 v1 0 ms.length) = ms := IsI.dec ⟨b1, v1, rfl, w1k⟩
    have D3k : decI H2 (.sl b2 v2 0 ts.length) = ts := IsI.dec ⟨b2, v2, rfl, w2k⟩
    have D4k : decI H2 (.sl b3 v3 0 bs.length) = bs := IsI.dec ⟨b3, v3, rfl, w3k⟩
    have O1k : ok3 63 H2 (.sl b0 v0 0 l.length) := ⟨l, ⟨b0, v0, rfl, w0k⟩, hl⟩
    have O2k : okI H2 (.sl b1 v1 0 ms.length) := ⟨ms, ⟨b1, v1, rfl, w1k⟩, hla⟩
    have O3k : okI H2 (.sl b2 v2 0 ts.length) := ⟨ts, ⟨b2, v2, rfl, w2k⟩, hlb⟩
    have O4k : okI H2 (.sl b3 v3 0 bs.length) := ⟨bs, ⟨b3, v3, rfl, w3k⟩, hlc⟩
    have hp := hP.pb
    cases e1 : okB r l ms ts bs
    · have z0 : rvR r l ms ts bs es = (ms, ts) := by simp [rvR, rvB, e1]
      rw [z0] at hK
      repeat' (first | with_reducible refine iteI (fun _ => ?_) (fun _ => ?_) | ((first | unfold AOpsC | unfold AOpsD | skip); simp (maxSteps := 1000000) (disch := (first | omega | assumption | (simp only [List.length_append, List.length_cons, List.length_nil, List.length_set]; omega))) only [go_sem, ↓skipC, ↓exitC, ↓retC, ↓seqC, ↓blockC, ↓condC, ↓regC, ↓drawC, ↓drawStep, ↓AOpC, ↓AOpF, ↓AOpE, ↓AEff, ↓contE_at, ↓contC_at, ↓keepC_at, ↓keepW_at, ↓keepO_at, ↓keepL_at, ↓map_parts, ↓reduceIte, reduceCtorEq, Nat.reduceLT, Nat.reduceEqDiff, Nat.reduceAdd, Nat.reduceMul, Nat.reduceLeDiff, Nat.reduceSub, Nat.reduceBEq, Nat.reduceBNe, Nat.reduceBneDiff, Nat.reduceBeqDiff, ag_26, ag_27, ag_29, ag_3, ag_81, by_26, by_27, by_29, by_3, by_81, el_27, el_81, en_3, fi_29_0, in_3, nf_26, nf_29, pl_26, pl_29, ps_26, ps_29, sz_26, sz_27, sz_29, sz_3, sz_81, ze_26, ze_27, ze_29, ze_3, ze_81, Sp20, SOk, w0, w1, w2, w3, D1, D2, D3, D4, O1, O2, O3, O4, hH2, hp, w0k, w1k, w2k, w3k, D1k, D2k, D3k, D4k, O1k, O2k, O3k, O4k, e1]))
      exact hK _ _ _ _ _ _ _ _ _ hP.n4 x2
    obtain ⟨k1, k2, k3, k4, k5, k6, k7, k8⟩ := okT e1
    repeat' (first | with_reducible refine iteI (fun _ => ?_) (fun _ => ?_) | ((first | unfold AOpsC | unfold AOpsD | skip); simp (maxSteps := 1000000) (disch := (first | omega | assumption | (simp only [List.length_append, List.length_cons, List.length_nil, List.length_set]; omega))) only [go_sem, ↓skipC, ↓exitC, ↓retC, ↓seqC, ↓blockC, ↓condC, ↓regC, ↓drawC, ↓drawStep, ↓AOpC, ↓AOpF, ↓AOpE, ↓AEff, ↓contE_at, ↓contC_at, ↓keepC_at, ↓keepW_at, ↓keepO_at, ↓keepL_at, ↓map_parts, ↓reduceIte, reduceCtorEq, Nat.reduceLT, Nat.reduceEqDiff, Nat.reduceAdd, Nat.reduceMul, Nat.reduceLeDiff, Nat.reduceSub, Nat.reduceBEq, Nat.reduceBNe, Nat.reduceBneDiff, Nat.reduceBeqDiff, ag_26, ag_27, ag_29, ag_3, ag_81, by_26, by_27, by_29, by_3, by_81, el_27, el_81, en_3, fi_29_0, in_3, nf_26, nf_29, pl_26, pl_29, ps_26, ps_29, sz_26, sz_27, sz_29, sz_3, sz_81, ze_26, ze_27, ze_29, ze_3, ze_81, Sp20, SOk, w0, w1, w2, w3, D1, D2, D3, D4, O1, O2, O3, O4, hH2, hp, w0k, w1k, w2k, w3k, D1k, D2k, D3k, D4k, O1k, O2k, O3k, O4k, e1]))
    unfold SGrp
    refine ⟨l, es, ⟨hr.ext x2, hl⟩, ⟨hw0.ext x2, hwl⟩, fun hf H3 bo wo C hbo hbl hgs x3 => ?_, fun hf H3 x3 => ?_⟩
    · have z0 : rvR r l ms ts bs es = rvG l ms ts bs (gpE es es.length) := by rw [rvR, if_pos]; rw [rvB, e1, k3, hf]; rfl
      rw [z0] at hK
      have hP3 : PtrS η.length H.length H3 r q0 q1 q2 q3 0 0 0 0 l ms ts bs := ⟨x3.blk hp, hP.n4.ext x3, hP.np, hP.p0, hP.p1, hP.p2, hP.p3⟩
      have x23 := x2.trans x3
      have hCl := hgs.1
      have hgl := gp_len es es.length
      have hgf := gp_faces (by rw [k3]; exact hf : ftsE ms.length es es.length = true)
      repeat' (first | with_reducible refine iteI (fun _ => ?_) (fun _ => ?_) | ((first | unfold AOpsC | unfold AOpsD | skip); simp (maxSteps := 1000000) (disch := (first | omega | assumption | (simp only [List.length_append, List.length_cons, List.length_nil, List.length_set]; omega))) only [go_sem, ↓skipC, ↓exitC, ↓retC, ↓seqC, ↓blockC, ↓condC, ↓regC, ↓drawC, ↓drawStep, ↓AOpC, ↓AOpF, ↓AOpE, ↓AEff, ↓contE_at, ↓contC_at, ↓keepC_at, ↓keepW_at, ↓keepO_at, ↓keepL_at, ↓map_parts, ↓reduceIte, reduceCtorEq, Nat.reduceLT, Nat.reduceEqDiff, Nat.reduceAdd, Nat.reduceMul, Nat.reduceLeDiff, Nat.reduceSub, Nat.reduceBEq, Nat.reduceBNe, Nat.reduceBneDiff, Nat.reduceBeqDiff, ag_26, ag_27, ag_29, ag_3, ag_81, by_26, by_27, by_29, by_3, by_81, el_27, el_81, en_3, fi_29_0, in_3, nf_26, nf_29, pl_26, pl_29, ps_26, ps_29, sz_26, sz_27, sz_29, sz_3, sz_81, ze_26, ze_27, ze_29, ze_3, ze_81, Sp20, SOk, hbo]))
      refine ⟨invRvI η H2 r (.sl b0 v0 0 l.length) (.sl b1 v1 0 ms.length) (.sl b2 v2 0 ts.length) (.sl b3 v3 0 bs.length) q0 q1 q2 q3 bo wo C l ms ts bs es, fun st => ctr C.length st 25, .inl ⟨0, H3, H.length, Nat.zero_le _, x23, x3.len, ⟨hP3, by omega, by omega, by omega, by omega, by omega⟩, ⟨hbo, hbl⟩, hgs, rfl, by simp [upd], by simp [upd], by simp [upd], by simp [upd], by simp [upd], by simp [upd], by simp [upd], by simp [upd], rfl⟩, ?_⟩
      clear hP3 hP hp hN hgs hbo hbl x x2 x2' x3 x23 w0 w1 w2 w3 D1 D2 D3 D4 O1 O2 O3 O4 w0k w1k w2k w3k D1k D2k D3k D4k O1k O2k O3k O4k
      rintro ⟨n, τ, lam, η'⟩ ⟨i, H, p, g0, g1, g2, g3, g4, g5, hn, t2, t4, t5, t23, t24, t25, l2, l4, hη⟩; simp only at hn t2 t4 t5 t23 t24 t25 l2 l4 hη; subst hn hη
      obtain ⟨hP, p0, p1, p2, p3, p4⟩ := g3
      obtain ⟨hbo, hbl⟩ := g4
      by_cases hlt : i < C.length
      · obtain ⟨bb, bv, c1, c2, c3, c4, c5⟩ := g5.2 i (by omega)
        have hAm : (gpE es es.length).getD i [] ∈ gpE es es.length := by
          rw [List.getD_eq_getElem?_getD, List.getElem?_eq_getElem (by omega)]
          exact List.getElem_mem _
        have hsn : (gpE es es.length).take (i + 1) = (gpE es es.length).take i ++ [(gpE es es.length).getD i []] := take1 (by omega)
        obtain ⟨o1', o2', o3'⟩ := rvG_ok ((gpE es es.length).take i) e1 (fun A hA => hgf A (List.mem_of_mem_take hA))
        have hgl2 := gp_mem es es.length _ hAm
        repeat' (first | with_reducible refine iteI (fun _ => ?_) (fun _ => ?_) | ((first | unfold AOpsC | unfold AOpsD | skip); simp (maxSteps := 1000000) (disch := (first | omega | assumption | (simp only [List.length_append, List.length_cons, List.length_nil, List.length_set]; omega))) only [go_sem, ↓skipC, ↓exitC, ↓retC, ↓seqC, ↓blockC, ↓condC, ↓regC, ↓drawC, ↓drawStep, ↓AOpC, ↓AOpF, ↓AOpE, ↓AEff, ↓contE_at, ↓contC_at, ↓keepC_at, ↓keepW_at, ↓keepO_at, ↓keepL_at, ↓map_parts, ↓reduceIte, reduceCtorEq, Nat.reduceLT, Nat.reduceEqDiff, Nat.reduceAdd, Nat.reduceMul, Nat.reduceLeDiff, Nat.reduceSub, Nat.reduceBEq, Nat.reduceBNe, Nat.reduceBneDiff, Nat.reduceBeqDiff, ag_26, ag_27, ag_29, ag_3, ag_81, by_26, by_27, by_29, by_3, by_81, el_27, el_81, en_3, fi_29_0, in_3, nf_26, nf_29, pl_26, pl_29, ps_26, ps_29, sz_26, sz_27, sz_29, sz_3, sz_81, ze_26, ze_27, ze_29, ze_3, ze_81, Sp20, SOk, hbo, c1, t2, t4, t5, t23, t24, t25, l2, l4]))
        unfold SMov
        refine ⟨η.length, r, q0, q1, q2, q3, 0, 0, 0, 0, l, _, _, bs, (gpE es es.length).getD i [], hlo, hP, o1', ⟨rfl, c2, by omega⟩, by rw [o2']; exact hgf _ hAm, fun H4 hP4 tq => ?_⟩
        have hnh : ∀ c, hit5 p q0 q1 q2 q3 c → c < H2.length := by
          rintro c (rfl | rfl | rfl | rfl | rfl) <;> assumption
        have x4 : Ext η H4 := g1.after tq (fun c hc => hP.low hc)
        have hbo4 : H4[bo]? = _ := tq.blk (fun e => by have := hnh _ e; omega) hbo
        repeat' (first | with_reducible refine iteI (fun _ => ?_) (fun _ => ?_) | ((first | unfold AOpsC | unfold AOpsD | skip); simp (maxSteps := 1000000) (disch := (first | omega | assumption | (simp only [List.length_append, List.length_cons, List.length_nil, List.length_set]; omega))) only [go_sem, ↓skipC, ↓exitC, ↓retC, ↓seqC, ↓blockC, ↓condC, ↓regC, ↓drawC, ↓drawStep, ↓AOpC, ↓AOpF, ↓AOpE, ↓AEff, ↓contE_at, ↓contC_at, ↓keepC_at, ↓keepW_at, ↓keepO_at, ↓keepL_at, ↓map_parts, ↓reduceIte, reduceCtorEq, Nat.reduceLT, Nat.reduceEqDiff, Nat.reduceAdd, Nat.reduceMul, Nat.reduceLeDiff, Nat.reduceSub, Nat.reduceBEq, Nat.reduceBNe, Nat.reduceBneDiff, Nat.reduceBeqDiff, ag_26, ag_27, ag_29, ag_3, ag_81, by_26, by_27, by_29, by_3, by_81, el_27, el_81, en_3, fi_29_0, in_3, nf_26, nf_29, pl_26, pl_29, ps_26, ps_29, sz_26, sz_27, sz_29, sz_3, sz_81, ze_26, ze_27, ze_29, ze_3, ze_81, Sp20, SOk, hbo4, t2, t4, t5, t23, t24, t25, l2, l4]))
        refine ⟨⟨i + 1, H4, p, hlt, x4, Nat.le_trans g2 tq.1, ⟨by rw [hsn, rvG_snoc]; exact hP4, p0, p1, p2, p3, p4⟩, ⟨hbo4, hbl⟩, g5.mono tq.1 (fun q d1 d2 d3 => tq.2 q d3 fun e => by have := hnh _ e; omega), rfl, by simp [upd, t2], by simp [upd, t4], by simp [upd, t5], by simp [upd, t23], by simp [upd, t24], by simp [upd], by simp [upd, l2], by simp [upd, l4], rfl⟩, by simp [ctr, upd, t25]; omega⟩
      · obtain rfl : i = C.length := by omega
        rw [List.take_of_length_le (by omega)] at hP
        have hpb := hP.pb
        obtain ⟨o1', o2', o3'⟩ := rvG_ok (gpE es es.length) e1 hgf
        repeat' (first | with_reducible refine iteI (fun _ => ?_) (fun _ => ?_) | ((first | unfold AOpsC | unfold AOpsD | skip); simp (maxSteps := 1000000) (disch := (first | omega | assumption | (simp only [List.length_append, List.length_cons, List.length_nil, List.length_set]; omega))) only [go_sem, ↓skipC, ↓exitC, ↓retC, ↓seqC, ↓blockC, ↓condC, ↓regC, ↓drawC, ↓drawStep, ↓AOpC, ↓AOpF, ↓AOpE, ↓AEff, ↓contE_at, ↓contC_at, ↓keepC_at, ↓keepW_at, ↓keepO_at, ↓keepL_at, ↓map_parts, ↓reduceIte, reduceCtorEq, Nat.reduceLT, Nat.reduceEqDiff, Nat.reduceAdd, Nat.reduceMul, Nat.reduceLeDiff, Nat.reduceSub, Nat.reduceBEq, Nat.reduceBNe, Nat.reduceBneDiff, Nat.reduceBeqDiff, ag_26, ag_27, ag_29, ag_3, ag_81, by_26, by_27, by_29, by_3, by_81, el_27, el_81, en_3, fi_29_0, in_3, nf_26, nf_29, pl_26, pl_29, ps_26, ps_29, sz_26, sz_27, sz_29, sz_3, sz_81, ze_26, ze_27, ze_29, ze_3, ze_81, Sp20, SOk, hbo, hpb, t2, t4, t5, t23, t24, t25, l2, l4]))
        exact hK _ _ _ _ _ _ _ _ _ hP.n4 g1
    · have z0 : rvR r l ms ts bs es = (ms, ts) := by rw [rvR, if_neg]; rw [rvB, e1, k3, hf]; simp
      rw [z0] at hK
      have hp3 := x3.blk hp
      have x23 := x2.trans x3
      repeat' (first | with_reducible refine iteI (fun _ => ?_) (fun _ => ?_) | ((first | unfold AOpsC | unfold AOpsD | skip); simp (maxSteps := 1000000) (disch := (first | omega | assumption | (simp only [List.length_append, List.length_cons, List.length_nil, List.length_set]; omega))) only [go_sem, ↓skipC, ↓exitC, ↓retC, ↓seqC, ↓blockC, ↓condC, ↓regC, ↓drawC, ↓drawStep, ↓AOpC, ↓AOpF, ↓AOpE, ↓AEff, ↓contE_at, ↓contC_at, ↓keepC_at, ↓keepW_at, ↓keepO_at, ↓keepL_at, ↓map_parts, ↓reduceIte, reduceCtorEq, Nat.reduceLT, Nat.reduceEqDiff, Nat.reduceAdd, Nat.reduceMul, Nat.reduceLeDiff, Nat.reduceSub, Nat.reduceBEq, Nat.reduceBNe, Nat.reduceBneDiff, Nat.reduceBeqDiff, ag_26, ag_27, ag_29, ag_3, ag_81, by_26, by_27, by_29, by_3, by_81, el_27, el_81, en_3, fi_29_0, in_3, nf_26, nf_29, pl_26, pl_29, ps_26, ps_29, sz_26, sz_27, sz_29, sz_3, sz_81, ze_26, ze_27, ze_29, ze_3, ze_81, Sp20, SOk, hp3]))
      refine ⟨fun st => st.τ 24 = .int .i64 0 ∧ st.η = H3 ∧ st.n = 33 ∧ st.τ 5 = .ptr H.length 0 0 ∧ st.τ 4 = .loc 4 1 0 ∧ st.lam 4 = ⟨1, [.int .i64 0, .nils, .nils, .nils, .nils]⟩ ∧ st.τ 25 = .int .i64 0, fun _ => 0, .inl ⟨rfl, rfl, rfl, rfl, rfl, rfl, rfl⟩, ?_⟩
      rintro ⟨n, τ, lam, η'⟩ ⟨t24, hη, hn, t5, t4, l4, t25⟩; simp only at t24 hη hn t5 t4 l4 t25; subst hη hn
      repeat' (first | with_reducible refine iteI (fun _ => ?_) (fun _ => ?_) | ((first | unfold AOpsC | unfold AOpsD | skip); simp (maxSteps := 1000000) (disch := (first | omega | assumption | (simp only [List.length_append, List.length_cons, List.length_nil, List.length_set]; omega))) only [go_sem, ↓skipC, ↓exitC, ↓retC, ↓seqC, ↓blockC, ↓condC, ↓regC, ↓drawC, ↓drawStep, ↓AOpC, ↓AOpF, ↓AOpE, ↓AEff, ↓contE_at, ↓contC_at, ↓keepC_at, ↓keepW_at, ↓keepO_at, ↓keepL_at, ↓map_parts, ↓reduceIte, reduceCtorEq, Nat.reduceLT, Nat.reduceEqDiff, Nat.reduceAdd, Nat.reduceMul, Nat.reduceLeDiff, Nat.reduceSub, Nat.reduceBEq, Nat.reduceBNe, Nat.reduceBneDiff, Nat.reduceBeqDiff, ag_26, ag_27, ag_29, ag_3, ag_81, by_26, by_27, by_29, by_3, by_81, el_27, el_81, en_3, fi_29_0, in_3, nf_26, nf_29, pl_26, pl_29, ps_26, ps_29, sz_26, sz_27, sz_29, sz_3, sz_81, ze_26, ze_27, ze_29, ze_3, ze_81, Sp20, SOk, hp3, t24, t5, t4, l4, t25]))
      exact hK _ _ _ _ _ _ _ _ _ (hP.n4.ext x3) x23
  · exact h.elim

end Go.Proofs.Ytaalpmbopkbdiaa
