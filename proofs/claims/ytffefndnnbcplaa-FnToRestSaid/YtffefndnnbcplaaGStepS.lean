/- What functions of the program compute, said in the abstract logic; no conditions. -/
import Derived.Test.YtffefndnnbcplaaGMoveW
import Derived.Test.YtffefndnnbcplaaGStepQ
import Derived.Test.YtffefndnnbcplaaGResS

namespace Go.Proofs.Ytffefndnnbcplaa
open Go
set_option linter.unusedSimpArgs false
set_option linter.unusedVariables false
set_option maxRecDepth 100000
set_option maxHeartbeats 8000000
attribute [local go_sem] st0 AC thenA andC locLoadB KsSW_same KsSW_grow oldLoadB KsOS_same KsOS_grow pv ev put upd dstOk cv cvc binI setB Value.oneCell' EndA resA resA1 List.mapM_cons List.mapM_nil Option.pure_def Option.bind_eq_bind noLocV noLoc1 noLoc noLocs plainV cellsA newVarA putCells condA lam0 inBlockA cur lenA rowA avoidsB avoidB clearB Array.toList_append Op.operands Call.operands newSlot Nat.zero_add Nat.add_zero Nat.succ_ne_self Nat.lt_add_one Nat.zero_lt_succ true_and and_true true_or or_true false_or or_false and_self true_implies forall_const Bool.false_eq_true Bool.true_eq_false false_implies implies_true imp_self ne_eq not_false_eq_true not_true_eq_false false_and and_false List.getElem?_toArray List.getElem?_cons_succ List.getElem?_cons_zero Option.bind_some Option.map_some Bool.not_true Bool.not_false List.getD_cons_zero List.getD_cons_succ Option.some.injEq exists_eq_left' AV.bool.injEq List.map_cons List.map_nil List.all_cons List.all_nil Bool.and_self Bool.and_true Bool.true_and List.append_nil List.cons_append List.nil_append List.length_cons List.length_nil List.drop_zero List.take_zero List.drop_succ_cons List.take_succ_cons List.take_nil List.drop_nil List.not_mem_nil List.mem_cons List.contains_nil List.contains_cons Bool.or_self Bool.or_true Bool.true_or Bool.false_or Bool.or_false Bool.and_false Bool.false_and KsS_same KsS_grow skipV KsS_ext KsSW_ext KsOS_ext rep1 rep2 rep3 rep4 rep5 List.flatten_cons List.flatten_nil partsA isPtr fillA List.size_toArray ltT ltF leT leF ltTn ltFn leTn leFn eqTi eqFi wrapId toNat1 intGet boolGet memD app_get app_last app_lst app_set app_setL app_setF set_ne set_eq gt_iff_lt ge_iff_le decide_eq_true_eq len2 len3 get20 get21 drop2 put2 get30 get31 get32 drop3 put3 putI pairEta bneTi bneFi beqTi beqFi bne_eq_false_iff_eq beq_eq_false_iff_ne beq_iff_eq bne_iff_ne Int.toNat_natCast Nat.mul_one List.length_map Bool.not_eq_true Bool.not_eq_false Bool.decide_eq_true decide_true decide_false Bool.not_eq_true' Bool.not_eq_false' decide_eq_false_iff_not eq_self Decidable.not_not

def tkB (r : Int) (l : List Id3) (ms ts bs : List Int) (t : Int) : Bool := okB r l ms ts bs && decide (0 ≤ t)
def tkM (r : Int) (l : List Id3) (ms ts bs : List Int) (t : Int) : List Int := if tkB r l ms ts bs t = true then nM l ms bs (actL l t) else ms
def tkT (r : Int) (l : List Id3) (ms ts bs : List Int) (t : Int) : List Int := if tkB r l ms ts bs t = true then nT l ms ts bs (actL l t) else ts
theorem tkM_len (r : Int) (l : List Id3) (ms ts bs : List Int) (t : Int) : (tkM r l ms ts bs t).length = ms.length := by
  unfold tkM
  split
  · exact mapLn _ _
  · rfl
theorem tkT_len {r : Int} {l : List Id3} {ms ts bs : List Int} {t : Int} : (tkT r l ms ts bs t).length = ts.length := by
  unfold tkT
  split
  · rename_i h
    simp only [tkB, Bool.and_eq_true] at h
    have := okT h.1
    rw [nT, mapLn]
    omega
  · rfl
def SActS : List AV → List Blk → (AV → List Blk → Prop) → Prop
  | [.agg [.int .i64 r, v], .int .i64 t], η, K => (ok3 45 η v ∧ levs (dec3 45 η v)) ∧ ∀ H bl wer, H[bl]? = some ⟨wer, 3, 1, (actL (dec3 45 η v) t).map (.int .i64)⟩ → η.length ≤ bl → Ext η H → K (.sl bl wer 0 (actL (dec3 45 η v) t).length) H
  | _, _, _ => False

def SStpS : List AV → List Blk → (AV → List Blk → Prop) → Prop
  | [.agg [.int .i64 r, v, a, b, c], .int .i64 t], η, K => (ok3 45 η v ∧ okI η a ∧ okI η b ∧ okI η c) ∧ ∀ H b0 b1 b2 b3 v0 v1 v2 v3, New4 η.length H b0 b1 b2 b3 v0 v1 v2 v3 (dec3 45 η v) (tkM r (dec3 45 η v) (decI η a) (decI η b) (decI η c) t) (tkT r (dec3 45 η v) (decI η a) (decI η b) (decI η c) t) (decI η c) → Ext η H →
      K (.agg [.int .i64 r, .sl b0 v0 0 (dec3 45 η v).length, .sl b1 v1 0 (tkM r (dec3 45 η v) (decI η a) (decI η b) (decI η c) t).length, .sl b2 v2 0 (tkT r (dec3 45 η v) (decI η a) (decI η b) (decI η c) t).length, .sl b3 v3 0 (decI η c).length]) H
  | _, _, _ => False

def invAcjI (η : List Blk) (r : Int) (l : List Id3) (v : AV) (t : Int) (st : St) : Prop := ∃ i : Nat, ∃ H : List Blk, ∃ bl : Nat, ∃ wer : Nat, (i ≤ l.length - 1) ∧ (Ext η H) ∧ (η.length ≤ bl) ∧ (H[bl]? = some ⟨wer, 3, 1, (actN l t i).map (.int .i64)⟩) ∧ st.n = 26 ∧ st.τ 1 = .int .i64 t ∧ st.τ 2 = .loc 2 1 0 ∧ st.τ 5 = .sl bl wer 0 (actN l t i).length ∧ st.τ 11 = .int .i64 ((l.length : Int) - 1) ∧ st.τ 12 = .int .i64 i ∧ st.lam 2 = ⟨1, [.int .i64 r, v]⟩ ∧ st.η = H

/- (impl.Mesh).active -/
def Sp91S (lo : Nat) : Spec := fun g args η K => match g with | 26 => SIsAct args η K | 97 => SFace args η K | _ => False
theorem Sp91S_ok {lo : Nat} : Sound Try.prog lo (Sp91S lo) := by
  intro g args η K h
  unfold Sp91S at h
  split at h
  · exact f26_ok h
  · exact f97_ok h
  · exact h.elim
theorem f91S_ok {lo : Nat} {args : List AV} {η : List Blk} {K : AV → List Blk → Prop} (h : SActS args η K) : AF Try.prog lo 91 args η K := by
  unfold SActS at h
  split at h
  · obtain ⟨⟨⟨l, hr, hl⟩, hlv⟩, hK⟩ := h
    rename_i r _ t
    have d1 := hr.dec3
    have o1 : ok3 45 _ _ := ⟨l, hr, hl⟩
    simp only [d1] at hK hlv
    obtain ⟨b, ver, rfl, hb⟩ := hr
    have hbl := blt hb
    refine AF_run Sp91S_ok D0 [] [.tmp 4] hm Try.func91 rfl (by decide) Try.ntmps91 rfl (by kernel_rfl) (Nat.le_of_ble_eq_true rfl) ?_; intro hlo
    repeat' (first | with_reducible refine iteI (fun _ => ?_) (fun _ => ?_) | ((first | unfold AOpsC | unfold AOpsD | skip); simp (maxSteps := 1000000) (disch := (first | omega | assumption | (simp only [List.length_append, List.length_cons, List.length_nil, List.length_set]; omega))) only [go_sem, ↓skipC, ↓exitC, ↓retC, ↓seqC, ↓blockC, ↓condC, ↓regC, ↓drawC, ↓drawStep, ↓AOpC, ↓AOpF, ↓AOpE, ↓AEff, ↓contE_at, ↓contC_at, ↓keepC_at, ↓keepW_at, ↓keepO_at, ↓map_parts, ↓reduceIte, reduceCtorEq, Nat.reduceLT, Nat.reduceEqDiff, Nat.reduceAdd, Nat.reduceMul, Nat.reduceLeDiff, Nat.reduceSub, Nat.reduceBEq, Nat.reduceBNe, Nat.reduceBneDiff, Nat.reduceBeqDiff, ag_24, ag_26, ag_28, ag_3, ag_45, by_24, by_26, by_28, by_3, by_45, el_24, el_28, fi_26_1, in_3, nf_26, nf_45, pl_26, pl_45, ps_26, ps_45, sz_24, sz_26, sz_28, sz_3, sz_45, ze_24, ze_26, ze_28, ze_3, ze_45, Sp91S, SIsAct, SFace, hb, d1, o1]))
    refine ⟨invAcjI η r l (.sl b ver 0 l.length) t, fun st => ctr l.length st 12, .inr ⟨5, 3, 1, Nat.le_of_ble_eq_true rfl, rfl, 0, _, η.length, 0, Nat.zero_le _, (Ext.refl η).app _, Nat.le_refl _, by simp [RecE, actN], rfl, by simp [RecE, upd, actN], by simp [RecE, upd, actN], by simp [RecE, upd, actN], by simp [RecE, upd, actN], by simp [RecE, upd, actN], rfl, rfl⟩, ?_⟩
    rintro ⟨n, τ, lam, η'⟩ ⟨i, H, bl, wer, g0, g1, g2, g3, hn, t1, t2, t5, t11, t12, l2, hη⟩; simp only at hn t1 t2 t5 t11 t12 l2 hη; subst hn hη
    have hb' := g1.blk hb
    have d1' : dec3 45 η' (.sl b ver 0 l.length) = l := IsR.dec3 ⟨b, ver, rfl, hb'⟩
    have o1' : ok3 45 η' (.sl b ver 0 l.length) := ⟨l, ⟨b, ver, rfl, hb'⟩, hl⟩
    have hHl := blt g3
    have hal := act_len l t i
    by_cases hlt : i + 1 < l.length
    · cases e2 : actB t (faceI l i)
      · have hac : actN l t (i + 1) = actN l t i := by rw [actN, e2]; rfl
        repeat' (first | with_reducible refine iteI (fun _ => ?_) (fun _ => ?_) | ((first | unfold AOpsC | unfold AOpsD | skip); simp (maxSteps := 1000000) (disch := (first | omega | assumption | (simp only [List.length_append, List.length_cons, List.length_nil, List.length_set]; omega))) only [go_sem, ↓skipC, ↓exitC, ↓retC, ↓seqC, ↓blockC, ↓condC, ↓regC, ↓drawC, ↓drawStep, ↓AOpC, ↓AOpF, ↓AOpE, ↓AEff, ↓contE_at, ↓contC_at, ↓keepC_at, ↓keepW_at, ↓keepO_at, ↓map_parts, ↓reduceIte, reduceCtorEq, Nat.reduceLT, Nat.reduceEqDiff, Nat.reduceAdd, Nat.reduceMul, Nat.reduceLeDiff, Nat.reduceSub, Nat.reduceBEq, Nat.reduceBNe, Nat.reduceBneDiff, Nat.reduceBeqDiff, ag_24, ag_26, ag_28, ag_3, ag_45, by_24, by_26, by_28, by_3, by_45, el_24, el_28, fi_26_1, in_3, nf_26, nf_45, pl_26, pl_45, ps_26, ps_45, sz_24, sz_26, sz_28, sz_3, sz_45, ze_24, ze_26, ze_28, ze_3, ze_45, Sp91S, SIsAct, SFace, hb', d1', o1', hlv, t1, t2, t5, t11, t12, l2, e2]))
        refine ⟨⟨i + 1, _, bl, wer, by omega, g1, g2, by rw [hac]; exact g3, rfl, by simp [upd, hac, t1, t2, t5, t11, t12], by simp [upd, hac, t1, t2, t5, t11, t12], by simp [upd, hac, t1, t2, t5, t11, t12], by simp [upd, hac, t1, t2, t5, t11, t12], by simp [upd, hac, t1, t2, t5, t11, t12], by simp [upd, l2], rfl⟩, by simp [ctr, upd, t12]; omega⟩
      · have hac : actN l t (i + 1) = actN l t i ++ [(i : Int)] := by rw [actN, e2]; rfl
        repeat' (first | with_reducible refine iteI (fun _ => ?_) (fun _ => ?_) | ((first | unfold AOpsC | unfold AOpsD | skip); simp (maxSteps := 1000000) (disch := (first | omega | assumption | (simp only [List.length_append, List.length_cons, List.length_nil, List.length_set]; omega))) only [go_sem, ↓skipC, ↓exitC, ↓retC, ↓seqC, ↓blockC, ↓condC, ↓regC, ↓drawC, ↓drawStep, ↓AOpC, ↓AOpF, ↓AOpE, ↓AEff, ↓contE_at, ↓contC_at, ↓keepC_at, ↓keepW_at, ↓keepO_at, ↓map_parts, ↓reduceIte, reduceCtorEq, Nat.reduceLT, Nat.reduceEqDiff, Nat.reduceAdd, Nat.reduceMul, Nat.reduceLeDiff, Nat.reduceSub, Nat.reduceBEq, Nat.reduceBNe, Nat.reduceBneDiff, Nat.reduceBeqDiff, ag_24, ag_26, ag_28, ag_3, ag_45, by_24, by_26, by_28, by_3, by_45, el_24, el_28, fi_26_1, in_3, nf_26, nf_45, pl_26, pl_45, ps_26, ps_45, sz_24, sz_26, sz_28, sz_3, sz_45, ze_24, ze_26, ze_28, ze_3, ze_45, Sp91S, SIsAct, SFace, hb', d1', o1', hlv, t1, t2, t5, t11, t12, l2, e2, g3, takeMap]))
        refine ⟨⟨i + 1, _, bl, wer + 1, by omega, (g1.set g2 _).app _, g2, by rw [hac, app_get (by simpa using hHl), set_eq hHl]; try simp, rfl, by simp [upd, hac, t1, t2, t5, t11, t12], by simp [upd, hac, t1, t2, t5, t11, t12], by simp [upd, hac, t1, t2, t5, t11, t12], by simp [upd, hac, t1, t2, t5, t11, t12], by simp [upd, hac, t1, t2, t5, t11, t12], by simp [upd, l2], rfl⟩, by simp [ctr, upd, t12]; omega⟩
    · obtain rfl : i = l.length - 1 := by omega
      repeat' (first | with_reducible refine iteI (fun _ => ?_) (fun _ => ?_) | ((first | unfold AOpsC | unfold AOpsD | skip); simp (maxSteps := 1000000) (disch := (first | omega | assumption | (simp only [List.length_append, List.length_cons, List.length_nil, List.length_set]; omega))) only [go_sem, ↓skipC, ↓exitC, ↓retC, ↓seqC, ↓blockC, ↓condC, ↓regC, ↓drawC, ↓drawStep, ↓AOpC, ↓AOpF, ↓AOpE, ↓AEff, ↓contE_at, ↓contC_at, ↓keepC_at, ↓keepW_at, ↓keepO_at, ↓map_parts, ↓reduceIte, reduceCtorEq, Nat.reduceLT, Nat.reduceEqDiff, Nat.reduceAdd, Nat.reduceMul, Nat.reduceLeDiff, Nat.reduceSub, Nat.reduceBEq, Nat.reduceBNe, Nat.reduceBneDiff, Nat.reduceBeqDiff, ag_24, ag_26, ag_28, ag_3, ag_45, by_24, by_26, by_28, by_3, by_45, el_24, el_28, fi_26_1, in_3, nf_26, nf_45, pl_26, pl_45, ps_26, ps_45, sz_24, sz_26, sz_28, sz_3, sz_45, ze_24, ze_26, ze_28, ze_3, ze_45, Sp91S, SIsAct, SFace, hb', d1', o1', hlv, t1, t2, t5, t11, t12, l2]))
      exact hK _ _ _ g3 g2 g1
  · exact h.elim

/- spec.StepState -/
def Sp77 (lo : Nat) : Spec := fun g args η K => match g with | 44 => SOk args η K | 126 => SCopyS args η K | 127 => SStepQ args η K | _ => False
theorem Sp77_ok {lo : Nat} : Sound Try.prog lo (Sp77 lo) := by
  intro g args η K h
  unfold Sp77 at h
  split at h
  · exact f44_ok h
  · exact f126_ok h
  · exact f127_ok h
  · exact h.elim
theorem f77_ok {lo : Nat} {args : List AV} {η : List Blk} {K : AV → List Blk → Prop} (h : SStpS args η K) : AF Try.prog lo 77 args η K := by
  unfold SStpS at h
  split at h
  · obtain ⟨⟨⟨l, hr, hl⟩, ⟨ms, ha, hla⟩, ⟨ts, hb, hlb⟩, ⟨bs, hc, hlc⟩⟩, hK⟩ := h
    rename_i r _ _ _ _ t
    have d1 := hr.dec3
    have d2 := ha.dec
    have d3 := hb.dec
    have d4 := hc.dec
    have o1 : ok3 45 _ _ := ⟨l, hr, hl⟩
    have o2 : okI _ _ := ⟨ms, ha, hla⟩
    have o3 : okI _ _ := ⟨ts, hb, hlb⟩
    have o4 : okI _ _ := ⟨bs, hc, hlc⟩
    simp only [d1, d2, d3, d4] at hK
    have hr' := hr
    have ha' := ha
    have hb' := hb
    have hc' := hc
    obtain ⟨b0, v0, rfl, hb0⟩ := hr'
    obtain ⟨b1, v1, rfl, hb1⟩ := ha'
    obtain ⟨b2, v2, rfl, hb2⟩ := hb'
    obtain ⟨b3, v3, rfl, hb3⟩ := hc'
    refine AF_run Sp77_ok D0 [] [.cell 4 39] hm Try.func77 rfl (by decide) Try.ntmps77 rfl (by kernel_rfl) (Nat.le_of_ble_eq_true rfl) ?_; intro hlo
    cases e1 : okB r l ms ts bs
    · skip
      repeat' (first | with_reducible refine iteI (fun _ => ?_) (fun _ => ?_) | ((first | unfold AOpsC | unfold AOpsD | skip); simp (maxSteps := 1000000) (disch := (first | omega | assumption | (simp only [List.length_append, List.length_cons, List.length_nil, List.length_set]; omega))) only [go_sem, ↓skipC, ↓exitC, ↓retC, ↓seqC, ↓blockC, ↓condC, ↓regC, ↓drawC, ↓drawStep, ↓AOpC, ↓AOpF, ↓AOpE, ↓AEff, ↓contE_at, ↓contC_at, ↓keepC_at, ↓keepW_at, ↓keepO_at, ↓map_parts, ↓reduceIte, reduceCtorEq, Nat.reduceLT, Nat.reduceEqDiff, Nat.reduceAdd, Nat.reduceMul, Nat.reduceLeDiff, Nat.reduceSub, Nat.reduceBEq, Nat.reduceBNe, Nat.reduceBneDiff, Nat.reduceBeqDiff, ag_39, by_39, nf_39, pl_39, ps_39, sz_39, ze_39, Sp77, SOk, hb0, hb1, hb2, hb3, d1, d2, d3, d4, o1, o2, o3, o4, e1]))
      refine copyN ⟨l, ms, ts, bs, ⟨hr, ha, hb, hc⟩, ⟨hl, hla, hlb, hlc⟩, fun H q0 q1 q2 q3 hN x => ?_⟩
      have z0 : tkM r l ms ts bs t = ms := by simp [tkM, tkB, e1]
      have z1 : tkT r l ms ts bs t = ts := by simp [tkT, tkB, e1]
      rw [z0, z1] at hK
      repeat' (first | with_reducible refine iteI (fun _ => ?_) (fun _ => ?_) | ((first | unfold AOpsC | unfold AOpsD | skip); simp (maxSteps := 1000000) (disch := (first | omega | assumption | (simp only [List.length_append, List.length_cons, List.length_nil, List.length_set]; omega))) only [go_sem, ↓skipC, ↓exitC, ↓retC, ↓seqC, ↓blockC, ↓condC, ↓regC, ↓drawC, ↓drawStep, ↓AOpC, ↓AOpF, ↓AOpE, ↓AEff, ↓contE_at, ↓contC_at, ↓keepC_at, ↓keepW_at, ↓keepO_at, ↓map_parts, ↓reduceIte, reduceCtorEq, Nat.reduceLT, Nat.reduceEqDiff, Nat.reduceAdd, Nat.reduceMul, Nat.reduceLeDiff, Nat.reduceSub, Nat.reduceBEq, Nat.reduceBNe, Nat.reduceBneDiff, Nat.reduceBeqDiff, ag_39, by_39, nf_39, pl_39, ps_39, sz_39, ze_39, Sp77, SOk]))
      exact hK _ _ _ _ _ _ _ _ _ hN x
    by_cases h0 : 0 ≤ t
    case neg =>
      repeat' (first | with_reducible refine iteI (fun _ => ?_) (fun _ => ?_) | ((first | unfold AOpsC | unfold AOpsD | skip); simp (maxSteps := 1000000) (disch := (first | omega | assumption | (simp only [List.length_append, List.length_cons, List.length_nil, List.length_set]; omega))) only [go_sem, ↓skipC, ↓exitC, ↓retC, ↓seqC, ↓blockC, ↓condC, ↓regC, ↓drawC, ↓drawStep, ↓AOpC, ↓AOpF, ↓AOpE, ↓AEff, ↓contE_at, ↓contC_at, ↓keepC_at, ↓keepW_at, ↓keepO_at, ↓map_parts, ↓reduceIte, reduceCtorEq, Nat.reduceLT, Nat.reduceEqDiff, Nat.reduceAdd, Nat.reduceMul, Nat.reduceLeDiff, Nat.reduceSub, Nat.reduceBEq, Nat.reduceBNe, Nat.reduceBneDiff, Nat.reduceBeqDiff, ag_39, by_39, nf_39, pl_39, ps_39, sz_39, ze_39, Sp77, SOk, hb0, hb1, hb2, hb3, d1, d2, d3, d4, o1, o2, o3, o4, e1, h0]))
      refine copyN ⟨l, ms, ts, bs, ⟨hr, ha, hb, hc⟩, ⟨hl, hla, hlb, hlc⟩, fun H q0 q1 q2 q3 hN x => ?_⟩
      have z0 : tkM r l ms ts bs t = ms := by simp [tkM, tkB, e1, h0]
      have z1 : tkT r l ms ts bs t = ts := by simp [tkT, tkB, e1, h0]
      rw [z0, z1] at hK
      repeat' (first | with_reducible refine iteI (fun _ => ?_) (fun _ => ?_) | ((first | unfold AOpsC | unfold AOpsD | skip); simp (maxSteps := 1000000) (disch := (first | omega | assumption | (simp only [List.length_append, List.length_cons, List.length_nil, List.length_set]; omega))) only [go_sem, ↓skipC, ↓exitC, ↓retC, ↓seqC, ↓blockC, ↓condC, ↓regC, ↓drawC, ↓drawStep, ↓AOpC, ↓AOpF, ↓AOpE, ↓AEff, ↓contE_at, ↓contC_at, ↓keepC_at, ↓keepW_at, ↓keepO_at, ↓map_parts, ↓reduceIte, reduceCtorEq, Nat.reduceLT, Nat.reduceEqDiff, Nat.reduceAdd, Nat.reduceMul, Nat.reduceLeDiff, Nat.reduceSub, Nat.reduceBEq, Nat.reduceBNe, Nat.reduceBneDiff, Nat.reduceBeqDiff, ag_39, by_39, nf_39, pl_39, ps_39, sz_39, ze_39, Sp77, SOk]))
      exact hK _ _ _ _ _ _ _ _ _ hN x
    obtain ⟨k1, k2, k3, k4, k5, k6, k7, k8⟩ := okT e1
    have hB : tkB r l ms ts bs t = true := by simp [tkB, e1, h0]
    have z0 : tkM r l ms ts bs t = nM l ms bs (actL l t) := if_pos hB
    have z1 : tkT r l ms ts bs t = nT l ms ts bs (actL l t) := if_pos hB
    have n1 : (nM l ms bs (actL l t)).length = ms.length := mapLn _ _
    have n2 : (nT l ms ts bs (actL l t)).length = ts.length := by rw [nT, mapLn]; omega
    rw [z0, z1, n1, n2] at hK
    repeat' (first | with_reducible refine iteI (fun _ => ?_) (fun _ => ?_) | ((first | unfold AOpsC | unfold AOpsD | skip); simp (maxSteps := 1000000) (disch := (first | omega | assumption | (simp only [List.length_append, List.length_cons, List.length_nil, List.length_set]; omega))) only [go_sem, ↓skipC, ↓exitC, ↓retC, ↓seqC, ↓blockC, ↓condC, ↓regC, ↓drawC, ↓drawStep, ↓AOpC, ↓AOpF, ↓AOpE, ↓AEff, ↓contE_at, ↓contC_at, ↓keepC_at, ↓keepW_at, ↓keepO_at, ↓map_parts, ↓reduceIte, reduceCtorEq, Nat.reduceLT, Nat.reduceEqDiff, Nat.reduceAdd, Nat.reduceMul, Nat.reduceLeDiff, Nat.reduceSub, Nat.reduceBEq, Nat.reduceBNe, Nat.reduceBneDiff, Nat.reduceBeqDiff, ag_39, by_39, nf_39, pl_39, ps_39, sz_39, ze_39, Sp77, SOk, hb0, hb1, hb2, hb3, d1, d2, d3, d4, o1, o2, o3, o4, e1, h0]))
    unfold SStepQ
    refine ⟨l, ms, ts, bs, ⟨hr, ha, hb, hc⟩, e1, h0, fun H c0 c1 c2 c3 hN x => ?_⟩
    repeat' (first | with_reducible refine iteI (fun _ => ?_) (fun _ => ?_) | ((first | unfold AOpsC | unfold AOpsD | skip); simp (maxSteps := 1000000) (disch := (first | omega | assumption | (simp only [List.length_append, List.length_cons, List.length_nil, List.length_set]; omega))) only [go_sem, ↓skipC, ↓exitC, ↓retC, ↓seqC, ↓blockC, ↓condC, ↓regC, ↓drawC, ↓drawStep, ↓AOpC, ↓AOpF, ↓AOpE, ↓AEff, ↓contE_at, ↓contC_at, ↓keepC_at, ↓keepW_at, ↓keepO_at, ↓map_parts, ↓reduceIte, reduceCtorEq, Nat.reduceLT, Nat.reduceEqDiff, Nat.reduceAdd, Nat.reduceMul, Nat.reduceLeDiff, Nat.reduceSub, Nat.reduceBEq, Nat.reduceBNe, Nat.reduceBneDiff, Nat.reduceBeqDiff, ag_39, by_39, nf_39, pl_39, ps_39, sz_39, ze_39, Sp77, SOk]))
    exact hK _ _ _ _ _ _ _ _ _ hN x
  · exact h.elim

/- impl.StepState -/
def Sp56 (lo : Nat) : Spec := fun g args η K => match g with | 91 => SActS args η K | 103 => SOk args η K | 109 => SCopyS args η K | 124 => SMov lo args η K | _ => False
theorem Sp56_ok {lo : Nat} : Sound Try.prog lo (Sp56 lo) := by
  intro g args η K h
  unfold Sp56 at h
  split at h
  · exact f91S_ok h
  · exact f103_ok h
  · exact f109_ok h
  · exact f124_ok h
  · exact h.elim
theorem f56_ok {lo : Nat} {args : List AV} {η : List Blk} {K : AV → List Blk → Prop} (h : SStpS args η K) : AF Try.prog lo 56 args η K := by
  unfold SStpS at h
  split at h
  · obtain ⟨⟨⟨l, hr, hl⟩, ⟨ms, ha, hla⟩, ⟨ts, hb, hlb⟩, ⟨bs, hc, hlc⟩⟩, hK⟩ := h
    rename_i r _ _ _ _ t
    have d1 := hr.dec3
    have d2 := ha.dec
    have d3 := hb.dec
    have d4 := hc.dec
    have o1 : ok3 45 _ _ := ⟨l, hr, hl⟩
    have o2 : okI _ _ := ⟨ms, ha, hla⟩
    have o3 : okI _ _ := ⟨ts, hb, hlb⟩
    have o4 : okI _ _ := ⟨bs, hc, hlc⟩
    simp only [d1, d2, d3, d4] at hK
    have hr' := hr
    have ha' := ha
    have hb' := hb
    have hc' := hc
    obtain ⟨b0, v0, rfl, hb0⟩ := hr'
    obtain ⟨b1, v1, rfl, hb1⟩ := ha'
    obtain ⟨b2, v2, rfl, hb2⟩ := hb'
    obtain ⟨b3, v3, rfl, hb3⟩ := hc'
    refine AF_run Sp56_ok D0 [5] [.cell 4 39] hm Try.func56 rfl (by decide) Try.ntmps56 rfl (by kernel_rfl) (Nat.le_of_ble_eq_true rfl) ?_; intro hlo
    repeat' (first | with_reducible refine iteI (fun _ => ?_) (fun _ => ?_) | ((first | unfold AOpsC | unfold AOpsD | skip); simp (maxSteps := 1000000) (disch := (first | omega | assumption | (simp only [List.length_append, List.length_cons, List.length_nil, List.length_set]; omega))) only [go_sem, ↓skipC, ↓exitC, ↓retC, ↓seqC, ↓blockC, ↓condC, ↓regC, ↓drawC, ↓drawStep, ↓AOpC, ↓AOpF, ↓AOpE, ↓AEff, ↓contE_at, ↓contC_at, ↓keepC_at, ↓keepW_at, ↓keepO_at, ↓map_parts, ↓reduceIte, reduceCtorEq, Nat.reduceLT, Nat.reduceEqDiff, Nat.reduceAdd, Nat.reduceMul, Nat.reduceLeDiff, Nat.reduceSub, Nat.reduceBEq, Nat.reduceBNe, Nat.reduceBneDiff, Nat.reduceBeqDiff, ag_26, ag_39, by_26, by_39, fi_39_0, nf_26, nf_39, pl_26, pl_39, ps_26, ps_39, sz_26, sz_39, ze_26, ze_39, Sp56, SOk, hb0, hb1, hb2, hb3, d1, d2, d3, d4, o1, o2, o3, o4]))
    refine copyN ⟨l, ms, ts, bs, ⟨hr, ha, hb, hc⟩, ⟨hl, hla, hlb, hlc⟩, fun H q0 q1 q2 q3 hN x => ?_⟩
    have w0 := x.blk hb0
    have w1 := x.blk hb1
    have w2 := x.blk hb2
    have w3 := x.blk hb3
    have D1 : dec3 45 H (.sl b0 v0 0 l.length) = l := IsR.dec3 ⟨b0, v0, rfl, w0⟩
    have D2 : decI H (.sl b1 v1 0 ms.length) = ms := IsI.dec ⟨b1, v1, rfl, w1⟩
    have D3 : decI H (.sl b2 v2 0 ts.length) = ts := IsI.dec ⟨b2, v2, rfl, w2⟩
    have D4 : decI H (.sl b3 v3 0 bs.length) = bs := IsI.dec ⟨b3, v3, rfl, w3⟩
    have O1 : ok3 45 H (.sl b0 v0 0 l.length) := ⟨l, ⟨b0, v0, rfl, w0⟩, hl⟩
    have O2 : okI H (.sl b1 v1 0 ms.length) := ⟨ms, ⟨b1, v1, rfl, w1⟩, hla⟩
    have O3 : okI H (.sl b2 v2 0 ts.length) := ⟨ts, ⟨b2, v2, rfl, w2⟩, hlb⟩
    have O4 : okI H (.sl b3 v3 0 bs.length) := ⟨bs, ⟨b3, v3, rfl, w3⟩, hlc⟩
    have hHl := x.len
    have nlt := fun c => hN.lt (c := c)
    have l0 := nlt q0 (.inl rfl)
    have l1 := nlt q1 (.inr (.inl rfl))
    have l2 := nlt q2 (.inr (.inr (.inl rfl)))
    have l3 := nlt q3 (.inr (.inr (.inr rfl)))
    generalize hH2 : H ++ [(⟨0, 39, 5, [.int .i64 r, .sl q0 0 0 l.length, .sl q1 0 0 ms.length, .sl q2 0 0 ts.length, .sl q3 0 0 bs.length]⟩ : Blk)] = H2
    have x2 : Ext H H2 := ⟨_, hH2.symm⟩
    have hP : PtrS η.length H.length H2 r q0 q1 q2 q3 0 0 0 0 l ms ts bs := ⟨by rw [← hH2]; exact app_last _ _, hN.ext x2, hHl, by omega, by omega, by omega, by omega⟩
    have xx := x.trans x2
    have w0k := xx.blk hb0
    have w1k := xx.blk hb1
    have w2k := xx.blk hb2
    have w3k := xx.blk hb3
    have D1k : dec3 45 H2 (.sl b0 v0 0 l.length) = l := IsR.dec3 ⟨b0, v0, rfl, w0k⟩
    have D2k : decI H2 (.sl b1 v1 0 ms.length) = ms := IsI.dec ⟨b1, v1, rfl, w1k⟩
    have D3k : decI H2 (.sl b2 v2 0 ts.length) = ts := IsI.dec ⟨b2, v2, rfl, w2k⟩
    have D4k : decI H2 (.sl b3 v3 0 bs.length) = bs := IsI.dec ⟨b3, v3, rfl, w3k⟩
    have O1k : ok3 45 H2 (.sl b0 v0 0 l.length) := ⟨l, ⟨b0, v0, rfl, w0k⟩, hl⟩
    have O2k : okI H2 (.sl b1 v1 0 ms.length) := ⟨ms, ⟨b1, v1, rfl, w1k⟩, hla⟩
    have O3k : okI H2 (.sl b2 v2 0 ts.length) := ⟨ts, ⟨b2, v2, rfl, w2k⟩, hlb⟩
    have O4k : okI H2 (.sl b3 v3 0 bs.length) := ⟨bs, ⟨b3, v3, rfl, w3k⟩, hlc⟩
    have hp := hP.pb
    cases e1 : okB r l ms ts bs
    · repeat' (first | with_reducible refine iteI (fun _ => ?_) (fun _ => ?_) | ((first | unfold AOpsC | unfold AOpsD | skip); simp (maxSteps := 1000000) (disch := (first | omega | assumption | (simp only [List.length_append, List.length_cons, List.length_nil, List.length_set]; omega))) only [go_sem, ↓skipC, ↓exitC, ↓retC, ↓seqC, ↓blockC, ↓condC, ↓regC, ↓drawC, ↓drawStep, ↓AOpC, ↓AOpF, ↓AOpE, ↓AEff, ↓contE_at, ↓contC_at, ↓keepC_at, ↓keepW_at, ↓keepO_at, ↓map_parts, ↓reduceIte, reduceCtorEq, Nat.reduceLT, Nat.reduceEqDiff, Nat.reduceAdd, Nat.reduceMul, Nat.reduceLeDiff, Nat.reduceSub, Nat.reduceBEq, Nat.reduceBNe, Nat.reduceBneDiff, Nat.reduceBeqDiff, ag_26, ag_39, by_26, by_39, fi_39_0, nf_26, nf_39, pl_26, pl_39, ps_26, ps_39, sz_26, sz_39, ze_26, ze_39, Sp56, SOk, w0, w1, w2, w3, D1, D2, D3, D4, O1, O2, O3, O4, hH2, hp, w0k, w1k, w2k, w3k, D1k, D2k, D3k, D4k, O1k, O2k, O3k, O4k, e1]))
      have z0 : tkM r l ms ts bs t = ms := by simp [tkM, tkB, e1]
      have z1 : tkT r l ms ts bs t = ts := by simp [tkT, tkB, e1]
      rw [z0, z1] at hK
      repeat' (first | with_reducible refine iteI (fun _ => ?_) (fun _ => ?_) | ((first | unfold AOpsC | unfold AOpsD | skip); simp (maxSteps := 1000000) (disch := (first | omega | assumption | (simp only [List.length_append, List.length_cons, List.length_nil, List.length_set]; omega))) only [go_sem, ↓skipC, ↓exitC, ↓retC, ↓seqC, ↓blockC, ↓condC, ↓regC, ↓drawC, ↓drawStep, ↓AOpC, ↓AOpF, ↓AOpE, ↓AEff, ↓contE_at, ↓contC_at, ↓keepC_at, ↓keepW_at, ↓keepO_at, ↓map_parts, ↓reduceIte, reduceCtorEq, Nat.reduceLT, Nat.reduceEqDiff, Nat.reduceAdd, Nat.reduceMul, Nat.reduceLeDiff, Nat.reduceSub, Nat.reduceBEq, Nat.reduceBNe, Nat.reduceBneDiff, Nat.reduceBeqDiff, ag_26, ag_39, by_26, by_39, fi_39_0, nf_26, nf_39, pl_26, pl_39, ps_26, ps_39, sz_26, sz_39, ze_26, ze_39, Sp56, SOk]))
      exact hK _ _ _ _ _ _ _ _ _ hP.n4 xx
    by_cases h0 : 0 ≤ t
    case neg =>
      repeat' (first | with_reducible refine iteI (fun _ => ?_) (fun _ => ?_) | ((first | unfold AOpsC | unfold AOpsD | skip); simp (maxSteps := 1000000) (disch := (first | omega | assumption | (simp only [List.length_append, List.length_cons, List.length_nil, List.length_set]; omega))) only [go_sem, ↓skipC, ↓exitC, ↓retC, ↓seqC, ↓blockC, ↓condC, ↓regC, ↓drawC, ↓drawStep, ↓AOpC, ↓AOpF, ↓AOpE, ↓AEff, ↓contE_at, ↓contC_at, ↓keepC_at, ↓keepW_at, ↓keepO_at, ↓map_parts, ↓reduceIte, reduceCtorEq, Nat.reduceLT, Nat.reduceEqDiff, Nat.reduceAdd, Nat.reduceMul, Nat.reduceLeDiff, Nat.reduceSub, Nat.reduceBEq, Nat.reduceBNe, Nat.reduceBneDiff, Nat.reduceBeqDiff, ag_26, ag_39, by_26, by_39, fi_39_0, nf_26, nf_39, pl_26, pl_39, ps_26, ps_39, sz_26, sz_39, ze_26, ze_39, Sp56, SOk, w0, w1, w2, w3, D1, D2, D3, D4, O1, O2, O3, O4, hH2, hp, w0k, w1k, w2k, w3k, D1k, D2k, D3k, D4k, O1k, O2k, O3k, O4k, e1, h0]))
      have z0 : tkM r l ms ts bs t = ms := by simp [tkM, tkB, e1, h0]
      have z1 : tkT r l ms ts bs t = ts := by simp [tkT, tkB, e1, h0]
      rw [z0, z1] at hK
      repeat' (first | with_reducible refine iteI (fun _ => ?_) (fun _ => ?_) | ((first | unfold AOpsC | unfold AOpsD | skip); simp (maxSteps := 1000000) (disch := (first | omega | assumption | (simp only [List.length_append, List.length_cons, List.length_nil, List.length_set]; omega))) only [go_sem, ↓skipC, ↓exitC, ↓retC, ↓seqC, ↓blockC, ↓condC, ↓regC, ↓drawC, ↓drawStep, ↓AOpC, ↓AOpF, ↓AOpE, ↓AEff, ↓contE_at, ↓contC_at, ↓keepC_at, ↓keepW_at, ↓keepO_at, ↓map_parts, ↓reduceIte, reduceCtorEq, Nat.reduceLT, Nat.reduceEqDiff, Nat.reduceAdd, Nat.reduceMul, Nat.reduceLeDiff, Nat.reduceSub, Nat.reduceBEq, Nat.reduceBNe, Nat.reduceBneDiff, Nat.reduceBeqDiff, ag_26, ag_39, by_26, by_39, fi_39_0, nf_26, nf_39, pl_26, pl_39, ps_26, ps_39, sz_26, sz_39, ze_26, ze_39, Sp56, SOk]))
      exact hK _ _ _ _ _ _ _ _ _ hP.n4 xx
    obtain ⟨k1, k2, k3, k4, k5, k6, k7, k8⟩ := okT e1
    have hB : tkB r l ms ts bs t = true := by simp [tkB, e1, h0]
    have z0 : tkM r l ms ts bs t = nM l ms bs (actL l t) := if_pos hB
    have z1 : tkT r l ms ts bs t = nT l ms ts bs (actL l t) := if_pos hB
    have n1 : (nM l ms bs (actL l t)).length = ms.length := mapLn _ _
    have n2 : (nT l ms ts bs (actL l t)).length = ts.length := by rw [nT, mapLn]; omega
    rw [z0, z1, n1, n2] at hK
    have hlv := mesh_levs k1
    repeat' (first | with_reducible refine iteI (fun _ => ?_) (fun _ => ?_) | ((first | unfold AOpsC | unfold AOpsD | skip); simp (maxSteps := 1000000) (disch := (first | omega | assumption | (simp only [List.length_append, List.length_cons, List.length_nil, List.length_set]; omega))) only [go_sem, ↓skipC, ↓exitC, ↓retC, ↓seqC, ↓blockC, ↓condC, ↓regC, ↓drawC, ↓drawStep, ↓AOpC, ↓AOpF, ↓AOpE, ↓AEff, ↓contE_at, ↓contC_at, ↓keepC_at, ↓keepW_at, ↓keepO_at, ↓map_parts, ↓reduceIte, reduceCtorEq, Nat.reduceLT, Nat.reduceEqDiff, Nat.reduceAdd, Nat.reduceMul, Nat.reduceLeDiff, Nat.reduceSub, Nat.reduceBEq, Nat.reduceBNe, Nat.reduceBneDiff, Nat.reduceBeqDiff, ag_26, ag_39, by_26, by_39, fi_39_0, nf_26, nf_39, pl_26, pl_39, ps_26, ps_39, sz_26, sz_39, ze_26, ze_39, Sp56, SOk, w0, w1, w2, w3, D1, D2, D3, D4, O1, O2, O3, O4, hH2, hp, w0k, w1k, w2k, w3k, D1k, D2k, D3k, D4k, O1k, O2k, O3k, O4k, e1, h0]))
    unfold SActS
    simp only [w0k, w1k, w2k, w3k, D1k, D2k, D3k, D4k, O1k, O2k, O3k, O4k]
    refine ⟨⟨trivial, hlv⟩, fun H3 bl wer hbl hnb x3 => ?_⟩
    have hP3 : PtrS η.length H.length H3 r q0 q1 q2 q3 0 0 0 0 l ms ts bs := ⟨x3.blk hp, hP.n4.ext x3, hP.np, hP.p0, hP.p1, hP.p2, hP.p3⟩
    repeat' (first | with_reducible refine iteI (fun _ => ?_) (fun _ => ?_) | ((first | unfold AOpsC | unfold AOpsD | skip); simp (maxSteps := 1000000) (disch := (first | omega | assumption | (simp only [List.length_append, List.length_cons, List.length_nil, List.length_set]; omega))) only [go_sem, ↓skipC, ↓exitC, ↓retC, ↓seqC, ↓blockC, ↓condC, ↓regC, ↓drawC, ↓drawStep, ↓AOpC, ↓AOpF, ↓AOpE, ↓AEff, ↓contE_at, ↓contC_at, ↓keepC_at, ↓keepW_at, ↓keepO_at, ↓map_parts, ↓reduceIte, reduceCtorEq, Nat.reduceLT, Nat.reduceEqDiff, Nat.reduceAdd, Nat.reduceMul, Nat.reduceLeDiff, Nat.reduceSub, Nat.reduceBEq, Nat.reduceBNe, Nat.reduceBneDiff, Nat.reduceBeqDiff, ag_26, ag_39, by_26, by_39, fi_39_0, nf_26, nf_39, pl_26, pl_39, ps_26, ps_39, sz_26, sz_39, ze_26, ze_39, Sp56, SOk]))
    unfold SMov
    have hal := act_len l t (l.length - 1)
    refine ⟨η.length, r, q0, q1, q2, q3, 0, 0, 0, 0, l, ms, ts, bs, actL l t, hlo, hP3, e1, ⟨rfl, hbl, by unfold actL; omega⟩, act_faces k3, fun H4 hP4 t4 => ?_⟩
    have hp4 := hP4.pb
    rw [n1, n2] at hp4
    have x4 := (xx.trans x3).after t4 (fun c hc => hP3.low hc)
    repeat' (first | with_reducible refine iteI (fun _ => ?_) (fun _ => ?_) | ((first | unfold AOpsC | unfold AOpsD | skip); simp (maxSteps := 1000000) (disch := (first | omega | assumption | (simp only [List.length_append, List.length_cons, List.length_nil, List.length_set]; omega))) only [go_sem, ↓skipC, ↓exitC, ↓retC, ↓seqC, ↓blockC, ↓condC, ↓regC, ↓drawC, ↓drawStep, ↓AOpC, ↓AOpF, ↓AOpE, ↓AEff, ↓contE_at, ↓contC_at, ↓keepC_at, ↓keepW_at, ↓keepO_at, ↓map_parts, ↓reduceIte, reduceCtorEq, Nat.reduceLT, Nat.reduceEqDiff, Nat.reduceAdd, Nat.reduceMul, Nat.reduceLeDiff, Nat.reduceSub, Nat.reduceBEq, Nat.reduceBNe, Nat.reduceBneDiff, Nat.reduceBeqDiff, ag_26, ag_39, by_26, by_39, fi_39_0, nf_26, nf_39, pl_26, pl_39, ps_26, ps_39, sz_26, sz_39, ze_26, ze_39, Sp56, SOk, hp4]))
    exact hK _ _ _ _ _ _ _ _ _ hP4.n4 x4
  · exact h.elim

end Go.Proofs.Ytffefndnnbcplaa
