/- What functions of the program compute, said in the abstract logic; no conditions. -/
import Derived.Test.YtffefndnnbcplaaGNb

namespace Go.Proofs.Ytffefndnnbcplaa
open Go
set_option linter.unusedSimpArgs false
set_option linter.unusedVariables false
set_option maxRecDepth 100000
set_option maxHeartbeats 8000000
attribute [local go_sem] st0 AC thenA andC locLoadB KsSW_same KsSW_grow oldLoadB KsOS_same KsOS_grow pv ev put upd dstOk cv cvc binI setB Value.oneCell' EndA resA resA1 List.mapM_cons List.mapM_nil Option.pure_def Option.bind_eq_bind noLocV noLoc1 noLoc noLocs plainV cellsA newVarA putCells condA lam0 inBlockA cur lenA rowA avoidsB avoidB clearB Array.toList_append Op.operands Call.operands newSlot Nat.zero_add Nat.add_zero Nat.succ_ne_self Nat.lt_add_one Nat.zero_lt_succ true_and and_true true_or or_true false_or or_false and_self true_implies forall_const Bool.false_eq_true Bool.true_eq_false false_implies implies_true imp_self ne_eq not_false_eq_true not_true_eq_false false_and and_false List.getElem?_toArray List.getElem?_cons_succ List.getElem?_cons_zero Option.bind_some Option.map_some Bool.not_true Bool.not_false List.getD_cons_zero List.getD_cons_succ Option.some.injEq exists_eq_left' AV.bool.injEq List.map_cons List.map_nil List.all_cons List.all_nil Bool.and_self Bool.and_true Bool.true_and List.append_nil List.cons_append List.nil_append List.length_cons List.length_nil List.drop_zero List.take_zero List.drop_succ_cons List.take_succ_cons List.take_nil List.drop_nil List.not_mem_nil List.mem_cons List.contains_nil List.contains_cons Bool.or_self Bool.or_true Bool.true_or Bool.false_or Bool.or_false Bool.and_false Bool.false_and KsS_same KsS_grow skipV KsS_ext KsSW_ext KsOS_ext rep1 rep2 rep3 rep4 rep5 List.flatten_cons List.flatten_nil partsA isPtr fillA List.size_toArray ltT ltF leT leF ltTn ltFn leTn leFn eqTi eqFi wrapId toNat1 intGet boolGet memD app_get app_last app_lst app_set app_setL app_setF set_ne set_eq gt_iff_lt ge_iff_le decide_eq_true_eq len2 len3 get20 get21 drop2 put2 get30 get31 get32 drop3 put3 putI pairEta bneTi bneFi beqTi beqFi bne_eq_false_iff_eq beq_eq_false_iff_ne beq_iff_eq bne_iff_ne Int.toNat_natCast Nat.mul_one List.length_map Bool.not_eq_true Bool.not_eq_false Bool.decide_eq_true decide_true decide_false Bool.not_eq_true' Bool.not_eq_false' decide_eq_false_iff_not eq_self Decidable.not_not

def lvOK (l : List Id3) (ms bs : List Int) (w : Int) (i k : Nat) : Bool := !(decide (4 ≤ ms.getD i 0) && decide (w < surfI l ms bs i - surfI l ms bs k))
def lwS (l : List Id3) (ms bs : List Int) (w : Int) (i : Nat) : Bool := lvOK l ms bs w i (i + 1) && lvOK l ms bs w (i + 1) i
def lwI (l : List Id3) (ms bs : List Int) (w : Int) (i : Nat) : Bool := (nbI l.length i).all fun k => lvOK l ms bs w i k.toNat
def lwR (r : Int) (l : List Id3) (ms ts bs : List Int) (w : Int) : Bool := okB r l ms ts bs && (List.range (l.length - 1)).all (lwS l ms bs w)
theorem lw_eq (l : List Id3) (ms bs : List Int) (w : Int) : (List.range l.length).all (lwI l ms bs w) = (List.range (l.length - 1)).all (lwS l ms bs w) := by
  rw [Bool.eq_iff_iff, List.all_eq_true, List.all_eq_true]
  constructor
  · intro h i hi
    rw [List.mem_range] at hi
    have h1 := List.all_eq_true.1 (h i (List.mem_range.2 (by omega))) ((i : Int) + 1) (by
      simp only [nbI, nbK, List.mem_filter, List.take_succ_cons, List.take_zero, List.mem_cons, List.not_mem_nil, or_false]
      exact ⟨by simp, by simp [hasB, inB]; omega⟩)
    have h2 := List.all_eq_true.1 (h (i + 1) (List.mem_range.2 (by omega))) (i : Int) (by
      simp only [nbI, nbK, List.mem_filter, List.take_succ_cons, List.take_zero, List.mem_cons, List.not_mem_nil, or_false]
      exact ⟨by omega, by simp [hasB, inB]; omega⟩)
    simp only [lwS, Bool.and_eq_true]
    rw [Int.toNat_natCast] at h2
    rw [show ((i : Int) + 1).toNat = i + 1 by omega] at h1
    exact ⟨h1, h2⟩
  · intro h i hi
    rw [List.mem_range] at hi
    refine List.all_eq_true.2 fun k hk => ?_
    obtain ⟨k0, k1, k2⟩ := nb_mem hk
    rcases k2 with rfl | rfl
    · have := h (i - 1) (List.mem_range.2 (by omega))
      simp only [lwS, Bool.and_eq_true] at this
      rw [show ((i : Int) - 1).toNat = i - 1 by omega]
      have e : i - 1 + 1 = i := by omega
      rw [e] at this
      exact this.2
    · have := h i (List.mem_range.2 (by omega))
      simp only [lwS, Bool.and_eq_true] at this
      rw [show ((i : Int) + 1).toNat = i + 1 by omega]
      exact this.1

def SLw : List AV → List Blk → (AV → List Blk → Prop) → Prop
  | [.agg [.int .i64 r, v, a, b, c], .int .i64 y0], η, K => (ok3 45 η v ∧ okI η a ∧ okI η b ∧ okI η c) ∧ ∀ H, Ext η H → K (.bool (lwR r (dec3 45 η v) (decI η a) (decI η b) (decI η c) y0)) H
  | _, _, _ => False

def invLwI (η : List Blk) (r : Int) (l : List Id3) (v a b c : AV) (ms ts bs : List Int) (w : Int) (st : St) : Prop := ∃ i : Nat, ∃ H : List Blk, (i ≤ ms.length) ∧ ((List.range i).all (lwI l ms bs w) = true) ∧ (Ext η H) ∧ st.n = 44 ∧ st.τ 1 = .int .i64 w ∧ st.τ 2 = .loc 2 1 0 ∧ st.τ 13 = a ∧ st.τ 14 = .int .i64 ms.length ∧ st.τ 15 = .int .i64 i ∧ st.lam 2 = ⟨1, [.int .i64 r, v, a, b, c]⟩ ∧ st.η = H

def invLwJ (H : List Blk) (r : Int) (l : List Id3) (v a b c : AV) (ms ts bs : List Int) (w : Int) (j : Nat) (L : List Int) (u : AV) (st : St) : Prop := ∃ i : Nat, (i ≤ L.length) ∧ ((L.take i).all (fun k => lvOK l ms bs w j k.toNat) = true) ∧ st.n = 44 ∧ st.τ 1 = .int .i64 w ∧ st.τ 2 = .loc 2 1 0 ∧ st.τ 5 = .int .i64 j ∧ st.τ 6 = .int .i64 (ms.getD j 0) ∧ st.τ 13 = a ∧ st.τ 14 = .int .i64 ms.length ∧ st.τ 15 = .int .i64 j ∧ st.τ 23 = u ∧ st.τ 24 = .int .i64 L.length ∧ st.τ 25 = .int .i64 i ∧ st.lam 2 = ⟨1, [.int .i64 r, v, a, b, c]⟩ ∧ st.η = H

/- impl.IsLevelWithin -/
def Sp63 (lo : Nat) : Spec := fun g args η K => match g with | 103 => SOk args η K | 106 => SSurf args η K | 128 => SNb args η K | _ => False
theorem Sp63_ok {lo : Nat} : Sound Try.prog lo (Sp63 lo) := by
  intro g args η K h
  unfold Sp63 at h
  split at h
  · exact f103_ok h
  · exact f106_ok h
  · exact f128_ok h
  · exact h.elim
def D63 : Draws := fun id => match id with | 9 => ([0, 1, 3, 7, 7, 31, 7, 7, 255, 511, 7, 2047, 4095], [5, 8], [], (.one 0 (.one 1 (.one 2 (.one 3 (.one 4 (.one 6 (.one 7 (.one 10 (.one 5 (.one 8 (.one 9 (.one 11 (.one 12 .nil)))))))))))))) | _ => ([], [], [], .nil)
theorem f63_ok {lo : Nat} {args : List AV} {η : List Blk} {K : AV → List Blk → Prop} (h : SLw args η K) : AF Try.prog lo 63 args η K := by
  unfold SLw at h
  split at h
  · obtain ⟨⟨⟨l, hr, hl⟩, ⟨ms, ha, hla⟩, ⟨ts, hb, hlb⟩, ⟨bs, hc, hlc⟩⟩, hK⟩ := h
    rename_i r _ _ _ _ w
    have d1 := hr.dec3
    have d2 := ha.dec
    have d3 := hb.dec
    have d4 := hc.dec
    have o1 : ok3 45 _ _ := ⟨l, hr, hl⟩
    have o2 : okI _ _ := ⟨ms, ha, hla⟩
    have o3 : okI _ _ := ⟨ts, hb, hlb⟩
    have o4 : okI _ _ := ⟨bs, hc, hlc⟩
    simp only [d1, d2, d3, d4] at hK
    have hr' := hr
    have ha' := ha
    have hb' := hb
    have hc' := hc
    obtain ⟨b0, v0, rfl, hb0⟩ := hr'
    obtain ⟨b1, v1, rfl, hb1⟩ := ha'
    obtain ⟨b2, v2, rfl, hb2⟩ := hb'
    obtain ⟨b3, v3, rfl, hb3⟩ := hc'
    refine AF_run Sp63_ok D63 [] [.tmp 4] hm Try.func63 rfl (by decide) Try.ntmps63 rfl (by kernel_rfl) (Nat.le_of_ble_eq_true rfl) ?_; intro hlo
    cases e1 : okB r l ms ts bs
    · repeat' (first | with_reducible refine iteI (fun _ => ?_) (fun _ => ?_) | ((first | unfold AOpsC | unfold AOpsD | skip); simp (maxSteps := 1000000) (disch := (first | omega | assumption | (simp only [List.length_append, List.length_cons, List.length_nil, List.length_set]; omega))) only [go_sem, ↓skipC, ↓exitC, ↓retC, ↓seqC, ↓blockC, ↓condC, ↓regC, ↓drawC, ↓drawStep, ↓AOpC, ↓AOpF, ↓AOpE, ↓AEff, ↓contE_at, ↓contC_at, ↓keepC_at, ↓keepW_at, ↓keepO_at, ↓map_parts, ↓reduceIte, reduceCtorEq, Nat.reduceLT, Nat.reduceEqDiff, Nat.reduceAdd, Nat.reduceMul, Nat.reduceLeDiff, Nat.reduceSub, Nat.reduceBEq, Nat.reduceBNe, Nat.reduceBneDiff, Nat.reduceBeqDiff, ag_26, ag_28, ag_3, ag_39, by_26, by_28, by_3, by_39, el_28, fi_39_0, fi_39_1, in_3, nf_26, nf_39, pl_26, pl_39, ps_26, ps_39, sz_26, sz_28, sz_3, sz_39, ze_26, ze_28, ze_3, ze_39, Sp63, SOk, SSurf, D63, hb0, hb1, hb2, hb3, d1, d2, d3, d4, o1, o2, o3, o4, e1]))
      exact KB (hK _ (Ext.refl _)) (by simp [lwR, e1])
    obtain ⟨k1, k2, k3, k4, k5, k6, k7, k8⟩ := okT e1
    repeat' (first | with_reducible refine iteI (fun _ => ?_) (fun _ => ?_) | ((first | unfold AOpsC | unfold AOpsD | skip); simp (maxSteps := 1000000) (disch := (first | omega | assumption | (simp only [List.length_append, List.length_cons, List.length_nil, List.length_set]; omega))) only [go_sem, ↓skipC, ↓exitC, ↓retC, ↓seqC, ↓blockC, ↓condC, ↓regC, ↓drawC, ↓drawStep, ↓AOpC, ↓AOpF, ↓AOpE, ↓AEff, ↓contE_at, ↓contC_at, ↓keepC_at, ↓keepW_at, ↓keepO_at, ↓map_parts, ↓reduceIte, reduceCtorEq, Nat.reduceLT, Nat.reduceEqDiff, Nat.reduceAdd, Nat.reduceMul, Nat.reduceLeDiff, Nat.reduceSub, Nat.reduceBEq, Nat.reduceBNe, Nat.reduceBneDiff, Nat.reduceBeqDiff, ag_26, ag_28, ag_3, ag_39, by_26, by_28, by_3, by_39, el_28, fi_39_0, fi_39_1, in_3, nf_26, nf_39, pl_26, pl_39, ps_26, ps_39, sz_26, sz_28, sz_3, sz_39, ze_26, ze_28, ze_3, ze_39, Sp63, SOk, SSurf, D63, hb0, hb1, hb2, hb3, d1, d2, d3, d4, o1, o2, o3, o4, e1]))
    refine ⟨invLwI η r l (.sl b0 v0 0 l.length) (.sl b1 v1 0 ms.length) (.sl b2 v2 0 ts.length) (.sl b3 v3 0 bs.length) ms ts bs w, fun st => ctr ms.length st 15, .inl ⟨0, η, Nat.zero_le _, rfl, Ext.refl _, rfl, by simp [upd], by simp [upd], by simp [upd], by simp [upd], by simp [upd], by simp [upd], rfl⟩, ?_⟩
    rintro ⟨n, τ, lam, η'⟩ ⟨i, H, g0, g1, g2, hn, t1, t2, t13, t14, t15, l2, hη⟩; simp only at hn t1 t2 t13 t14 t15 l2 hη; subst hn hη
    have w0e := g2.blk hb0
    have w1e := g2.blk hb1
    have w2e := g2.blk hb2
    have w3e := g2.blk hb3
    have D1e : dec3 45 η' (.sl b0 v0 0 l.length) = l := IsR.dec3 ⟨b0, v0, rfl, w0e⟩
    have D2e : decI η' (.sl b1 v1 0 ms.length) = ms := IsI.dec ⟨b1, v1, rfl, w1e⟩
    have D3e : decI η' (.sl b2 v2 0 ts.length) = ts := IsI.dec ⟨b2, v2, rfl, w2e⟩
    have D4e : decI η' (.sl b3 v3 0 bs.length) = bs := IsI.dec ⟨b3, v3, rfl, w3e⟩
    have O1e : ok3 45 η' (.sl b0 v0 0 l.length) := ⟨l, ⟨b0, v0, rfl, w0e⟩, hl⟩
    have O2e : okI η' (.sl b1 v1 0 ms.length) := ⟨ms, ⟨b1, v1, rfl, w1e⟩, hla⟩
    have O3e : okI η' (.sl b2 v2 0 ts.length) := ⟨ts, ⟨b2, v2, rfl, w2e⟩, hlb⟩
    have O4e : okI η' (.sl b3 v3 0 bs.length) := ⟨bs, ⟨b3, v3, rfl, w3e⟩, hlc⟩
    by_cases hlt : i < ms.length
    · have o15 := t15
      repeat' (first | with_reducible refine iteI (fun _ => ?_) (fun _ => ?_) | ((first | unfold AOpsC | unfold AOpsD | skip); simp (maxSteps := 1000000) (disch := (first | omega | assumption | (simp only [List.length_append, List.length_cons, List.length_nil, List.length_set]; omega))) only [go_sem, ↓skipC, ↓exitC, ↓retC, ↓seqC, ↓blockC, ↓condC, ↓regC, ↓drawC, ↓drawStep, ↓AOpC, ↓AOpF, ↓AOpE, ↓AEff, ↓contE_at, ↓contC_at, ↓keepC_at, ↓keepW_at, ↓keepO_at, ↓map_parts, ↓reduceIte, reduceCtorEq, Nat.reduceLT, Nat.reduceEqDiff, Nat.reduceAdd, Nat.reduceMul, Nat.reduceLeDiff, Nat.reduceSub, Nat.reduceBEq, Nat.reduceBNe, Nat.reduceBneDiff, Nat.reduceBeqDiff, ag_26, ag_28, ag_3, ag_39, by_26, by_28, by_3, by_39, el_28, fi_39_0, fi_39_1, in_3, nf_26, nf_39, pl_26, pl_39, ps_26, ps_39, sz_26, sz_28, sz_3, sz_39, ze_26, ze_28, ze_3, ze_39, Sp63, SOk, SSurf, D63, w0e, w1e, w2e, w3e, D1e, D2e, D3e, D4e, O1e, O2e, O3e, O4e, t1, t2, t13, t14, t15, l2]))
      unfold SNb
      simp only [w0e, w1e, w2e, w3e, D1e, D2e, D3e, D4e, O1e, O2e, O3e, O4e]
      refine ⟨⟨trivial, by omega, by omega⟩, fun H u hu x => ?_⟩
      have x2 := g2.trans x
      have w0f := x2.blk hb0
      have w1f := x2.blk hb1
      have w2f := x2.blk hb2
      have w3f := x2.blk hb3
      have D1f : dec3 45 H (.sl b0 v0 0 l.length) = l := IsR.dec3 ⟨b0, v0, rfl, w0f⟩
      have D2f : decI H (.sl b1 v1 0 ms.length) = ms := IsI.dec ⟨b1, v1, rfl, w1f⟩
      have D3f : decI H (.sl b2 v2 0 ts.length) = ts := IsI.dec ⟨b2, v2, rfl, w2f⟩
      have D4f : decI H (.sl b3 v3 0 bs.length) = bs := IsI.dec ⟨b3, v3, rfl, w3f⟩
      have O1f : ok3 45 H (.sl b0 v0 0 l.length) := ⟨l, ⟨b0, v0, rfl, w0f⟩, hl⟩
      have O2f : okI H (.sl b1 v1 0 ms.length) := ⟨ms, ⟨b1, v1, rfl, w1f⟩, hla⟩
      have O3f : okI H (.sl b2 v2 0 ts.length) := ⟨ts, ⟨b2, v2, rfl, w2f⟩, hlb⟩
      have O4f : okI H (.sl b3 v3 0 bs.length) := ⟨bs, ⟨b3, v3, rfl, w3f⟩, hlc⟩
      have hnl : (nbI l.length i).length ≤ 2 := nb_len _ _ _
      have bad : lwI l ms bs w i = false → K (.bool false) H := fun hb => KB (hK _ x2) (by rw [lwR, ← lw_eq, rall_bad (show i < l.length by omega) hb, Bool.and_false])
      have good : lwI l ms bs w i = true → (List.range (i + 1)).all (lwI l ms bs w) = true := fun hg => rall_succ g1 hg
      obtain ⟨hu, _⟩ := hu
      rcases hu with ⟨hu, hL⟩ | ⟨bf, wf, rfl, hbf⟩
      · have hnx := good (by rw [lwI, hL]; rfl)
        rcases hu with rfl | rfl
        all_goals
          repeat' (first | with_reducible refine iteI (fun _ => ?_) (fun _ => ?_) | ((first | unfold AOpsC | unfold AOpsD | skip); simp (maxSteps := 1000000) (disch := (first | omega | assumption | (simp only [List.length_append, List.length_cons, List.length_nil, List.length_set]; omega))) only [go_sem, ↓skipC, ↓exitC, ↓retC, ↓seqC, ↓blockC, ↓condC, ↓regC, ↓drawC, ↓drawStep, ↓AOpC, ↓AOpF, ↓AOpE, ↓AEff, ↓contE_at, ↓contC_at, ↓keepC_at, ↓keepW_at, ↓keepO_at, ↓map_parts, ↓reduceIte, reduceCtorEq, Nat.reduceLT, Nat.reduceEqDiff, Nat.reduceAdd, Nat.reduceMul, Nat.reduceLeDiff, Nat.reduceSub, Nat.reduceBEq, Nat.reduceBNe, Nat.reduceBneDiff, Nat.reduceBeqDiff, ag_26, ag_28, ag_3, ag_39, by_26, by_28, by_3, by_39, el_28, fi_39_0, fi_39_1, in_3, nf_26, nf_39, pl_26, pl_39, ps_26, ps_39, sz_26, sz_28, sz_3, sz_39, ze_26, ze_28, ze_3, ze_39, Sp63, SOk, SSurf, D63, w0f, w1f, w2f, w3f, D1f, D2f, D3f, D4f, O1f, O2f, O3f, O4f, t1, t2, t13, t14, t15, l2]))
          refine ⟨invLwJ H r l (.sl b0 v0 0 l.length) (.sl b1 v1 0 ms.length) (.sl b2 v2 0 ts.length) (.sl b3 v3 0 bs.length) ms ts bs w i [] _, fun st => ctr 0 st 25, .inl ⟨0, Nat.zero_le _, rfl, rfl, by simp [upd, t1], by simp [upd, t2], by simp [upd, t15], by simp [upd], by simp [upd, t13], by simp [upd, t14], by simp [upd, t15], rfl, by simp [upd], by simp [upd], by simp [upd, l2], rfl⟩, ?_⟩
          generalize hii : i = j at *
          rintro ⟨n, τ, lam, η'⟩ ⟨i, g0, g1, hn, t1, t2, t5, t6, t13, t14, t15, t23, t24, t25, l2, hη⟩; simp only at hn t1 t2 t5 t6 t13 t14 t15 t23 t24 t25 l2 hη; subst hn hη
          obtain rfl : i = 0 := by simpa using g0
          repeat' (first | with_reducible refine iteI (fun _ => ?_) (fun _ => ?_) | ((first | unfold AOpsC | unfold AOpsD | skip); simp (maxSteps := 1000000) (disch := (first | omega | assumption | (simp only [List.length_append, List.length_cons, List.length_nil, List.length_set]; omega))) only [go_sem, ↓skipC, ↓exitC, ↓retC, ↓seqC, ↓blockC, ↓condC, ↓regC, ↓drawC, ↓drawStep, ↓AOpC, ↓AOpF, ↓AOpE, ↓AEff, ↓contE_at, ↓contC_at, ↓keepC_at, ↓keepW_at, ↓keepO_at, ↓map_parts, ↓reduceIte, reduceCtorEq, Nat.reduceLT, Nat.reduceEqDiff, Nat.reduceAdd, Nat.reduceMul, Nat.reduceLeDiff, Nat.reduceSub, Nat.reduceBEq, Nat.reduceBNe, Nat.reduceBneDiff, Nat.reduceBeqDiff, ag_26, ag_28, ag_3, ag_39, by_26, by_28, by_3, by_39, el_28, fi_39_0, fi_39_1, in_3, nf_26, nf_39, pl_26, pl_39, ps_26, ps_39, sz_26, sz_28, sz_3, sz_39, ze_26, ze_28, ze_3, ze_39, Sp63, SOk, SSurf, D63, w0f, w1f, w2f, w3f, D1f, D2f, D3f, D4f, O1f, O2f, O3f, O4f, t1, t2, t5, t6, t13, t14, t15, t23, t24, t25, l2]))
          refine ⟨⟨j + 1, _, by omega, hnx, x2, rfl, by simp [upd, t1], by simp [upd, t2], by simp [upd, t13], by simp [upd, t14], by simp [upd, t15], by simp [upd, l2], rfl⟩, by simp [ctr, upd, t15, o15]; omega⟩
      · have hmem : ∀ k, k < (nbI l.length i).length → 0 ≤ (nbI l.length i).getD k 0 ∧ (nbI l.length i).getD k 0 ≤ (l.length : Int) - 1 := fun k hk => by
          have := nb_mem (getD_mem (d := 0) hk)
          omega
        repeat' (first | with_reducible refine iteI (fun _ => ?_) (fun _ => ?_) | ((first | unfold AOpsC | unfold AOpsD | skip); simp (maxSteps := 1000000) (disch := (first | omega | assumption | (simp only [List.length_append, List.length_cons, List.length_nil, List.length_set]; omega))) only [go_sem, ↓skipC, ↓exitC, ↓retC, ↓seqC, ↓blockC, ↓condC, ↓regC, ↓drawC, ↓drawStep, ↓AOpC, ↓AOpF, ↓AOpE, ↓AEff, ↓contE_at, ↓contC_at, ↓keepC_at, ↓keepW_at, ↓keepO_at, ↓map_parts, ↓reduceIte, reduceCtorEq, Nat.reduceLT, Nat.reduceEqDiff, Nat.reduceAdd, Nat.reduceMul, Nat.reduceLeDiff, Nat.reduceSub, Nat.reduceBEq, Nat.reduceBNe, Nat.reduceBneDiff, Nat.reduceBeqDiff, ag_26, ag_28, ag_3, ag_39, by_26, by_28, by_3, by_39, el_28, fi_39_0, fi_39_1, in_3, nf_26, nf_39, pl_26, pl_39, ps_26, ps_39, sz_26, sz_28, sz_3, sz_39, ze_26, ze_28, ze_3, ze_39, Sp63, SOk, SSurf, D63, w0f, w1f, w2f, w3f, D1f, D2f, D3f, D4f, O1f, O2f, O3f, O4f, hbf, t1, t2, t13, t14, t15, l2]))
        refine ⟨invLwJ H r l (.sl b0 v0 0 l.length) (.sl b1 v1 0 ms.length) (.sl b2 v2 0 ts.length) (.sl b3 v3 0 bs.length) ms ts bs w i (nbI l.length i) (.sl bf wf 0 (nbI l.length i).length), fun st => ctr (nbI l.length i).length st 25, .inl ⟨0, Nat.zero_le _, rfl, rfl, by simp [upd, t1], by simp [upd, t2], by simp [upd, t15], by simp [upd], by simp [upd, t13], by simp [upd, t14], by simp [upd, t15], by simp [upd], by simp [upd], by simp [upd], by simp [upd, l2], rfl⟩, ?_⟩
        generalize hii : i = j at *
        rintro ⟨n, τ, lam, η'⟩ ⟨i, g0, g1, hn, t1, t2, t5, t6, t13, t14, t15, t23, t24, t25, l2, hη⟩; simp only at hn t1 t2 t5 t6 t13 t14 t15 t23 t24 t25 l2 hη; subst hn hη
        by_cases hlt2 : i < (nbI l.length j).length
        · have hx := hmem i hlt2
          have hxn : ((nbI l.length j).getD i 0).toNat < l.length := by omega
          have s0 := surf_bd e1 (i := j) (by omega)
          have s1 := surf_bd e1 hxn
          by_cases c1 : 4 ≤ ms.getD j 0
          · by_cases c2 : w < surfI l ms bs j - surfI l ms bs ((nbI l.length j).getD i 0).toNat
            · repeat' (first | with_reducible refine iteI (fun _ => ?_) (fun _ => ?_) | ((first | unfold AOpsC | unfold AOpsD | skip); simp (maxSteps := 1000000) (disch := (first | omega | assumption | (simp only [List.length_append, List.length_cons, List.length_nil, List.length_set]; omega))) only [go_sem, ↓skipC, ↓exitC, ↓retC, ↓seqC, ↓blockC, ↓condC, ↓regC, ↓drawC, ↓drawStep, ↓AOpC, ↓AOpF, ↓AOpE, ↓AEff, ↓contE_at, ↓contC_at, ↓keepC_at, ↓keepW_at, ↓keepO_at, ↓map_parts, ↓reduceIte, reduceCtorEq, Nat.reduceLT, Nat.reduceEqDiff, Nat.reduceAdd, Nat.reduceMul, Nat.reduceLeDiff, Nat.reduceSub, Nat.reduceBEq, Nat.reduceBNe, Nat.reduceBneDiff, Nat.reduceBeqDiff, ag_26, ag_28, ag_3, ag_39, by_26, by_28, by_3, by_39, el_28, fi_39_0, fi_39_1, in_3, nf_26, nf_39, pl_26, pl_39, ps_26, ps_39, sz_26, sz_28, sz_3, sz_39, ze_26, ze_28, ze_3, ze_39, Sp63, SOk, SSurf, D63, w0f, w1f, w2f, w3f, D1f, D2f, D3f, D4f, O1f, O2f, O3f, O4f, t1, t2, t5, t6, t13, t14, t15, t23, t24, t25, l2, hbf, e1, c1, c2]))
              refine bad ?_
              refine all_bad (d := 0) hlt2 ?_
              simp only [lvOK, c1, c2, decide_true, Bool.and_self, Bool.not_true]
            · have hnx := all1I hlt2 g1 (show lvOK l ms bs w j ((nbI l.length j).getD i 0).toNat = true by simp only [lvOK, c2, decide_false, Bool.and_false, Bool.not_false])
              repeat' (first | with_reducible refine iteI (fun _ => ?_) (fun _ => ?_) | ((first | unfold AOpsC | unfold AOpsD | skip); simp (maxSteps := 1000000) (disch := (first | omega | assumption | (simp only [List.length_append, List.length_cons, List.length_nil, List.length_set]; omega))) only [go_sem, ↓skipC, ↓exitC, ↓retC, ↓seqC, ↓blockC, ↓condC, ↓regC, ↓drawC, ↓drawStep, ↓AOpC, ↓AOpF, ↓AOpE, ↓AEff, ↓contE_at, ↓contC_at, ↓keepC_at, ↓keepW_at, ↓keepO_at, ↓map_parts, ↓reduceIte, reduceCtorEq, Nat.reduceLT, Nat.reduceEqDiff, Nat.reduceAdd, Nat.reduceMul, Nat.reduceLeDiff, Nat.reduceSub, Nat.reduceBEq, Nat.reduceBNe, Nat.reduceBneDiff, Nat.reduceBeqDiff, ag_26, ag_28, ag_3, ag_39, by_26, by_28, by_3, by_39, el_28, fi_39_0, fi_39_1, in_3, nf_26, nf_39, pl_26, pl_39, ps_26, ps_39, sz_26, sz_28, sz_3, sz_39, ze_26, ze_28, ze_3, ze_39, Sp63, SOk, SSurf, D63, w0f, w1f, w2f, w3f, D1f, D2f, D3f, D4f, O1f, O2f, O3f, O4f, t1, t2, t5, t6, t13, t14, t15, t23, t24, t25, l2, hbf, e1, c1, c2]))
              refine ⟨⟨i + 1, by omega, hnx, rfl, (by simp [upd, t1, t2, t5, t6, t13, t14, t15, t23, t24, t25]), (by simp [upd, t1, t2, t5, t6, t13, t14, t15, t23, t24, t25]), (by simp [upd, t1, t2, t5, t6, t13, t14, t15, t23, t24, t25]), (by simp [upd, t1, t2, t5, t6, t13, t14, t15, t23, t24, t25]), (by simp [upd, t1, t2, t5, t6, t13, t14, t15, t23, t24, t25]), (by simp [upd, t1, t2, t5, t6, t13, t14, t15, t23, t24, t25]), (by simp [upd, t1, t2, t5, t6, t13, t14, t15, t23, t24, t25]), (by simp [upd, t1, t2, t5, t6, t13, t14, t15, t23, t24, t25]), (by simp [upd, t1, t2, t5, t6, t13, t14, t15, t23, t24, t25]), (by simp [upd, t1, t2, t5, t6, t13, t14, t15, t23, t24, t25]), (by simp [upd, l2]), rfl⟩, (by simp [ctr, upd, t1, t2, t5, t6, t13, t14, t15, t23, t24, t25]; omega)⟩
          · have hnx := all1I hlt2 g1 (show lvOK l ms bs w j ((nbI l.length j).getD i 0).toNat = true by simp only [lvOK, c1, decide_false, Bool.false_and, Bool.not_false])
            repeat' (first | with_reducible refine iteI (fun _ => ?_) (fun _ => ?_) | ((first | unfold AOpsC | unfold AOpsD | skip); simp (maxSteps := 1000000) (disch := (first | omega | assumption | (simp only [List.length_append, List.length_cons, List.length_nil, List.length_set]; omega))) only [go_sem, ↓skipC, ↓exitC, ↓retC, ↓seqC, ↓blockC, ↓condC, ↓regC, ↓drawC, ↓drawStep, ↓AOpC, ↓AOpF, ↓AOpE, ↓AEff, ↓contE_at, ↓contC_at, ↓keepC_at, ↓keepW_at, ↓keepO_at, ↓map_parts, ↓reduceIte, reduceCtorEq, Nat.reduceLT, Nat.reduceEqDiff, Nat.reduceAdd, Nat.reduceMul, Nat.reduceLeDiff, Nat.reduceSub, Nat.reduceBEq, Nat.reduceBNe, Nat.reduceBneDiff, Nat.reduceBeqDiff, ag_26, ag_28, ag_3, ag_39, by_26, by_28, by_3, by_39, el_28, fi_39_0, fi_39_1, in_3, nf_26, nf_39, pl_26, pl_39, ps_26, ps_39, sz_26, sz_28, sz_3, sz_39, ze_26, ze_28, ze_3, ze_39, Sp63, SOk, SSurf, D63, w0f, w1f, w2f, w3f, D1f, D2f, D3f, D4f, O1f, O2f, O3f, O4f, t1, t2, t5, t6, t13, t14, t15, t23, t24, t25, l2, hbf, e1, c1]))
            refine ⟨⟨i + 1, by omega, hnx, rfl, (by simp [upd, t1, t2, t5, t6, t13, t14, t15, t23, t24, t25]), (by simp [upd, t1, t2, t5, t6, t13, t14, t15, t23, t24, t25]), (by simp [upd, t1, t2, t5, t6, t13, t14, t15, t23, t24, t25]), (by simp [upd, t1, t2, t5, t6, t13, t14, t15, t23, t24, t25]), (by simp [upd, t1, t2, t5, t6, t13, t14, t15, t23, t24, t25]), (by simp [upd, t1, t2, t5, t6, t13, t14, t15, t23, t24, t25]), (by simp [upd, t1, t2, t5, t6, t13, t14, t15, t23, t24, t25]), (by simp [upd, t1, t2, t5, t6, t13, t14, t15, t23, t24, t25]), (by simp [upd, t1, t2, t5, t6, t13, t14, t15, t23, t24, t25]), (by simp [upd, t1, t2, t5, t6, t13, t14, t15, t23, t24, t25]), (by simp [upd, l2]), rfl⟩, (by simp [ctr, upd, t1, t2, t5, t6, t13, t14, t15, t23, t24, t25]; omega)⟩
        · obtain rfl : i = (nbI l.length j).length := by omega
          rw [List.take_length] at g1
          have hnx := good g1
          repeat' (first | with_reducible refine iteI (fun _ => ?_) (fun _ => ?_) | ((first | unfold AOpsC | unfold AOpsD | skip); simp (maxSteps := 1000000) (disch := (first | omega | assumption | (simp only [List.length_append, List.length_cons, List.length_nil, List.length_set]; omega))) only [go_sem, ↓skipC, ↓exitC, ↓retC, ↓seqC, ↓blockC, ↓condC, ↓regC, ↓drawC, ↓drawStep, ↓AOpC, ↓AOpF, ↓AOpE, ↓AEff, ↓contE_at, ↓contC_at, ↓keepC_at, ↓keepW_at, ↓keepO_at, ↓map_parts, ↓reduceIte, reduceCtorEq, Nat.reduceLT, Nat.reduceEqDiff, Nat.reduceAdd, Nat.reduceMul, Nat.reduceLeDiff, Nat.reduceSub, Nat.reduceBEq, Nat.reduceBNe, Nat.reduceBneDiff, Nat.reduceBeqDiff, ag_26, ag_28, ag_3, ag_39, by_26, by_28, by_3, by_39, el_28, fi_39_0, fi_39_1, in_3, nf_26, nf_39, pl_26, pl_39, ps_26, ps_39, sz_26, sz_28, sz_3, sz_39, ze_26, ze_28, ze_3, ze_39, Sp63, SOk, SSurf, D63, w0f, w1f, w2f, w3f, D1f, D2f, D3f, D4f, O1f, O2f, O3f, O4f, t1, t2, t5, t6, t13, t14, t15, t23, t24, t25, l2]))
          refine ⟨⟨j + 1, _, by omega, hnx, x2, rfl, by simp [upd, t1], by simp [upd, t2], by simp [upd, t13], by simp [upd, t14], by simp [upd, t15], by simp [upd, l2], rfl⟩, by simp [ctr, upd, t15, o15]; omega⟩
    · obtain rfl : i = ms.length := by omega
      rw [k3, lw_eq] at g1
      repeat' (first | with_reducible refine iteI (fun _ => ?_) (fun _ => ?_) | ((first | unfold AOpsC | unfold AOpsD | skip); simp (maxSteps := 1000000) (disch := (first | omega | assumption | (simp only [List.length_append, List.length_cons, List.length_nil, List.length_set]; omega))) only [go_sem, ↓skipC, ↓exitC, ↓retC, ↓seqC, ↓blockC, ↓condC, ↓regC, ↓drawC, ↓drawStep, ↓AOpC, ↓AOpF, ↓AOpE, ↓AEff, ↓contE_at, ↓contC_at, ↓keepC_at, ↓keepW_at, ↓keepO_at, ↓map_parts, ↓reduceIte, reduceCtorEq, Nat.reduceLT, Nat.reduceEqDiff, Nat.reduceAdd, Nat.reduceMul, Nat.reduceLeDiff, Nat.reduceSub, Nat.reduceBEq, Nat.reduceBNe, Nat.reduceBneDiff, Nat.reduceBeqDiff, ag_26, ag_28, ag_3, ag_39, by_26, by_28, by_3, by_39, el_28, fi_39_0, fi_39_1, in_3, nf_26, nf_39, pl_26, pl_39, ps_26, ps_39, sz_26, sz_28, sz_3, sz_39, ze_26, ze_28, ze_3, ze_39, Sp63, SOk, SSurf, D63, w0e, w1e, w2e, w3e, D1e, D2e, D3e, D4e, O1e, O2e, O3e, O4e, t1, t2, t13, t14, t15, l2]))
      exact KB (hK _ g2) (by rw [lwR, e1, g1]; rfl)
  · exact h.elim

end Go.Proofs.Ytffefndnnbcplaa
