/- What functions of the program compute, said in the abstract logic; no conditions. -/
import Derived.Test.YtffefndnnbcplaaGBase
import Derived.Test.YtffefndnnbcplaaGIn
import Derived.Test.YtffefndnnbcplaaGDraw
import Derived.Test.YtffefndnnbcplaaGMesh
import Derived.Test.YtffefndnnbcplaaGIds
import Derived.Test.YtffefndnnbcplaaGEv
import Derived.Test.YtffefndnnbcplaaGRes
import Derived.Test.YtffefndnnbcplaaGBal
import Derived.Test.YtffefndnnbcplaaGCost
import Derived.Test.YtffefndnnbcplaaGMeshN
import Derived.Test.YtffefndnnbcplaaGDrawM
import Derived.Test.YtffefndnnbcplaaGDrawN
import Derived.Test.YtffefndnnbcplaaGIdx
import Derived.Test.YtffefndnnbcplaaGState
import Derived.Test.YtffefndnnbcplaaGCopy
import Derived.Test.YtffefndnnbcplaaGBalc
import Derived.Test.YtffefndnnbcplaaGBalw
import Derived.Test.YtffefndnnbcplaaGInts
import Derived.Test.YtffefndnnbcplaaGStTo
import Derived.Test.YtffefndnnbcplaaGResS
import Derived.Test.YtffefndnnbcplaaGOwn
import Derived.Test.YtffefndnnbcplaaGDrawS
import Derived.Test.YtffefndnnbcplaaGDLaw
import Derived.Test.YtffefndnnbcplaaGDiv
import Derived.Test.YtffefndnnbcplaaGShare
import Derived.Test.YtffefndnnbcplaaGFlux
import Derived.Test.YtffefndnnbcplaaGFlux2
import Derived.Test.YtffefndnnbcplaaGSteep
import Derived.Test.YtffefndnnbcplaaGNb
import Derived.Test.YtffefndnnbcplaaGWish

namespace Go.Proofs.Ytffefndnnbcplaa
open Go
set_option linter.unusedSimpArgs false
set_option linter.unusedVariables false
set_option maxRecDepth 100000
set_option maxHeartbeats 8000000
attribute [local go_sem] st0 AC thenA andC locLoadB KsSW_same KsSW_grow pv ev put upd dstOk cv cvc binI setB Value.oneCell' EndA resA resA1 List.mapM_cons List.mapM_nil Option.pure_def Option.bind_eq_bind noLocV noLoc1 noLoc noLocs plainV cellsA newVarA putCells condA lam0 inBlockA cur lenA rowA avoidsB avoidB clearB Array.toList_append Op.operands Call.operands newSlot Nat.zero_add Nat.add_zero Nat.succ_ne_self Nat.lt_add_one Nat.zero_lt_succ true_and and_true true_or or_true false_or or_false and_self true_implies forall_const Bool.false_eq_true Bool.true_eq_false false_implies implies_true imp_self ne_eq not_false_eq_true not_true_eq_false false_and and_false List.getElem?_toArray List.getElem?_cons_succ List.getElem?_cons_zero Option.bind_some Option.map_some Bool.not_true Bool.not_false List.getD_cons_zero List.getD_cons_succ Option.some.injEq exists_eq_left' AV.bool.injEq List.map_cons List.map_nil List.all_cons List.all_nil Bool.and_self Bool.and_true Bool.true_and List.append_nil List.cons_append List.nil_append List.length_cons List.length_nil List.drop_zero List.take_zero List.drop_succ_cons List.take_succ_cons List.take_nil List.drop_nil List.not_mem_nil List.mem_cons List.contains_nil List.contains_cons Bool.or_self Bool.or_true Bool.true_or Bool.false_or Bool.or_false Bool.and_false Bool.false_and KsS_same KsS_grow skipV KsS_ext KsSW_ext rep1 rep2 rep3 rep4 rep5 List.flatten_cons List.flatten_nil partsA isPtr fillA List.size_toArray ltT ltF leT leF ltTn ltFn leTn leFn eqTi eqFi wrapId toNat1 intGet boolGet memD app_get app_last app_lst app_set app_setL app_setF set_ne set_eq gt_iff_lt ge_iff_le decide_eq_true_eq len2 len3 get20 get21 drop2 put2 get30 get31 get32 drop3 put3 putI pairEta bneTi bneFi beqTi beqFi bne_eq_false_iff_eq beq_eq_false_iff_ne beq_iff_eq bne_iff_ne Int.toNat_natCast Nat.mul_one List.length_map Bool.not_eq_true Bool.not_eq_false Bool.decide_eq_true decide_true decide_false Bool.not_eq_true' Bool.not_eq_false' decide_eq_false_iff_not eq_self Decidable.not_not

def cntW (l : List Int) (w : Int) : Nat → Int
  | 0 => 0
  | i + 1 => cntW l w i + (if l.getD i 0 = w then 1 else 0)
theorem cntW_bd (l : List Int) (w : Int) : ∀ i, 0 ≤ cntW l w i ∧ cntW l w i ≤ i
  | 0 => by simp [cntW]
  | i + 1 => by
    have := cntW_bd l w i
    rw [cntW]
    split <;> omega
theorem cntW_all {l : List Int} (h : ∀ i, i < l.length → l.getD i 0 = 1 ∨ l.getD i 0 = 0 ∨ l.getD i 0 = -1) : ∀ i : Nat, i ≤ l.length → cntW l 1 i + cntW l 0 i + cntW l (-1) i = i
  | 0, _ => by simp [cntW]
  | i + 1, hi => by
    have ih := cntW_all h i (by omega)
    rw [cntW, cntW, cntW]
    rcases h i (by omega) with e | e | e <;> rw [e] <;> simp <;> omega
def SCntW : List AV → List Blk → (AV → List Blk → Prop) → Prop
  | [v, .int .i64 w], η, K => okI η v ∧ K (.int .i64 (cntW (decI η v) w (decI η v).length)) η
  | _, _, _ => False
theorem wshN_at (l : List Id3) (ms bs : List Int) (hi lo : Int) {n i : Nat} (h : i < n) : (wshN l ms bs hi lo n).getD i 0 = wshI l ms bs hi lo i := by
  simp [wshN, List.getD_eq_getElem?_getD, List.getElem?_map, List.getElem?_range h]
theorem wshI_in (l : List Id3) (ms bs : List Int) (hi lo : Int) (i : Nat) : wshI l ms bs hi lo i = 1 ∨ wshI l ms bs hi lo i = 0 ∨ wshI l ms bs hi lo i = -1 := by
  unfold wshI
  split
  · exact .inl rfl
  · split
    · exact .inr (.inr rfl)
    · exact .inr (.inl rfl)

def invCW (η : List Blk) (l : List Int) (v : AV) (w : Int) (st : St) : Prop := ∃ i : Nat, (i ≤ l.length) ∧ st.n = 21 ∧ st.τ 1 = .int .i64 w ∧ st.τ 5 = .int .i64 (cntW l w i) ∧ st.τ 8 = v ∧ st.τ 9 = .int .i64 l.length ∧ st.τ 10 = .int .i64 i ∧ st.lam = lam0 ∧ st.η = η

/- impl.CountWishes -/
theorem f38_ok {lo : Nat} {args : List AV} {η : List Blk} {K : AV → List Blk → Prop} (h : SCntW args η K) : AF Try.prog lo 38 args η K := by
  unfold SCntW at h
  split at h
  · obtain ⟨⟨l, hr, hl⟩, hK⟩ := h
    rename_i w
    rw [hr.dec] at hK
    obtain ⟨b, ver, rfl, hb⟩ := hr
    refine AF_run noSp_ok D0 [] [.tmp 4] hm Try.func38 rfl (by decide) Try.ntmps38 rfl (by kernel_rfl) (Nat.le_of_ble_eq_true rfl) ?_; intro hlo
    repeat' (first | with_reducible refine iteI (fun _ => ?_) (fun _ => ?_) | ((first | unfold AOpsC | unfold AOpsD | skip); simp (maxSteps := 1000000) (disch := (first | omega | assumption | (simp only [List.length_append, List.length_cons, List.length_nil, List.length_set]; omega))) only [go_sem, ↓skipC, ↓exitC, ↓retC, ↓seqC, ↓blockC, ↓condC, ↓regC, ↓drawC, ↓drawStep, ↓AOpC, ↓AOpF, ↓AOpE, ↓AEff, ↓contE_at, ↓contC_at, ↓keepC_at, ↓keepW_at, ↓map_parts, ↓reduceIte, reduceCtorEq, Nat.reduceLT, Nat.reduceEqDiff, Nat.reduceAdd, Nat.reduceMul, Nat.reduceLeDiff, Nat.reduceSub, Nat.reduceBEq, Nat.reduceBNe, Nat.reduceBneDiff, Nat.reduceBeqDiff, ag_28, ag_3, by_28, by_3, el_28, in_3, sz_28, sz_3, ze_28, ze_3, hb]))
    refine ⟨invCW η l (.sl b ver 0 l.length) w, fun st => ctr l.length st 10, .inl ⟨0, Nat.zero_le _, rfl, (by first | (simp [upd]; done) | (simp [upd, *]; done) | rfl), (by first | (simp [upd]; done) | (simp [upd, *]; done) | rfl), (by first | (simp [upd]; done) | (simp [upd, *]; done) | rfl), (by first | (simp [upd]; done) | (simp [upd, *]; done) | rfl), (by first | (simp [upd]; done) | (simp [upd, *]; done) | rfl), rfl, rfl⟩, ?_⟩
    rintro ⟨n, τ, lam, η'⟩ ⟨i, g0, hn, t1, t5, t8, t9, t10, hlam, hη⟩; simp only at hn t1 t5 t8 t9 t10 hlam hη; subst hn hlam hη
    by_cases hlt : i < l.length
    · have hbd := cntW_bd l w i
      by_cases e : l.getD i 0 = w
      · have hc : cntW l w (i + 1) = cntW l w i + 1 := by rw [cntW, if_pos e]
        repeat' (first | with_reducible refine iteI (fun _ => ?_) (fun _ => ?_) | ((first | unfold AOpsC | unfold AOpsD | skip); simp (maxSteps := 1000000) (disch := (first | omega | assumption | (simp only [List.length_append, List.length_cons, List.length_nil, List.length_set]; omega))) only [go_sem, ↓skipC, ↓exitC, ↓retC, ↓seqC, ↓blockC, ↓condC, ↓regC, ↓drawC, ↓drawStep, ↓AOpC, ↓AOpF, ↓AOpE, ↓AEff, ↓contE_at, ↓contC_at, ↓keepC_at, ↓keepW_at, ↓map_parts, ↓reduceIte, reduceCtorEq, Nat.reduceLT, Nat.reduceEqDiff, Nat.reduceAdd, Nat.reduceMul, Nat.reduceLeDiff, Nat.reduceSub, Nat.reduceBEq, Nat.reduceBNe, Nat.reduceBneDiff, Nat.reduceBeqDiff, ag_28, ag_3, by_28, by_3, el_28, in_3, sz_28, sz_3, ze_28, ze_3, hb, t1, t5, t8, t9, t10, e]))
        rw [← hc]
        refine ⟨⟨i + 1, hlt, rfl, (by simp [upd, t1, t5, t8, t9, t10]), (by simp [upd, t1, t5, t8, t9, t10]), (by simp [upd, t1, t5, t8, t9, t10]), (by simp [upd, t1, t5, t8, t9, t10]), (by simp [upd, t1, t5, t8, t9, t10]), rfl, rfl⟩, (by simp [ctr, upd, t1, t5, t8, t9, t10]; omega)⟩
      · have hc : cntW l w (i + 1) = cntW l w i := by rw [cntW, if_neg e]; omega
        repeat' (first | with_reducible refine iteI (fun _ => ?_) (fun _ => ?_) | ((first | unfold AOpsC | unfold AOpsD | skip); simp (maxSteps := 1000000) (disch := (first | omega | assumption | (simp only [List.length_append, List.length_cons, List.length_nil, List.length_set]; omega))) only [go_sem, ↓skipC, ↓exitC, ↓retC, ↓seqC, ↓blockC, ↓condC, ↓regC, ↓drawC, ↓drawStep, ↓AOpC, ↓AOpF, ↓AOpE, ↓AEff, ↓contE_at, ↓contC_at, ↓keepC_at, ↓keepW_at, ↓map_parts, ↓reduceIte, reduceCtorEq, Nat.reduceLT, Nat.reduceEqDiff, Nat.reduceAdd, Nat.reduceMul, Nat.reduceLeDiff, Nat.reduceSub, Nat.reduceBEq, Nat.reduceBNe, Nat.reduceBneDiff, Nat.reduceBeqDiff, ag_28, ag_3, by_28, by_3, el_28, in_3, sz_28, sz_3, ze_28, ze_3, hb, t1, t5, t8, t9, t10, e]))
        rw [← hc] at t5
        refine ⟨⟨i + 1, hlt, rfl, (by simp [upd, t1, t5, t8, t9, t10]), (by simp [upd, t1, t5, t8, t9, t10]), (by simp [upd, t1, t5, t8, t9, t10]), (by simp [upd, t1, t5, t8, t9, t10]), (by simp [upd, t1, t5, t8, t9, t10]), rfl, rfl⟩, (by simp [ctr, upd, t1, t5, t8, t9, t10]; omega)⟩
    · obtain rfl : i = l.length := by omega
      repeat' (first | with_reducible refine iteI (fun _ => ?_) (fun _ => ?_) | ((first | unfold AOpsC | unfold AOpsD | skip); simp (maxSteps := 1000000) (disch := (first | omega | assumption | (simp only [List.length_append, List.length_cons, List.length_nil, List.length_set]; omega))) only [go_sem, ↓skipC, ↓exitC, ↓retC, ↓seqC, ↓blockC, ↓condC, ↓regC, ↓drawC, ↓drawStep, ↓AOpC, ↓AOpF, ↓AOpE, ↓AEff, ↓contE_at, ↓contC_at, ↓keepC_at, ↓keepW_at, ↓map_parts, ↓reduceIte, reduceCtorEq, Nat.reduceLT, Nat.reduceEqDiff, Nat.reduceAdd, Nat.reduceMul, Nat.reduceLeDiff, Nat.reduceSub, Nat.reduceBEq, Nat.reduceBNe, Nat.reduceBneDiff, Nat.reduceBeqDiff, ag_28, ag_3, by_28, by_3, el_28, in_3, sz_28, sz_3, ze_28, ze_3, hb, t1, t5, t8, t9, t10]))
      exact hK
  · exact h.elim

def invL (η : List Blk) (r : Int) (l : List Id3) (v a b c : AV) (bf wf : Nat) (ms bs L : List Int) (y0 y1 : Int) (st : St) : Prop := ∃ i : Nat, ∃ H : List Blk, (i ≤ l.length) ∧ (Ext η H) ∧ (H[bf]? = some ⟨wf, 3, 1, L.map (.int .i64)⟩) ∧ st.n = 89 ∧ st.τ 3 = .loc 3 1 0 ∧ st.τ 5 = .int .i64 y0 ∧ st.τ 6 = .int .i64 y1 ∧ st.τ 7 = .sl bf wf 0 L.length ∧ st.τ 8 = .int .i64 i ∧ st.lam 3 = ⟨1, [.int .i64 r, v, a, b, c]⟩ ∧ st.η = H

/- laws.FnWishes -/
def Sp6 (lo : Nat) : Spec := fun g args η K => match g with | 22 => SBig lo args η K | 24 => SPlaces lo args η K | 32 => SDrawS lo args η K | 36 => SWish args η K | 37 => SJumpAt args η K | 38 => SCntW args η K | _ => False
theorem Sp6_ok {lo : Nat} : Sound Try.prog lo (Sp6 lo) := by
  intro g args η K h
  unfold Sp6 at h
  split at h
  · exact f22_ok h
  · exact f24_ok h
  · exact f32_ok h
  · exact f36_ok h
  · exact f37_ok h
  · exact f38_ok h
  · exact h.elim
theorem f6_ok {lo : Nat} {args : List AV} {η : List Blk} {K : AV → List Blk → Prop} (h : SDL lo args η K) : AF Try.prog lo 6 args η K := by
  unfold SDL at h
  split at h
  · obtain ⟨g, hr, hml, hK⟩ := h
    have hn := (noLoc8 hr).1
    refine AF_run Sp6_ok D0 [] [.tmp 2] hm Try.func6 rfl (by decide) Try.ntmps6 rfl (by kernel_rfl) (Nat.le_of_ble_eq_true rfl) ?_; intro hlo
    repeat' (first | with_reducible refine iteI (fun _ => ?_) (fun _ => ?_) | ((first | unfold AOpsC | unfold AOpsD | skip); simp (maxSteps := 1000000) (disch := (first | omega | assumption | (simp only [List.length_append, List.length_cons, List.length_nil, List.length_set]; omega))) only [go_sem, ↓skipC, ↓exitC, ↓retC, ↓seqC, ↓blockC, ↓condC, ↓regC, ↓drawC, ↓drawStep, ↓AOpC, ↓AOpF, ↓AOpE, ↓AEff, ↓contE_at, ↓contC_at, ↓keepC_at, ↓keepW_at, ↓map_parts, ↓reduceIte, reduceCtorEq, Nat.reduceLT, Nat.reduceEqDiff, Nat.reduceAdd, Nat.reduceMul, Nat.reduceLeDiff, Nat.reduceSub, Nat.reduceBEq, Nat.reduceBNe, Nat.reduceBneDiff, Nat.reduceBeqDiff, ag_24, ag_28, ag_3, ag_39, ag_45, bo_4, by_24, by_28, by_3, by_39, by_45, el_24, el_28, fi_26_1, fi_39_0, fi_39_1, fi_45_1, in_3, nf_39, nf_45, pl_39, pl_45, ps_39, ps_45, sz_24, sz_28, sz_3, sz_39, sz_45, ze_24, ze_28, ze_3, ze_39, ze_45, Sp6, SCntW, ↓hn]))
    unfold SBig
    refine ⟨g, hr, hml, ?_⟩
    by_cases hl : (1048576 : Int) < g.length
    · repeat' (first | with_reducible refine iteI (fun _ => ?_) (fun _ => ?_) | ((first | unfold AOpsC | unfold AOpsD | skip); simp (maxSteps := 1000000) (disch := (first | omega | assumption | (simp only [List.length_append, List.length_cons, List.length_nil, List.length_set]; omega))) only [go_sem, ↓skipC, ↓exitC, ↓retC, ↓seqC, ↓blockC, ↓condC, ↓regC, ↓drawC, ↓drawStep, ↓AOpC, ↓AOpF, ↓AOpE, ↓AEff, ↓contE_at, ↓contC_at, ↓keepC_at, ↓keepW_at, ↓map_parts, ↓reduceIte, reduceCtorEq, Nat.reduceLT, Nat.reduceEqDiff, Nat.reduceAdd, Nat.reduceMul, Nat.reduceLeDiff, Nat.reduceSub, Nat.reduceBEq, Nat.reduceBNe, Nat.reduceBneDiff, Nat.reduceBeqDiff, ag_24, ag_28, ag_3, ag_39, ag_45, bo_4, by_24, by_28, by_3, by_39, by_45, el_24, el_28, fi_26_1, fi_39_0, fi_39_1, fi_45_1, in_3, nf_39, nf_45, pl_39, pl_45, ps_39, ps_45, sz_24, sz_28, sz_3, sz_39, sz_45, ze_24, ze_28, ze_3, ze_39, ze_45, Sp6, SCntW, ↓hn, hl]))
      exact hK _
    repeat' (first | with_reducible refine iteI (fun _ => ?_) (fun _ => ?_) | ((first | unfold AOpsC | unfold AOpsD | skip); simp (maxSteps := 1000000) (disch := (first | omega | assumption | (simp only [List.length_append, List.length_cons, List.length_nil, List.length_set]; omega))) only [go_sem, ↓skipC, ↓exitC, ↓retC, ↓seqC, ↓blockC, ↓condC, ↓regC, ↓drawC, ↓drawStep, ↓AOpC, ↓AOpF, ↓AOpE, ↓AEff, ↓contE_at, ↓contC_at, ↓keepC_at, ↓keepW_at, ↓map_parts, ↓reduceIte, reduceCtorEq, Nat.reduceLT, Nat.reduceEqDiff, Nat.reduceAdd, Nat.reduceMul, Nat.reduceLeDiff, Nat.reduceSub, Nat.reduceBEq, Nat.reduceBNe, Nat.reduceBneDiff, Nat.reduceBeqDiff, ag_24, ag_28, ag_3, ag_39, ag_45, bo_4, by_24, by_28, by_3, by_39, by_45, el_24, el_28, fi_26_1, fi_39_0, fi_39_1, fi_45_1, in_3, nf_39, nf_45, pl_39, pl_45, ps_39, ps_45, sz_24, sz_28, sz_3, sz_39, sz_45, ze_24, ze_28, ze_3, ze_39, ze_45, Sp6, SCntW, ↓hn, hl]))
    unfold SDrawS
    refine ⟨g, hr, hml, fun HS r l ms ts bs b0 b1 b2 b3 v0 v1 v2 v3 hd hN hx => ?_⟩
    have e1 := hd.1
    obtain ⟨k1, k2, k3, k4, k5, k6, k7, k8⟩ := okT e1
    have hln := mesh_len k1
    have hne := mesh_ne k1
    have hr3 := hd.2.1
    replace hr := hr.ext hx
    have w0 := hN.g0
    have w1 := hN.g1
    have w2 := hN.g2
    have w3 := hN.g3
    have D1 : dec3 45 HS (.sl b0 v0 0 l.length) = l := IsR.dec3 ⟨b0, v0, rfl, w0⟩
    have D2 : decI HS (.sl b1 v1 0 ms.length) = ms := IsI.dec ⟨b1, v1, rfl, w1⟩
    have D3 : decI HS (.sl b2 v2 0 ts.length) = ts := IsI.dec ⟨b2, v2, rfl, w2⟩
    have D4 : decI HS (.sl b3 v3 0 bs.length) = bs := IsI.dec ⟨b3, v3, rfl, w3⟩
    have O1 : ok3 45 HS (.sl b0 v0 0 l.length) := ⟨l, ⟨b0, v0, rfl, w0⟩, by omega⟩
    have O2 : okI HS (.sl b1 v1 0 ms.length) := ⟨ms, ⟨b1, v1, rfl, w1⟩, by omega⟩
    have O3 : okI HS (.sl b2 v2 0 ts.length) := ⟨ts, ⟨b2, v2, rfl, w2⟩, by omega⟩
    have O4 : okI HS (.sl b3 v3 0 bs.length) := ⟨bs, ⟨b3, v3, rfl, w3⟩, by omega⟩
    repeat' (first | with_reducible refine iteI (fun _ => ?_) (fun _ => ?_) | ((first | unfold AOpsC | unfold AOpsD | skip); simp (maxSteps := 1000000) (disch := (first | omega | assumption | (simp only [List.length_append, List.length_cons, List.length_nil, List.length_set]; omega))) only [go_sem, ↓skipC, ↓exitC, ↓retC, ↓seqC, ↓blockC, ↓condC, ↓regC, ↓drawC, ↓drawStep, ↓AOpC, ↓AOpF, ↓AOpE, ↓AEff, ↓contE_at, ↓contC_at, ↓keepC_at, ↓keepW_at, ↓map_parts, ↓reduceIte, reduceCtorEq, Nat.reduceLT, Nat.reduceEqDiff, Nat.reduceAdd, Nat.reduceMul, Nat.reduceLeDiff, Nat.reduceSub, Nat.reduceBEq, Nat.reduceBNe, Nat.reduceBneDiff, Nat.reduceBeqDiff, ag_24, ag_28, ag_3, ag_39, ag_45, bo_4, by_24, by_28, by_3, by_39, by_45, el_24, el_28, fi_26_1, fi_39_0, fi_39_1, fi_45_1, in_3, nf_39, nf_45, pl_39, pl_45, ps_39, ps_45, sz_24, sz_28, sz_3, sz_39, sz_45, ze_24, ze_28, ze_3, ze_39, ze_45, Sp6, SCntW, ↓hn, w0, w1, w2, w3, D1, D2, D3, D4, O1, O2, O3, O4, e1]))
    unfold SPlaces
    refine ⟨g, hr, hml, fun vp HP ps hps hall hi hext => ?_⟩
    obtain ⟨bp, wp, rfl, hbp⟩ := hi
    replace hr := hr.ext hext
    have hpx : ∀ i, i < 12 → 0 ≤ ps.getD i 0 ∧ ps.getD i 0 < 10000 := fun i hi => hall _ (of_eq_true (memD (by omega)))
    replace hN := hN.ext hext
    clear w0 w1 w2 w3 D1 D2 D3 D4 O1 O2 O3 O4
    have w0 := hN.g0
    have w1 := hN.g1
    have w2 := hN.g2
    have w3 := hN.g3
    have D1 : dec3 45 HP (.sl b0 v0 0 l.length) = l := IsR.dec3 ⟨b0, v0, rfl, w0⟩
    have D2 : decI HP (.sl b1 v1 0 ms.length) = ms := IsI.dec ⟨b1, v1, rfl, w1⟩
    have D3 : decI HP (.sl b2 v2 0 ts.length) = ts := IsI.dec ⟨b2, v2, rfl, w2⟩
    have D4 : decI HP (.sl b3 v3 0 bs.length) = bs := IsI.dec ⟨b3, v3, rfl, w3⟩
    have O1 : ok3 45 HP (.sl b0 v0 0 l.length) := ⟨l, ⟨b0, v0, rfl, w0⟩, by omega⟩
    have O2 : okI HP (.sl b1 v1 0 ms.length) := ⟨ms, ⟨b1, v1, rfl, w1⟩, by omega⟩
    have O3 : okI HP (.sl b2 v2 0 ts.length) := ⟨ts, ⟨b2, v2, rfl, w2⟩, by omega⟩
    have O4 : okI HP (.sl b3 v3 0 bs.length) := ⟨bs, ⟨b3, v3, rfl, w3⟩, by omega⟩
    have x0 := hpx 0 (by omega)
    have x1 := hpx 1 (by omega)
    repeat' (first | with_reducible refine iteI (fun _ => ?_) (fun _ => ?_) | ((first | unfold AOpsC | unfold AOpsD | skip); simp (maxSteps := 1000000) (disch := (first | omega | assumption | (simp only [List.length_append, List.length_cons, List.length_nil, List.length_set]; omega))) only [go_sem, ↓skipC, ↓exitC, ↓retC, ↓seqC, ↓blockC, ↓condC, ↓regC, ↓drawC, ↓drawStep, ↓AOpC, ↓AOpF, ↓AOpE, ↓AEff, ↓contE_at, ↓contC_at, ↓keepC_at, ↓keepW_at, ↓map_parts, ↓reduceIte, reduceCtorEq, Nat.reduceLT, Nat.reduceEqDiff, Nat.reduceAdd, Nat.reduceMul, Nat.reduceLeDiff, Nat.reduceSub, Nat.reduceBEq, Nat.reduceBNe, Nat.reduceBneDiff, Nat.reduceBeqDiff, ag_24, ag_28, ag_3, ag_39, ag_45, bo_4, by_24, by_28, by_3, by_39, by_45, el_24, el_28, fi_26_1, fi_39_0, fi_39_1, fi_45_1, in_3, nf_39, nf_45, pl_39, pl_45, ps_39, ps_45, sz_24, sz_28, sz_3, sz_39, sz_45, ze_24, ze_28, ze_3, ze_39, ze_45, Sp6, SCntW, w0, w1, w2, w3, D1, D2, D3, D4, O1, O2, O3, O4, e1, hbp, Int.reduceToNat, Int.toNat_zero, Int.toNat_one, Nat.zero_mul, Nat.one_mul]))
    generalize ps.getD 0 0 = y0 at *
    generalize ps.getD 1 0 = y1 at *
    unfold SWish
    simp only [w0, w1, w2, w3, D1, D2, D3, D4, O1, O2, O3, O4, true_and, and_self]
    refine fun H1 u hu xu => ?_
    have hwr : wshR r l ms ts bs y0 y1 = wshN l ms bs y0 y1 l.length := if_pos e1
    have hwl := wshN_len l ms bs y0 y1 l.length
    have hwa := fun i (h : i < l.length) => wshN_at l ms bs y0 y1 h
    rw [hwr] at hu
    generalize wshN l ms bs y0 y1 l.length = L at *
    obtain ⟨hu, _⟩ := hu
    rcases hu with ⟨hu, hL⟩ | ⟨bf, wf, rfl, hbf⟩
    · exfalso; subst hL; simp at hwl; omega
    have hN1 := hN.ext xu
    clear w0 w1 w2 w3 D1 D2 D3 D4 O1 O2 O3 O4
    obtain ⟨w0, w1, w2, w3⟩ : _ ∧ _ ∧ _ ∧ _ := ⟨hN1.g0, hN1.g1, hN1.g2, hN1.g3⟩
    repeat' (first | with_reducible refine iteI (fun _ => ?_) (fun _ => ?_) | ((first | unfold AOpsC | unfold AOpsD | skip); simp (maxSteps := 1000000) (disch := (first | omega | assumption | (simp only [List.length_append, List.length_cons, List.length_nil, List.length_set]; omega))) only [go_sem, ↓skipC, ↓exitC, ↓retC, ↓seqC, ↓blockC, ↓condC, ↓regC, ↓drawC, ↓drawStep, ↓AOpC, ↓AOpF, ↓AOpE, ↓AEff, ↓contE_at, ↓contC_at, ↓keepC_at, ↓keepW_at, ↓map_parts, ↓reduceIte, reduceCtorEq, Nat.reduceLT, Nat.reduceEqDiff, Nat.reduceAdd, Nat.reduceMul, Nat.reduceLeDiff, Nat.reduceSub, Nat.reduceBEq, Nat.reduceBNe, Nat.reduceBneDiff, Nat.reduceBeqDiff, ag_24, ag_28, ag_3, ag_39, ag_45, bo_4, by_24, by_28, by_3, by_39, by_45, el_24, el_28, fi_26_1, fi_39_0, fi_39_1, fi_45_1, in_3, nf_39, nf_45, pl_39, pl_45, ps_39, ps_45, sz_24, sz_28, sz_3, sz_39, sz_45, ze_24, ze_28, ze_3, ze_39, ze_45, Sp6, SCntW, w0, w1, w2, w3, hbf]))
    refine ⟨invL H1 r l (.sl b0 v0 0 l.length) (.sl b1 v1 0 ms.length) (.sl b2 v2 0 ts.length) (.sl b3 v3 0 bs.length) bf wf ms bs L y0 y1, fun st => ctr l.length st 8, .inl ⟨0, _, Nat.zero_le _, Ext.refl _, hbf, rfl, (by first | (simp [upd]; done) | (simp [upd, *]; done) | rfl), (by first | (simp [upd]; done) | (simp [upd, *]; done) | rfl), (by first | (simp [upd]; done) | (simp [upd, *]; done) | rfl), (by first | (simp [upd]; done) | (simp [upd, *]; done) | rfl), (by first | (simp [upd]; done) | (simp [upd, *]; done) | rfl), (by first | (simp [upd]; done) | (simp [upd, *]; done) | rfl), rfl⟩, ?_⟩
    rintro ⟨n, τ, lam, η'⟩ ⟨i, H, g0, g1, g2, hn, t3, t5, t6, t7, t8, l3, hη⟩; simp only at hn t3 t5 t6 t7 t8 l3 hη; subst hn hη
    have hN2 := hN1.ext g1
    clear w0 w1 w2 w3
    have w0 := hN2.g0
    have w1 := hN2.g1
    have w2 := hN2.g2
    have w3 := hN2.g3
    have D1 : dec3 45 η' (.sl b0 v0 0 l.length) = l := IsR.dec3 ⟨b0, v0, rfl, w0⟩
    have D2 : decI η' (.sl b1 v1 0 ms.length) = ms := IsI.dec ⟨b1, v1, rfl, w1⟩
    have D3 : decI η' (.sl b2 v2 0 ts.length) = ts := IsI.dec ⟨b2, v2, rfl, w2⟩
    have D4 : decI η' (.sl b3 v3 0 bs.length) = bs := IsI.dec ⟨b3, v3, rfl, w3⟩
    have O1 : ok3 45 η' (.sl b0 v0 0 l.length) := ⟨l, ⟨b0, v0, rfl, w0⟩, by omega⟩
    have O2 : okI η' (.sl b1 v1 0 ms.length) := ⟨ms, ⟨b1, v1, rfl, w1⟩, by omega⟩
    have O3 : okI η' (.sl b2 v2 0 ts.length) := ⟨ts, ⟨b2, v2, rfl, w2⟩, by omega⟩
    have O4 : okI η' (.sl b3 v3 0 bs.length) := ⟨bs, ⟨b3, v3, rfl, w3⟩, by omega⟩
    by_cases hlt : i < l.length
    · have ja : jumpAt r l ms ts bs (i : Int) = jumpI l ms bs i := by
        rw [jumpAt, if_pos (by simp only [atB, e1, inB, Bool.true_and, Bool.and_eq_true, decide_eq_true_eq]; omega), Int.toNat_natCast]
      have hv : L.getD i 0 = wshI l ms bs y0 y1 i := hwa i hlt
      unfold wshI at hv
      repeat' (first | with_reducible refine iteI (fun _ => ?_) (fun _ => ?_) | ((first | unfold AOpsC | unfold AOpsD | skip); simp (maxSteps := 1000000) (disch := (first | omega | assumption | (simp only [List.length_append, List.length_cons, List.length_nil, List.length_set]; omega))) only [go_sem, ↓skipC, ↓exitC, ↓retC, ↓seqC, ↓blockC, ↓condC, ↓regC, ↓drawC, ↓drawStep, ↓AOpC, ↓AOpF, ↓AOpE, ↓AEff, ↓contE_at, ↓contC_at, ↓keepC_at, ↓keepW_at, ↓map_parts, ↓reduceIte, reduceCtorEq, Nat.reduceLT, Nat.reduceEqDiff, Nat.reduceAdd, Nat.reduceMul, Nat.reduceLeDiff, Nat.reduceSub, Nat.reduceBEq, Nat.reduceBNe, Nat.reduceBneDiff, Nat.reduceBeqDiff, ag_24, ag_28, ag_3, ag_39, ag_45, bo_4, by_24, by_28, by_3, by_39, by_45, el_24, el_28, fi_26_1, fi_39_0, fi_39_1, fi_45_1, in_3, nf_39, nf_45, pl_39, pl_45, ps_39, ps_45, sz_24, sz_28, sz_3, sz_39, sz_45, ze_24, ze_28, ze_3, ze_39, ze_45, Sp6, SCntW, w0, w1, w2, w3, D1, D2, D3, D4, O1, O2, O3, O4, e1, t3, t5, t6, t7, t8, l3, g2]))
      unfold SJumpAt
      simp only [w0, w1, w2, w3, D1, D2, D3, D4, O1, O2, O3, O4, true_and, and_self]
      refine fun H3 x3 => ?_
      rw [ja]
      have q0 := x3.blk w0
      have q1 := x3.blk w1
      have q3 := x3.blk g2
      generalize jumpI l ms bs i = J at *
      generalize hLV : (l.getD i (0, 0, 0)).2.1 = LV at *
      have lvb := levs_at (mesh_levs k1) hlt
      by_cases c1 : y0 < J <;> by_cases c2 : LV < 4 <;> by_cases f1 : J < y1 <;> by_cases f2 : 0 < LV
      all_goals simp only [c1, c2, f1, f2, and_self, and_true, and_false, if_true, if_false] at hv
      all_goals
        repeat' (first | with_reducible refine iteI (fun _ => ?_) (fun _ => ?_) | ((first | unfold AOpsC | unfold AOpsD | skip); simp (maxSteps := 1000000) (disch := (first | omega | assumption | (simp only [List.length_append, List.length_cons, List.length_nil, List.length_set]; omega))) only [go_sem, ↓skipC, ↓exitC, ↓retC, ↓seqC, ↓blockC, ↓condC, ↓regC, ↓drawC, ↓drawStep, ↓AOpC, ↓AOpF, ↓AOpE, ↓AEff, ↓contE_at, ↓contC_at, ↓keepC_at, ↓keepW_at, ↓map_parts, ↓reduceIte, reduceCtorEq, Nat.reduceLT, Nat.reduceEqDiff, Nat.reduceAdd, Nat.reduceMul, Nat.reduceLeDiff, Nat.reduceSub, Nat.reduceBEq, Nat.reduceBNe, Nat.reduceBneDiff, Nat.reduceBeqDiff, ag_24, ag_28, ag_3, ag_39, ag_45, bo_4, by_24, by_28, by_3, by_39, by_45, el_24, el_28, fi_26_1, fi_39_0, fi_39_1, fi_45_1, in_3, nf_39, nf_45, pl_39, pl_45, ps_39, ps_45, sz_24, sz_28, sz_3, sz_39, sz_45, ze_24, ze_28, ze_3, ze_39, ze_45, Sp6, SCntW, q0, q1, q3, t3, t5, t6, t7, t8, l3, hv, c1, c2, f1, f2, hLV]))
      all_goals first | (exfalso; omega) | skip
      all_goals refine ⟨⟨i + 1, _, hlt, g1.trans x3, q3, rfl, by simp [upd, t3], by simp [upd, t5], by simp [upd, t6], by simp [upd, t7], by simp [upd], by simp [upd, l3], rfl⟩, by simp [ctr, upd, t8]; omega⟩
    · have hdec : decI η' (.sl bf wf 0 L.length) = L := IsI.dec ⟨bf, wf, rfl, g2⟩
      have hok : okI η' (.sl bf wf 0 L.length) := ⟨L, ⟨bf, wf, rfl, g2⟩, by omega⟩
      have call := cntW_all (l := L) (fun i hi => by rw [hwa i (by omega)]; exact wshI_in _ _ _ _ _ _) L.length (Nat.le_refl _)
      have c1 := cntW_bd L 1 L.length
      have c2 := cntW_bd L 0 L.length
      have c3 := cntW_bd L (-1) L.length
      repeat' (first | with_reducible refine iteI (fun _ => ?_) (fun _ => ?_) | ((first | unfold AOpsC | unfold AOpsD | skip); simp (maxSteps := 1000000) (disch := (first | omega | assumption | (simp only [List.length_append, List.length_cons, List.length_nil, List.length_set]; omega))) only [go_sem, ↓skipC, ↓exitC, ↓retC, ↓seqC, ↓blockC, ↓condC, ↓regC, ↓drawC, ↓drawStep, ↓AOpC, ↓AOpF, ↓AOpE, ↓AEff, ↓contE_at, ↓contC_at, ↓keepC_at, ↓keepW_at, ↓map_parts, ↓reduceIte, reduceCtorEq, Nat.reduceLT, Nat.reduceEqDiff, Nat.reduceAdd, Nat.reduceMul, Nat.reduceLeDiff, Nat.reduceSub, Nat.reduceBEq, Nat.reduceBNe, Nat.reduceBneDiff, Nat.reduceBeqDiff, ag_24, ag_28, ag_3, ag_39, ag_45, bo_4, by_24, by_28, by_3, by_39, by_45, el_24, el_28, fi_26_1, fi_39_0, fi_39_1, fi_45_1, in_3, nf_39, nf_45, pl_39, pl_45, ps_39, ps_45, sz_24, sz_28, sz_3, sz_39, sz_45, ze_24, ze_28, ze_3, ze_39, ze_45, Sp6, SCntW, w0, w1, w2, w3, D1, D2, D3, D4, O1, O2, O3, O4, e1, t3, t5, t6, t7, t8, l3, g2, hdec, hok]))
      exact hK _
  · exact h.elim

/- the law -/
theorem law_ok {blks : List Blk} {x0 : AV} (s0 : AvSh blks (.rows 5 1 .u8) x0) : AF Try.prog blks.length 6 [x0] blks fun v _ => v = .bool true := by
  obtain ⟨l, hl, hlm⟩ := row8 s0
  exact f6_ok (show SDL blks.length _ _ _ from ⟨l, hl, hlm, fun _ => rfl⟩)

end Go.Proofs.Ytffefndnnbcplaa
