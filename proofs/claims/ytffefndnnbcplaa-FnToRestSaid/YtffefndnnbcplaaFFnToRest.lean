/- What functions of the program compute, said in the abstract logic; no conditions. -/
import Derived.Test.YtffefndnnbcplaaGBase
import Derived.Test.YtffefndnnbcplaaGIn
import Derived.Test.YtffefndnnbcplaaGDraw
import Derived.Test.YtffefndnnbcplaaGMesh
import Derived.Test.YtffefndnnbcplaaGIds
import Derived.Test.YtffefndnnbcplaaGEv
import Derived.Test.YtffefndnnbcplaaGRes
import Derived.Test.YtffefndnnbcplaaGBal
import Derived.Test.YtffefndnnbcplaaGCost
import Derived.Test.YtffefndnnbcplaaGMeshN
import Derived.Test.YtffefndnnbcplaaGDrawM
import Derived.Test.YtffefndnnbcplaaGDrawN
import Derived.Test.YtffefndnnbcplaaGIdx
import Derived.Test.YtffefndnnbcplaaGState
import Derived.Test.YtffefndnnbcplaaGCopy
import Derived.Test.YtffefndnnbcplaaGBalc
import Derived.Test.YtffefndnnbcplaaGBalw
import Derived.Test.YtffefndnnbcplaaGInts
import Derived.Test.YtffefndnnbcplaaGStTo
import Derived.Test.YtffefndnnbcplaaGResS
import Derived.Test.YtffefndnnbcplaaGOwn
import Derived.Test.YtffefndnnbcplaaGDrawS
import Derived.Test.YtffefndnnbcplaaGDLaw
import Derived.Test.YtffefndnnbcplaaGDiv
import Derived.Test.YtffefndnnbcplaaGShare
import Derived.Test.YtffefndnnbcplaaGFlux
import Derived.Test.YtffefndnnbcplaaGFlux2
import Derived.Test.YtffefndnnbcplaaGOut
import Derived.Test.YtffefndnnbcplaaGRem
import Derived.Test.YtffefndnnbcplaaGAct
import Derived.Test.YtffefndnnbcplaaGMove
import Derived.Test.YtffefndnnbcplaaGMoveW
import Derived.Test.YtffefndnnbcplaaGStepQ
import Derived.Test.YtffefndnnbcplaaGStepS
import Derived.Test.YtffefndnnbcplaaGSteep
import Derived.Test.YtffefndnnbcplaaGLedP
import Derived.Test.YtffefndnnbcplaaGStepOk
import Derived.Test.YtffefndnnbcplaaGMacP
import Derived.Test.YtffefndnnbcplaaGRestS

namespace Go.Proofs.Ytffefndnnbcplaa
open Go
set_option linter.unusedSimpArgs false
set_option linter.unusedVariables false
set_option maxRecDepth 100000
set_option maxHeartbeats 8000000
attribute [local go_sem] st0 AC thenA andC locLoadB KsSW_same KsSW_grow oldLoadB KsOS_same KsOS_grow pv ev put upd dstOk cv cvc binI setB Value.oneCell' EndA resA resA1 List.mapM_cons List.mapM_nil Option.pure_def Option.bind_eq_bind noLocV noLoc1 noLoc noLocs plainV cellsA newVarA putCells condA lam0 inBlockA cur lenA rowA avoidsB avoidB clearB Array.toList_append Op.operands Call.operands newSlot Nat.zero_add Nat.add_zero Nat.succ_ne_self Nat.lt_add_one Nat.zero_lt_succ true_and and_true true_or or_true false_or or_false and_self true_implies forall_const Bool.false_eq_true Bool.true_eq_false false_implies implies_true imp_self ne_eq not_false_eq_true not_true_eq_false false_and and_false List.getElem?_toArray List.getElem?_cons_succ List.getElem?_cons_zero Option.bind_some Option.map_some Bool.not_true Bool.not_false List.getD_cons_zero List.getD_cons_succ Option.some.injEq exists_eq_left' AV.bool.injEq List.map_cons List.map_nil List.all_cons List.all_nil Bool.and_self Bool.and_true Bool.true_and List.append_nil List.cons_append List.nil_append List.length_cons List.length_nil List.drop_zero List.take_zero List.drop_succ_cons List.take_succ_cons List.take_nil List.drop_nil List.not_mem_nil List.mem_cons List.contains_nil List.contains_cons Bool.or_self Bool.or_true Bool.true_or Bool.false_or Bool.or_false Bool.and_false Bool.false_and KsS_same KsS_grow skipV KsS_ext KsSW_ext KsOS_ext rep1 rep2 rep3 rep4 rep5 List.flatten_cons List.flatten_nil partsA isPtr fillA List.size_toArray ltT ltF leT leF ltTn ltFn leTn leFn eqTi eqFi wrapId toNat1 intGet boolGet memD app_get app_last app_lst app_set app_setL app_setF set_ne set_eq gt_iff_lt ge_iff_le decide_eq_true_eq len2 len3 get20 get21 drop2 put2 get30 get31 get32 drop3 put3 putI pairEta bneTi bneFi beqTi beqFi bne_eq_false_iff_eq beq_eq_false_iff_ne beq_iff_eq bne_iff_ne Int.toNat_natCast Nat.mul_one List.length_map Bool.not_eq_true Bool.not_eq_false Bool.decide_eq_true decide_true decide_false Bool.not_eq_true' Bool.not_eq_false' decide_eq_false_iff_not eq_self Decidable.not_not

def invTR (η : List Blk) (r : Int) (l : List Id3) (ms ts bs : List Int) (st : St) : Prop := ∃ i : Nat, ∃ c0 : Nat, ∃ c1 : Nat, ∃ c2 : Nat, ∃ c3 : Nat, ∃ u0 : Nat, ∃ u1 : Nat, ∃ u2 : Nat, ∃ u3 : Nat, ∃ H : List Blk, (i ≤ 5) ∧ (H[c0]? = some ⟨u0, 45, 3, (l.map enc3).flatten⟩) ∧ (H[c1]? = some ⟨u1, 3, 1, (mcs l ms ts bs i).1.map (.int .i64)⟩) ∧ (H[c2]? = some ⟨u2, 3, 1, (mcs l ms ts bs i).2.map (.int .i64)⟩) ∧ (H[c3]? = some ⟨u3, 3, 1, bs.map (.int .i64)⟩) ∧ (srN r l ms ts bs 0 5 = srN r l ms ts bs i (5 - i)) ∧ st.n = 27 ∧ st.τ 3 = .loc 3 1 0 ∧ st.τ 4 = .int .i64 (srN r l ms ts bs 0 5) ∧ st.τ 5 = .int .i64 i ∧ st.lam 3 = ⟨1, [.int .i64 r, .sl c0 u0 0 l.length, .sl c1 u1 0 ms.length, .sl c2 u2 0 ts.length, .sl c3 u3 0 bs.length]⟩ ∧ st.η = H

/- laws.FnToRest -/
def Sp17 (lo : Nat) : Spec := fun g args η K => match g with | 22 => SBig lo args η K | 32 => SDrawS lo args η K | 61 => SMacS args η K | 74 => SSrR args η K | 75 => SRest args η K | _ => False
theorem Sp17_ok {lo : Nat} : Sound Try.prog lo (Sp17 lo) := by
  intro g args η K h
  unfold Sp17 at h
  split at h
  · exact f22_ok h
  · exact f32_ok h
  · exact f61_ok h
  · exact f74_ok h
  · exact f75_ok h
  · exact h.elim
theorem f17_ok {lo : Nat} {args : List AV} {η : List Blk} {K : AV → List Blk → Prop} (h : SDL lo args η K) : AF Try.prog lo 17 args η K := by
  unfold SDL at h
  split at h
  · obtain ⟨g, hr, hml, hK⟩ := h
    have hn := (noLoc8 hr).1
    refine AF_run Sp17_ok D0 [] [.tmp 2] hm Try.func17 rfl (by decide) Try.ntmps17 rfl (by kernel_rfl) (Nat.le_of_ble_eq_true rfl) ?_; intro hlo
    repeat' (first | with_reducible refine iteI (fun _ => ?_) (fun _ => ?_) | ((first | unfold AOpsC | unfold AOpsD | skip); simp (maxSteps := 1000000) (disch := (first | omega | assumption | (simp only [List.length_append, List.length_cons, List.length_nil, List.length_set]; omega))) only [go_sem, ↓skipC, ↓exitC, ↓retC, ↓seqC, ↓blockC, ↓condC, ↓regC, ↓drawC, ↓drawStep, ↓AOpC, ↓AOpF, ↓AOpE, ↓AEff, ↓contE_at, ↓contC_at, ↓keepC_at, ↓keepW_at, ↓keepO_at, ↓map_parts, ↓reduceIte, reduceCtorEq, Nat.reduceLT, Nat.reduceEqDiff, Nat.reduceAdd, Nat.reduceMul, Nat.reduceLeDiff, Nat.reduceSub, Nat.reduceBEq, Nat.reduceBNe, Nat.reduceBneDiff, Nat.reduceBeqDiff, ag_39, by_39, nf_39, pl_39, ps_39, sz_39, ze_39, Sp17, ↓hn]))
    unfold SBig
    refine ⟨g, hr, hml, ?_⟩
    by_cases hl : (1048576 : Int) < g.length
    · repeat' (first | with_reducible refine iteI (fun _ => ?_) (fun _ => ?_) | ((first | unfold AOpsC | unfold AOpsD | skip); simp (maxSteps := 1000000) (disch := (first | omega | assumption | (simp only [List.length_append, List.length_cons, List.length_nil, List.length_set]; omega))) only [go_sem, ↓skipC, ↓exitC, ↓retC, ↓seqC, ↓blockC, ↓condC, ↓regC, ↓drawC, ↓drawStep, ↓AOpC, ↓AOpF, ↓AOpE, ↓AEff, ↓contE_at, ↓contC_at, ↓keepC_at, ↓keepW_at, ↓keepO_at, ↓map_parts, ↓reduceIte, reduceCtorEq, Nat.reduceLT, Nat.reduceEqDiff, Nat.reduceAdd, Nat.reduceMul, Nat.reduceLeDiff, Nat.reduceSub, Nat.reduceBEq, Nat.reduceBNe, Nat.reduceBneDiff, Nat.reduceBeqDiff, ag_39, by_39, nf_39, pl_39, ps_39, sz_39, ze_39, Sp17, ↓hn, hl]))
      exact hK _
    repeat' (first | with_reducible refine iteI (fun _ => ?_) (fun _ => ?_) | ((first | unfold AOpsC | unfold AOpsD | skip); simp (maxSteps := 1000000) (disch := (first | omega | assumption | (simp only [List.length_append, List.length_cons, List.length_nil, List.length_set]; omega))) only [go_sem, ↓skipC, ↓exitC, ↓retC, ↓seqC, ↓blockC, ↓condC, ↓regC, ↓drawC, ↓drawStep, ↓AOpC, ↓AOpF, ↓AOpE, ↓AEff, ↓contE_at, ↓contC_at, ↓keepC_at, ↓keepW_at, ↓keepO_at, ↓map_parts, ↓reduceIte, reduceCtorEq, Nat.reduceLT, Nat.reduceEqDiff, Nat.reduceAdd, Nat.reduceMul, Nat.reduceLeDiff, Nat.reduceSub, Nat.reduceBEq, Nat.reduceBNe, Nat.reduceBneDiff, Nat.reduceBeqDiff, ag_39, by_39, nf_39, pl_39, ps_39, sz_39, ze_39, Sp17, ↓hn, hl]))
    unfold SDrawS
    refine ⟨g, hr, hml, fun HS r l ms ts bs b0 b1 b2 b3 v0 v1 v2 v3 hd hN hx => ?_⟩
    have e1 := hd.1
    obtain ⟨k1, k2, k3, k4, k5, k6, k7, k8⟩ := okT e1
    have hln := mesh_len k1
    have hne := mesh_ne k1
    have hr3 := hd.2.1
    replace hr := hr.ext hx
    have w0 := hN.g0
    have w1 := hN.g1
    have w2 := hN.g2
    have w3 := hN.g3
    have D1 : dec3 45 HS (.sl b0 v0 0 l.length) = l := IsR.dec3 ⟨b0, v0, rfl, w0⟩
    have D2 : decI HS (.sl b1 v1 0 ms.length) = ms := IsI.dec ⟨b1, v1, rfl, w1⟩
    have D3 : decI HS (.sl b2 v2 0 ts.length) = ts := IsI.dec ⟨b2, v2, rfl, w2⟩
    have D4 : decI HS (.sl b3 v3 0 bs.length) = bs := IsI.dec ⟨b3, v3, rfl, w3⟩
    have O1 : ok3 45 HS (.sl b0 v0 0 l.length) := ⟨l, ⟨b0, v0, rfl, w0⟩, by omega⟩
    have O2 : okI HS (.sl b1 v1 0 ms.length) := ⟨ms, ⟨b1, v1, rfl, w1⟩, by omega⟩
    have O3 : okI HS (.sl b2 v2 0 ts.length) := ⟨ts, ⟨b2, v2, rfl, w2⟩, by omega⟩
    have O4 : okI HS (.sl b3 v3 0 bs.length) := ⟨bs, ⟨b3, v3, rfl, w3⟩, by omega⟩
    have hz : srR r l ms ts bs 4 = srN r l ms ts bs 0 5 := if_pos ⟨e1, by decide⟩
    repeat' (first | with_reducible refine iteI (fun _ => ?_) (fun _ => ?_) | ((first | unfold AOpsC | unfold AOpsD | skip); simp (maxSteps := 1000000) (disch := (first | omega | assumption | (simp only [List.length_append, List.length_cons, List.length_nil, List.length_set]; omega))) only [go_sem, ↓skipC, ↓exitC, ↓retC, ↓seqC, ↓blockC, ↓condC, ↓regC, ↓drawC, ↓drawStep, ↓AOpC, ↓AOpF, ↓AOpE, ↓AEff, ↓contE_at, ↓contC_at, ↓keepC_at, ↓keepW_at, ↓keepO_at, ↓map_parts, ↓reduceIte, reduceCtorEq, Nat.reduceLT, Nat.reduceEqDiff, Nat.reduceAdd, Nat.reduceMul, Nat.reduceLeDiff, Nat.reduceSub, Nat.reduceBEq, Nat.reduceBNe, Nat.reduceBneDiff, Nat.reduceBeqDiff, ag_39, by_39, nf_39, pl_39, ps_39, sz_39, ze_39, Sp17, w0, w1, w2, w3, D1, D2, D3, D4, O1, O2, O3, O4, e1]))
    unfold SSrR
    simp only [w0, w1, w2, w3, D1, D2, D3, D4, O1, O2, O3, O4, true_and, and_self]
    refine fun H1 x1 => ?_
    rw [hz]
    repeat' (first | with_reducible refine iteI (fun _ => ?_) (fun _ => ?_) | ((first | unfold AOpsC | unfold AOpsD | skip); simp (maxSteps := 1000000) (disch := (first | omega | assumption | (simp only [List.length_append, List.length_cons, List.length_nil, List.length_set]; omega))) only [go_sem, ↓skipC, ↓exitC, ↓retC, ↓seqC, ↓blockC, ↓condC, ↓regC, ↓drawC, ↓drawStep, ↓AOpC, ↓AOpF, ↓AOpE, ↓AEff, ↓contE_at, ↓contC_at, ↓keepC_at, ↓keepW_at, ↓keepO_at, ↓map_parts, ↓reduceIte, reduceCtorEq, Nat.reduceLT, Nat.reduceEqDiff, Nat.reduceAdd, Nat.reduceMul, Nat.reduceLeDiff, Nat.reduceSub, Nat.reduceBEq, Nat.reduceBNe, Nat.reduceBneDiff, Nat.reduceBeqDiff, ag_39, by_39, nf_39, pl_39, ps_39, sz_39, ze_39, Sp17]))
    refine ⟨invTR HS r l ms ts bs, fun st => ctr 5 st 5, .inl ⟨0, b0, b1, b2, b3, v0, v1, v2, v3, H1, Nat.zero_le _, x1.blk w0, x1.blk w1, x1.blk w2, x1.blk w3, rfl, rfl, by simp [upd], by simp [upd], by simp [upd], by simp [upd], rfl⟩, ?_⟩
    clear w0 w1 w2 w3 D1 D2 D3 D4 O1 O2 O3 O4 x1
    rintro ⟨n, τ, lam, η'⟩ ⟨i, c0, c1, c2, c3, u0, u1, u2, u3, H, g0, g1, g2, g3, g4, g5, hn, t3, t4, t5, l3, hη⟩; simp only at hn t3 t4 t5 l3 hη; subst hn hη
    obtain ⟨n1, n2⟩ := mcs_len e1 i
    have e2 := mcs_ok e1 i
    by_cases hlt : i < 5
    · skip
      have i0m : IsR 45 3 enc3 η' (.sl c0 u0 0 l.length) l := ⟨_, _, rfl, g1⟩
      have i1m : IsI η' (.sl c1 u1 0 ms.length) (mcs l ms ts bs i).1 := ⟨c1, u1, by rw [n1], g2⟩
      have i2m : IsI η' (.sl c2 u2 0 ts.length) (mcs l ms ts bs i).2 := ⟨c2, u2, by rw [n2], g3⟩
      have i3m : IsI η' (.sl c3 u3 0 bs.length) bs := ⟨c3, u3, rfl, g4⟩
      have D1m := i0m.dec3
      have D2m := i1m.dec
      have D3m := i2m.dec
      have D4m := i3m.dec
      have O1m : ok3 45 _ _ := ⟨l, i0m, by omega⟩
      have O2m : okI _ _ := ⟨_, i1m, by omega⟩
      have O3m : okI _ _ := ⟨_, i2m, by omega⟩
      have O4m : okI _ _ := ⟨bs, i3m, by omega⟩
      have hs : srN r l ms ts bs i (5 - i) = if rsB r l ms ts bs i = true then (i : Int) else srN r l ms ts bs (i + 1) (4 - i) := by
        rw [show 5 - i = (4 - i) + 1 by omega, srN]
      repeat' (first | with_reducible refine iteI (fun _ => ?_) (fun _ => ?_) | ((first | unfold AOpsC | unfold AOpsD | skip); simp (maxSteps := 1000000) (disch := (first | omega | assumption | (simp only [List.length_append, List.length_cons, List.length_nil, List.length_set]; omega))) only [go_sem, ↓skipC, ↓exitC, ↓retC, ↓seqC, ↓blockC, ↓condC, ↓regC, ↓drawC, ↓drawStep, ↓AOpC, ↓AOpF, ↓AOpE, ↓AEff, ↓contE_at, ↓contC_at, ↓keepC_at, ↓keepW_at, ↓keepO_at, ↓map_parts, ↓reduceIte, reduceCtorEq, Nat.reduceLT, Nat.reduceEqDiff, Nat.reduceAdd, Nat.reduceMul, Nat.reduceLeDiff, Nat.reduceSub, Nat.reduceBEq, Nat.reduceBNe, Nat.reduceBneDiff, Nat.reduceBeqDiff, ag_39, by_39, nf_39, pl_39, ps_39, sz_39, ze_39, Sp17, t3, t4, t5, l3]))
      unfold SRest
      simp only [D1m, D2m, D3m, D4m, O1m, O2m, O3m, O4m, true_and, and_self]
      refine fun H3 x3 => ?_
      have hrb : restR r l (mcs l ms ts bs i).1 (mcs l ms ts bs i).2 bs = rsB r l ms ts bs i := rfl
      rw [hrb]
      cases hq : rsB r l ms ts bs i
      · rw [hq] at hs
        simp only [Bool.false_eq_true, if_false] at hs
        have i0k : IsR 45 3 enc3 H3 (.sl c0 u0 0 l.length) l := ⟨_, _, rfl, (x3.blk g1)⟩
        have i1k : IsI H3 (.sl c1 u1 0 ms.length) (mcs l ms ts bs i).1 := ⟨c1, u1, by rw [n1], (x3.blk g2)⟩
        have i2k : IsI H3 (.sl c2 u2 0 ts.length) (mcs l ms ts bs i).2 := ⟨c2, u2, by rw [n2], (x3.blk g3)⟩
        have i3k : IsI H3 (.sl c3 u3 0 bs.length) bs := ⟨c3, u3, rfl, (x3.blk g4)⟩
        have D1k := i0k.dec3
        have D2k := i1k.dec
        have D3k := i2k.dec
        have D4k := i3k.dec
        have O1k : ok3 45 _ _ := ⟨l, i0k, by omega⟩
        have O2k : okI _ _ := ⟨_, i1k, by omega⟩
        have O3k : okI _ _ := ⟨_, i2k, by omega⟩
        have O4k : okI _ _ := ⟨bs, i3k, by omega⟩
        repeat' (first | with_reducible refine iteI (fun _ => ?_) (fun _ => ?_) | ((first | unfold AOpsC | unfold AOpsD | skip); simp (maxSteps := 1000000) (disch := (first | omega | assumption | (simp only [List.length_append, List.length_cons, List.length_nil, List.length_set]; omega))) only [go_sem, ↓skipC, ↓exitC, ↓retC, ↓seqC, ↓blockC, ↓condC, ↓regC, ↓drawC, ↓drawStep, ↓AOpC, ↓AOpF, ↓AOpE, ↓AEff, ↓contE_at, ↓contC_at, ↓keepC_at, ↓keepW_at, ↓keepO_at, ↓map_parts, ↓reduceIte, reduceCtorEq, Nat.reduceLT, Nat.reduceEqDiff, Nat.reduceAdd, Nat.reduceMul, Nat.reduceLeDiff, Nat.reduceSub, Nat.reduceBEq, Nat.reduceBNe, Nat.reduceBneDiff, Nat.reduceBeqDiff, ag_39, by_39, nf_39, pl_39, ps_39, sz_39, ze_39, Sp17, t3, t4, t5, l3]))
        unfold SMacS
        simp only [D1k, D2k, D3k, D4k, O1k, O2k, O3k, O4k, true_and, and_self]
        refine fun H4 d0 d1 d2 d3 a0 a1 a2 a3 hN4 x4 => ?_
        have hm : mcs l ms ts bs (i + 1) = mac l (mcs l ms ts bs i).1 (mcs l ms ts bs i).2 bs 16 := by rw [mcs]
        have y0 : mcM r l (mcs l ms ts bs i).1 (mcs l ms ts bs i).2 bs = (mcs l ms ts bs (i + 1)).1 := by rw [hm, mcM, if_pos e2]
        have y1 : mcT r l (mcs l ms ts bs i).1 (mcs l ms ts bs i).2 bs = (mcs l ms ts bs (i + 1)).2 := by rw [hm, mcT, if_pos e2]
        obtain ⟨m1, m2⟩ := mcs_len e1 (i + 1)
        rw [y0, y1] at hN4 ⊢
        rw [m1, m2]
        repeat' (first | with_reducible refine iteI (fun _ => ?_) (fun _ => ?_) | ((first | unfold AOpsC | unfold AOpsD | skip); simp (maxSteps := 1000000) (disch := (first | omega | assumption | (simp only [List.length_append, List.length_cons, List.length_nil, List.length_set]; omega))) only [go_sem, ↓skipC, ↓exitC, ↓retC, ↓seqC, ↓blockC, ↓condC, ↓regC, ↓drawC, ↓drawStep, ↓AOpC, ↓AOpF, ↓AOpE, ↓AEff, ↓contE_at, ↓contC_at, ↓keepC_at, ↓keepW_at, ↓keepO_at, ↓map_parts, ↓reduceIte, reduceCtorEq, Nat.reduceLT, Nat.reduceEqDiff, Nat.reduceAdd, Nat.reduceMul, Nat.reduceLeDiff, Nat.reduceSub, Nat.reduceBEq, Nat.reduceBNe, Nat.reduceBneDiff, Nat.reduceBeqDiff, ag_39, by_39, nf_39, pl_39, ps_39, sz_39, ze_39, Sp17, t3, t4, t5, l3]))
        refine ⟨⟨i + 1, d0, d1, d2, d3, a0, a1, a2, a3, H4, by omega, hN4.g0, hN4.g1, hN4.g2, hN4.g3, by rw [g5, hs, show 5 - (i + 1) = 4 - i by omega], rfl, by simp [upd, t3], by simp [upd, t4], by simp [upd], by simp [upd], rfl⟩, by simp [ctr, upd, t5]; omega⟩
      · rw [hq] at hs
        simp only [if_true] at hs
        rw [hs] at g5
        generalize srN r l ms ts bs 0 5 = sn at *
        repeat' (first | with_reducible refine iteI (fun _ => ?_) (fun _ => ?_) | ((first | unfold AOpsC | unfold AOpsD | skip); simp (maxSteps := 1000000) (disch := (first | omega | assumption | (simp only [List.length_append, List.length_cons, List.length_nil, List.length_set]; omega))) only [go_sem, ↓skipC, ↓exitC, ↓retC, ↓seqC, ↓blockC, ↓condC, ↓regC, ↓drawC, ↓drawStep, ↓AOpC, ↓AOpF, ↓AOpE, ↓AEff, ↓contE_at, ↓contC_at, ↓keepC_at, ↓keepW_at, ↓keepO_at, ↓map_parts, ↓reduceIte, reduceCtorEq, Nat.reduceLT, Nat.reduceEqDiff, Nat.reduceAdd, Nat.reduceMul, Nat.reduceLeDiff, Nat.reduceSub, Nat.reduceBEq, Nat.reduceBNe, Nat.reduceBneDiff, Nat.reduceBeqDiff, ag_39, by_39, nf_39, pl_39, ps_39, sz_39, ze_39, Sp17, t3, t4, t5, l3]))
        exact hK _
    · obtain rfl : i = 5 := by omega
      have g5' : srN r l ms ts bs 0 5 = -1 := by rw [g5, Nat.sub_self, srN]
      generalize srN r l ms ts bs 0 5 = sn at *
      repeat' (first | with_reducible refine iteI (fun _ => ?_) (fun _ => ?_) | ((first | unfold AOpsC | unfold AOpsD | skip); simp (maxSteps := 1000000) (disch := (first | omega | assumption | (simp only [List.length_append, List.length_cons, List.length_nil, List.length_set]; omega))) only [go_sem, ↓skipC, ↓exitC, ↓retC, ↓seqC, ↓blockC, ↓condC, ↓regC, ↓drawC, ↓drawStep, ↓AOpC, ↓AOpF, ↓AOpE, ↓AEff, ↓contE_at, ↓contC_at, ↓keepC_at, ↓keepW_at, ↓keepO_at, ↓map_parts, ↓reduceIte, reduceCtorEq, Nat.reduceLT, Nat.reduceEqDiff, Nat.reduceAdd, Nat.reduceMul, Nat.reduceLeDiff, Nat.reduceSub, Nat.reduceBEq, Nat.reduceBNe, Nat.reduceBneDiff, Nat.reduceBeqDiff, ag_39, by_39, nf_39, pl_39, ps_39, sz_39, ze_39, Sp17, t3, t4, t5, l3]))
      exact hK _
  · exact h.elim

/- the law -/
theorem law_ok {blks : List Blk} {x0 : AV} (s0 : AvSh blks (.rows 5 1 .u8) x0) : AF Try.prog blks.length 17 [x0] blks fun v _ => v = .bool true := by
  obtain ⟨l, hl, hlm⟩ := row8 s0
  exact f17_ok (show SDL blks.length _ _ _ from ⟨l, hl, hlm, fun _ => rfl⟩)

end Go.Proofs.Ytffefndnnbcplaa
