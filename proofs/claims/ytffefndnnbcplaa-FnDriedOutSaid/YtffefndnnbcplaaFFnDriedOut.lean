/- What functions of the program compute, said in the abstract logic; no conditions. -/
import Derived.Test.YtffefndnnbcplaaGBase
import Derived.Test.YtffefndnnbcplaaGIn
import Derived.Test.YtffefndnnbcplaaGDraw
import Derived.Test.YtffefndnnbcplaaGMesh
import Derived.Test.YtffefndnnbcplaaGIds
import Derived.Test.YtffefndnnbcplaaGEv
import Derived.Test.YtffefndnnbcplaaGRes
import Derived.Test.YtffefndnnbcplaaGBal
import Derived.Test.YtffefndnnbcplaaGCost
import Derived.Test.YtffefndnnbcplaaGMeshN
import Derived.Test.YtffefndnnbcplaaGDrawM
import Derived.Test.YtffefndnnbcplaaGDrawN
import Derived.Test.YtffefndnnbcplaaGIdx
import Derived.Test.YtffefndnnbcplaaGState
import Derived.Test.YtffefndnnbcplaaGCopy
import Derived.Test.YtffefndnnbcplaaGBalc
import Derived.Test.YtffefndnnbcplaaGBalw
import Derived.Test.YtffefndnnbcplaaGInts
import Derived.Test.YtffefndnnbcplaaGStTo
import Derived.Test.YtffefndnnbcplaaGResS
import Derived.Test.YtffefndnnbcplaaGOwn
import Derived.Test.YtffefndnnbcplaaGDrawS
import Derived.Test.YtffefndnnbcplaaGDLaw
import Derived.Test.YtffefndnnbcplaaGDiv
import Derived.Test.YtffefndnnbcplaaGShare
import Derived.Test.YtffefndnnbcplaaGFlux
import Derived.Test.YtffefndnnbcplaaGFlux2
import Derived.Test.YtffefndnnbcplaaGOut
import Derived.Test.YtffefndnnbcplaaGRem
import Derived.Test.YtffefndnnbcplaaGGreat
import Derived.Test.YtffefndnnbcplaaGDry
import Derived.Test.YtffefndnnbcplaaGSoakP

namespace Go.Proofs.Ytffefndnnbcplaa
open Go
set_option linter.unusedSimpArgs false
set_option linter.unusedVariables false
set_option maxRecDepth 100000
set_option maxHeartbeats 8000000
attribute [local go_sem] st0 AC thenA andC locLoadB KsSW_same KsSW_grow pv ev put upd dstOk cv cvc binI setB Value.oneCell' EndA resA resA1 List.mapM_cons List.mapM_nil Option.pure_def Option.bind_eq_bind noLocV noLoc1 noLoc noLocs plainV cellsA newVarA putCells condA lam0 inBlockA cur lenA rowA avoidsB avoidB clearB Array.toList_append Op.operands Call.operands newSlot Nat.zero_add Nat.add_zero Nat.succ_ne_self Nat.lt_add_one Nat.zero_lt_succ true_and and_true true_or or_true false_or or_false and_self true_implies forall_const Bool.false_eq_true Bool.true_eq_false false_implies implies_true imp_self ne_eq not_false_eq_true not_true_eq_false false_and and_false List.getElem?_toArray List.getElem?_cons_succ List.getElem?_cons_zero Option.bind_some Option.map_some Bool.not_true Bool.not_false List.getD_cons_zero List.getD_cons_succ Option.some.injEq exists_eq_left' AV.bool.injEq List.map_cons List.map_nil List.all_cons List.all_nil Bool.and_self Bool.and_true Bool.true_and List.append_nil List.cons_append List.nil_append List.length_cons List.length_nil List.drop_zero List.take_zero List.drop_succ_cons List.take_succ_cons List.take_nil List.drop_nil List.not_mem_nil List.mem_cons List.contains_nil List.contains_cons Bool.or_self Bool.or_true Bool.true_or Bool.false_or Bool.or_false Bool.and_false Bool.false_and KsS_same KsS_grow skipV KsS_ext KsSW_ext rep1 rep2 rep3 rep4 rep5 List.flatten_cons List.flatten_nil partsA isPtr fillA List.size_toArray ltT ltF leT leF ltTn ltFn leTn leFn eqTi eqFi wrapId toNat1 intGet boolGet memD app_get app_last app_lst app_set app_setL app_setF set_ne set_eq gt_iff_lt ge_iff_le decide_eq_true_eq len2 len3 get20 get21 drop2 put2 get30 get31 get32 drop3 put3 putI pairEta bneTi bneFi beqTi beqFi bne_eq_false_iff_eq beq_eq_false_iff_ne beq_iff_eq bne_iff_ne Int.toNat_natCast Nat.mul_one List.length_map Bool.not_eq_true Bool.not_eq_false Bool.decide_eq_true decide_true decide_false Bool.not_eq_true' Bool.not_eq_false' decide_eq_false_iff_not eq_self Decidable.not_not

theorem mapR_get (f : Nat → Int) {n i : Nat} (h : i < n) : ((List.range n).map f).getD i 0 = f i := by
  simp [List.getD_eq_getElem?_getD, List.getElem?_map, List.getElem?_range h]
theorem sk_zero {l : List Id3} {ms ts : List Int} {y : Int} {i : Nat} (hm : 0 ≤ ms.getD i 0 ∧ ms.getD i 0 ≤ 10000000) (ht : 0 ≤ ts.getD i 0 ∧ ts.getD i 0 ≤ 1000 * ms.getD i 0) (hp : 0 ≤ prtF l y i) :
    (skM' l ms y i = 0 ↔ ms.getD i 0 ≤ prtF l y i) ∧ (skM' l ms y i = 0 → skT' l ms ts y i = 0) := by
  have h1 : skM' l ms y i = 0 ↔ ms.getD i 0 ≤ prtF l y i := by
    unfold skM' skF
    split <;> omega
  refine ⟨h1, fun h => ?_⟩
  have h2 := h1.1 h
  have e : skF l ms y i = ms.getD i 0 := by
    unfold skF
    split <;> omega
  unfold skT' skT
  rw [e]
  generalize ms.getD i 0 = m at *
  generalize ts.getD i 0 = t at *
  unfold shareO
  by_cases h0 : m = 0
  · subst h0
    rw [if_neg (by simp [inB])]
    omega
  · rw [if_pos (by simp [inB]; omega), Int.mul_tdiv_cancel _ h0]
    omega

def invL (η : List Blk) (s x : List AV) (y : Int) (l : List Id3) (ms : List Int) (vp : AV) (st : St) : Prop := ∃ i : Nat, (i ≤ ms.length) ∧ st.n = 83 ∧ st.τ 3 = .loc 3 1 0 ∧ st.τ 4 = vp ∧ st.τ 5 = .loc 5 1 0 ∧ st.τ 7 = .int .i64 (dry y l ms i) ∧ st.τ 8 = .int .i64 i ∧ st.lam 3 = ⟨1, s⟩ ∧ st.lam 5 = ⟨1, x⟩ ∧ st.η = η

/- laws.FnDriedOut -/
def Sp7 (lo : Nat) : Spec := fun g args η K => match g with | 22 => SBig lo args η K | 24 => SPlaces lo args η K | 32 => SDrawS lo args η K | 39 => SSkS args η K | 40 => SDry args η K | _ => False
theorem Sp7_ok {lo : Nat} : Sound Try.prog lo (Sp7 lo) := by
  intro g args η K h
  unfold Sp7 at h
  split at h
  · exact f22_ok h
  · exact f24_ok h
  · exact f32_ok h
  · exact f39_ok h
  · exact f40_ok h
  · exact h.elim
def D7 : Draws := fun id => match id with | 5 => ([0, 0, 2, 6, 15, 31, 63, 63, 0, 0, 895, 2047], [], [(0, 5), (1, 5), (2, 5), (3, 5), (4, 5), (5, 5), (6, 5), (7, 5), (9, 5), (0, 6), (1, 6), (2, 6), (3, 6), (4, 6), (5, 6), (6, 6), (7, 6)], (.one 8 (.one 9 (.one 0 (.one 1 (.one 2 (.one 3 (.one 4 (.one 5 (.one 6 (.one 7 (.one 10 (.one 11 .nil))))))))))))) | 14 => ([0, 1, 3, 0, 8, 24, 63, 127, 255, 255, 767, 1791, 4095, 255, 16383, 32767, 65535], [12], [], (.one 0 (.one 1 (.one 2 (.one 3 (.one 4 (.one 5 (.one 6 (.one 7 (.one 8 (.one 9 (.one 10 (.one 11 (.one 13 (.one 12 (.one 14 (.one 15 (.one 16 .nil)))))))))))))))))) | _ => ([], [], [], .nil)
theorem f7_ok {lo : Nat} {args : List AV} {η : List Blk} {K : AV → List Blk → Prop} (h : SDL lo args η K) : AF Try.prog lo 7 args η K := by
  unfold SDL at h
  split at h
  · obtain ⟨g, hr, hml, hK⟩ := h
    have hn := (noLoc8 hr).1
    refine AF_run Sp7_ok D7 [] [.tmp 2] hm Try.func7 rfl (by decide) Try.ntmps7 rfl (by kernel_rfl) (Nat.le_of_ble_eq_true rfl) ?_; intro hlo
    repeat' (first | with_reducible refine iteI (fun _ => ?_) (fun _ => ?_) | ((first | unfold AOpsC | unfold AOpsD | skip); simp (maxSteps := 1000000) (disch := (first | omega | assumption | (simp only [List.length_append, List.length_cons, List.length_nil, List.length_set]; omega))) only [go_sem, ↓skipC, ↓exitC, ↓retC, ↓seqC, ↓blockC, ↓condC, ↓regC, ↓drawC, ↓drawStep, ↓AOpC, ↓AOpF, ↓AOpE, ↓AEff, ↓contE_at, ↓contC_at, ↓keepC_at, ↓keepW_at, ↓map_parts, ↓reduceIte, reduceCtorEq, Nat.reduceLT, Nat.reduceEqDiff, Nat.reduceAdd, Nat.reduceMul, Nat.reduceLeDiff, Nat.reduceSub, Nat.reduceBEq, Nat.reduceBNe, Nat.reduceBneDiff, Nat.reduceBeqDiff, ag_28, ag_3, ag_39, ag_48, by_28, by_3, by_39, by_48, el_28, fi_39_1, fi_39_2, in_3, nf_39, nf_48, pl_39, pl_48, ps_39, ps_48, sz_28, sz_3, sz_39, sz_48, ze_28, ze_3, ze_39, ze_48, Sp7, SDry, D7, ↓hn]))
    unfold SBig
    refine ⟨g, hr, hml, ?_⟩
    by_cases hl : (1048576 : Int) < g.length
    · repeat' (first | with_reducible refine iteI (fun _ => ?_) (fun _ => ?_) | ((first | unfold AOpsC | unfold AOpsD | skip); simp (maxSteps := 1000000) (disch := (first | omega | assumption | (simp only [List.length_append, List.length_cons, List.length_nil, List.length_set]; omega))) only [go_sem, ↓skipC, ↓exitC, ↓retC, ↓seqC, ↓blockC, ↓condC, ↓regC, ↓drawC, ↓drawStep, ↓AOpC, ↓AOpF, ↓AOpE, ↓AEff, ↓contE_at, ↓contC_at, ↓keepC_at, ↓keepW_at, ↓map_parts, ↓reduceIte, reduceCtorEq, Nat.reduceLT, Nat.reduceEqDiff, Nat.reduceAdd, Nat.reduceMul, Nat.reduceLeDiff, Nat.reduceSub, Nat.reduceBEq, Nat.reduceBNe, Nat.reduceBneDiff, Nat.reduceBeqDiff, ag_28, ag_3, ag_39, ag_48, by_28, by_3, by_39, by_48, el_28, fi_39_1, fi_39_2, in_3, nf_39, nf_48, pl_39, pl_48, ps_39, ps_48, sz_28, sz_3, sz_39, sz_48, ze_28, ze_3, ze_39, ze_48, Sp7, SDry, D7, ↓hn, hl]))
      exact hK _
    repeat' (first | with_reducible refine iteI (fun _ => ?_) (fun _ => ?_) | ((first | unfold AOpsC | unfold AOpsD | skip); simp (maxSteps := 1000000) (disch := (first | omega | assumption | (simp only [List.length_append, List.length_cons, List.length_nil, List.length_set]; omega))) only [go_sem, ↓skipC, ↓exitC, ↓retC, ↓seqC, ↓blockC, ↓condC, ↓regC, ↓drawC, ↓drawStep, ↓AOpC, ↓AOpF, ↓AOpE, ↓AEff, ↓contE_at, ↓contC_at, ↓keepC_at, ↓keepW_at, ↓map_parts, ↓reduceIte, reduceCtorEq, Nat.reduceLT, Nat.reduceEqDiff, Nat.reduceAdd, Nat.reduceMul, Nat.reduceLeDiff, Nat.reduceSub, Nat.reduceBEq, Nat.reduceBNe, Nat.reduceBneDiff, Nat.reduceBeqDiff, ag_28, ag_3, ag_39, ag_48, by_28, by_3, by_39, by_48, el_28, fi_39_1, fi_39_2, in_3, nf_39, nf_48, pl_39, pl_48, ps_39, ps_48, sz_28, sz_3, sz_39, sz_48, ze_28, ze_3, ze_39, ze_48, Sp7, SDry, D7, ↓hn, hl]))
    unfold SDrawS
    refine ⟨g, hr, hml, fun HS r l ms ts bs b0 b1 b2 b3 v0 v1 v2 v3 hd hN hx => ?_⟩
    have e1 := hd.1
    obtain ⟨k1, k2, k3, k4, k5, k6, k7, k8⟩ := okT e1
    have hln := mesh_len k1
    have hne := mesh_ne k1
    have hr3 := hd.2.1
    replace hr := hr.ext hx
    have w0 := hN.g0
    have w1 := hN.g1
    have w2 := hN.g2
    have w3 := hN.g3
    have D1 : dec3 45 HS (.sl b0 v0 0 l.length) = l := IsR.dec3 ⟨b0, v0, rfl, w0⟩
    have D2 : decI HS (.sl b1 v1 0 ms.length) = ms := IsI.dec ⟨b1, v1, rfl, w1⟩
    have D3 : decI HS (.sl b2 v2 0 ts.length) = ts := IsI.dec ⟨b2, v2, rfl, w2⟩
    have D4 : decI HS (.sl b3 v3 0 bs.length) = bs := IsI.dec ⟨b3, v3, rfl, w3⟩
    have O1 : ok3 45 HS (.sl b0 v0 0 l.length) := ⟨l, ⟨b0, v0, rfl, w0⟩, by omega⟩
    have O2 : okI HS (.sl b1 v1 0 ms.length) := ⟨ms, ⟨b1, v1, rfl, w1⟩, by omega⟩
    have O3 : okI HS (.sl b2 v2 0 ts.length) := ⟨ts, ⟨b2, v2, rfl, w2⟩, by omega⟩
    have O4 : okI HS (.sl b3 v3 0 bs.length) := ⟨bs, ⟨b3, v3, rfl, w3⟩, by omega⟩
    repeat' (first | with_reducible refine iteI (fun _ => ?_) (fun _ => ?_) | ((first | unfold AOpsC | unfold AOpsD | skip); simp (maxSteps := 1000000) (disch := (first | omega | assumption | (simp only [List.length_append, List.length_cons, List.length_nil, List.length_set]; omega))) only [go_sem, ↓skipC, ↓exitC, ↓retC, ↓seqC, ↓blockC, ↓condC, ↓regC, ↓drawC, ↓drawStep, ↓AOpC, ↓AOpF, ↓AOpE, ↓AEff, ↓contE_at, ↓contC_at, ↓keepC_at, ↓keepW_at, ↓map_parts, ↓reduceIte, reduceCtorEq, Nat.reduceLT, Nat.reduceEqDiff, Nat.reduceAdd, Nat.reduceMul, Nat.reduceLeDiff, Nat.reduceSub, Nat.reduceBEq, Nat.reduceBNe, Nat.reduceBneDiff, Nat.reduceBeqDiff, ag_28, ag_3, ag_39, ag_48, by_28, by_3, by_39, by_48, el_28, fi_39_1, fi_39_2, in_3, nf_39, nf_48, pl_39, pl_48, ps_39, ps_48, sz_28, sz_3, sz_39, sz_48, ze_28, ze_3, ze_39, ze_48, Sp7, SDry, D7, ↓hn, w0, w1, w2, w3, D1, D2, D3, D4, O1, O2, O3, O4, e1]))
    unfold SPlaces
    refine ⟨g, hr, hml, fun vp HP ps hps hall hi hext => ?_⟩
    obtain ⟨bp, wp, rfl, hbp⟩ := hi
    replace hr := hr.ext hext
    have hpx : ∀ i, i < 12 → 0 ≤ ps.getD i 0 ∧ ps.getD i 0 < 10000 := fun i hi => hall _ (of_eq_true (memD (by omega)))
    replace hN := hN.ext hext
    clear w0 w1 w2 w3 D1 D2 D3 D4 O1 O2 O3 O4
    have w0 := hN.g0
    have w1 := hN.g1
    have w2 := hN.g2
    have w3 := hN.g3
    have D1 : dec3 45 HP (.sl b0 v0 0 l.length) = l := IsR.dec3 ⟨b0, v0, rfl, w0⟩
    have D2 : decI HP (.sl b1 v1 0 ms.length) = ms := IsI.dec ⟨b1, v1, rfl, w1⟩
    have D3 : decI HP (.sl b2 v2 0 ts.length) = ts := IsI.dec ⟨b2, v2, rfl, w2⟩
    have D4 : decI HP (.sl b3 v3 0 bs.length) = bs := IsI.dec ⟨b3, v3, rfl, w3⟩
    have O1 : ok3 45 HP (.sl b0 v0 0 l.length) := ⟨l, ⟨b0, v0, rfl, w0⟩, by omega⟩
    have O2 : okI HP (.sl b1 v1 0 ms.length) := ⟨ms, ⟨b1, v1, rfl, w1⟩, by omega⟩
    have O3 : okI HP (.sl b2 v2 0 ts.length) := ⟨ts, ⟨b2, v2, rfl, w2⟩, by omega⟩
    have O4 : okI HP (.sl b3 v3 0 bs.length) := ⟨bs, ⟨b3, v3, rfl, w3⟩, by omega⟩
    have x0 := hpx 0 (by omega)
    repeat' (first | with_reducible refine iteI (fun _ => ?_) (fun _ => ?_) | ((first | unfold AOpsC | unfold AOpsD | skip); simp (maxSteps := 1000000) (disch := (first | omega | assumption | (simp only [List.length_append, List.length_cons, List.length_nil, List.length_set]; omega))) only [go_sem, ↓skipC, ↓exitC, ↓retC, ↓seqC, ↓blockC, ↓condC, ↓regC, ↓drawC, ↓drawStep, ↓AOpC, ↓AOpF, ↓AOpE, ↓AEff, ↓contE_at, ↓contC_at, ↓keepC_at, ↓keepW_at, ↓map_parts, ↓reduceIte, reduceCtorEq, Nat.reduceLT, Nat.reduceEqDiff, Nat.reduceAdd, Nat.reduceMul, Nat.reduceLeDiff, Nat.reduceSub, Nat.reduceBEq, Nat.reduceBNe, Nat.reduceBneDiff, Nat.reduceBeqDiff, ag_28, ag_3, ag_39, ag_48, by_28, by_3, by_39, by_48, el_28, fi_39_1, fi_39_2, in_3, nf_39, nf_48, pl_39, pl_48, ps_39, ps_48, sz_28, sz_3, sz_39, sz_48, ze_28, ze_3, ze_39, ze_48, Sp7, SDry, D7, w0, w1, w2, w3, D1, D2, D3, D4, O1, O2, O3, O4, e1, hbp, Int.reduceToNat, Int.toNat_zero, Int.toNat_one, Nat.zero_mul, Nat.one_mul]))
    have hy0 : ps.getD 0 0 = ps.getD 0 0 := rfl
    generalize hy : ps.getD 0 0 = y at *
    unfold SSkS
    simp only [w0, w1, w2, w3, D1, D2, D3, D4, O1, O2, O3, O4, true_and, and_self]
    refine fun H1 c0 c1 c2 c3 u0 u1 u2 u3 hM xu => ?_
    have hiy : inB y 0 10000 = true := by simp only [inB, Bool.and_eq_true, decide_eq_true_eq]; omega
    have hB : wSkB r l ms ts bs y = true := by simp [wSkB, e1, hiy]
    have z0 : wSkM r l ms ts bs y = nSkM l ms ts y := if_pos hB
    have z1 : wSkT r l ms ts bs y = nSkT l ms ts y := if_pos hB
    rw [z0, z1] at hM ⊢
    have hN1 := hN.ext xu
    have hbp1 := xu.blk hbp
    have q1 := hM.g1
    have q2 := hM.g2
    have ml := nSkM_len l ms ts y
    have tl := nSkT_len l ms ts y
    have hMg := fun i (h : i < ms.length) => (show (nSkM l ms ts y).getD i 0 = skM' l ms y i from mapR_get _ h)
    have hTg := fun i (h : i < ts.length) => (show (nSkT l ms ts y).getD i 0 = skT' l ms ts y i from mapR_get _ h)
    generalize nSkM l ms ts y = M at *
    generalize nSkT l ms ts y = T at *
    clear w0 w1 w2 w3 D1 D2 D3 D4 O1 O2 O3 O4 hbp
    have w0 := hN1.g0
    have w1 := hN1.g1
    have w2 := hN1.g2
    have w3 := hN1.g3
    have D1 : dec3 45 H1 (.sl b0 v0 0 l.length) = l := IsR.dec3 ⟨b0, v0, rfl, w0⟩
    have D2 : decI H1 (.sl b1 v1 0 ms.length) = ms := IsI.dec ⟨b1, v1, rfl, w1⟩
    have D3 : decI H1 (.sl b2 v2 0 ts.length) = ts := IsI.dec ⟨b2, v2, rfl, w2⟩
    have D4 : decI H1 (.sl b3 v3 0 bs.length) = bs := IsI.dec ⟨b3, v3, rfl, w3⟩
    have O1 : ok3 45 H1 (.sl b0 v0 0 l.length) := ⟨l, ⟨b0, v0, rfl, w0⟩, by omega⟩
    have O2 : okI H1 (.sl b1 v1 0 ms.length) := ⟨ms, ⟨b1, v1, rfl, w1⟩, by omega⟩
    have O3 : okI H1 (.sl b2 v2 0 ts.length) := ⟨ts, ⟨b2, v2, rfl, w2⟩, by omega⟩
    have O4 : okI H1 (.sl b3 v3 0 bs.length) := ⟨bs, ⟨b3, v3, rfl, w3⟩, by omega⟩
    repeat' (first | with_reducible refine iteI (fun _ => ?_) (fun _ => ?_) | ((first | unfold AOpsC | unfold AOpsD | skip); simp (maxSteps := 1000000) (disch := (first | omega | assumption | (simp only [List.length_append, List.length_cons, List.length_nil, List.length_set]; omega))) only [go_sem, ↓skipC, ↓exitC, ↓retC, ↓seqC, ↓blockC, ↓condC, ↓regC, ↓drawC, ↓drawStep, ↓AOpC, ↓AOpF, ↓AOpE, ↓AEff, ↓contE_at, ↓contC_at, ↓keepC_at, ↓keepW_at, ↓map_parts, ↓reduceIte, reduceCtorEq, Nat.reduceLT, Nat.reduceEqDiff, Nat.reduceAdd, Nat.reduceMul, Nat.reduceLeDiff, Nat.reduceSub, Nat.reduceBEq, Nat.reduceBNe, Nat.reduceBneDiff, Nat.reduceBeqDiff, ag_28, ag_3, ag_39, ag_48, by_28, by_3, by_39, by_48, el_28, fi_39_1, fi_39_2, in_3, nf_39, nf_48, pl_39, pl_48, ps_39, ps_48, sz_28, sz_3, sz_39, sz_48, ze_28, ze_3, ze_39, ze_48, Sp7, SDry, D7, w0, w1, w2, w3, D1, D2, D3, D4, O1, O2, O3, O4, q1, q2]))
    refine ⟨invL H1 [.int .i64 r, .sl b0 v0 0 l.length, .sl b1 v1 0 ms.length, .sl b2 v2 0 ts.length, .sl b3 v3 0 bs.length] [.int .i64 r, .sl c0 u0 0 l.length, .sl c1 u1 0 M.length, .sl c2 u2 0 T.length, .sl c3 u3 0 bs.length] y l ms (.sl bp wp 0 ps.length), fun st => ctr ms.length st 8, .inl ⟨0, Nat.zero_le _, rfl, (by first | (simp [upd]; done) | (simp [upd, *]; done) | rfl), (by first | (simp [upd]; done) | (simp [upd, *]; done) | rfl), (by first | (simp [upd]; done) | (simp [upd, *]; done) | rfl), (by first | (simp [upd]; done) | (simp [upd, *]; done) | rfl), (by first | (simp [upd]; done) | (simp [upd, *]; done) | rfl), (by first | (simp [upd]; done) | (simp [upd, *]; done) | rfl), (by first | (simp [upd]; done) | (simp [upd, *]; done) | rfl), rfl⟩, ?_⟩
    rintro ⟨n, τ, lam, η'⟩ ⟨i, g0, hn, t3, t4, t5, t7, t8, l3, l5, hη⟩; simp only at hn t3 t4 t5 t7 t8 l3 l5 hη; subst hn hη
    have db := dry_bd y l ms i
    by_cases hlt : i < ms.length
    · have m1 := cells_at k7 (i := i) (by omega)
      have pb : 0 ≤ prtF l y i ∧ prtF l y i ≤ 160000 := (part_bd (a := y) (by omega) (l.getD i (0, 0, 0)).2.1).2.2
      obtain ⟨s1, s2⟩ := sk_zero (l := l) (ms := ms) (ts := ts) (y := y) (i := i) (by omega) (by omega) pb.1
      have hM1 := hMg i hlt
      have hT1 := hTg i (by omega)
      have hd : dry y l ms (i + 1) = if 0 < ms.getD i 0 ∧ ms.getD i 0 ≤ prtF l y i then dry y l ms i + 1 else dry y l ms i := rfl
      generalize skM' l ms y i = a at *
      generalize skT' l ms ts y i = b at *
      by_cases c1 : 0 < ms.getD i 0 <;> by_cases c2 : a = 0
      · have hb := s2 c2
        rw [if_pos ⟨c1, s1.1 c2⟩] at hd
        repeat' (first | with_reducible refine iteI (fun _ => ?_) (fun _ => ?_) | ((first | unfold AOpsC | unfold AOpsD | skip); simp (maxSteps := 1000000) (disch := (first | omega | assumption | (simp only [List.length_append, List.length_cons, List.length_nil, List.length_set]; omega))) only [go_sem, ↓skipC, ↓exitC, ↓retC, ↓seqC, ↓blockC, ↓condC, ↓regC, ↓drawC, ↓drawStep, ↓AOpC, ↓AOpF, ↓AOpE, ↓AEff, ↓contE_at, ↓contC_at, ↓keepC_at, ↓keepW_at, ↓map_parts, ↓reduceIte, reduceCtorEq, Nat.reduceLT, Nat.reduceEqDiff, Nat.reduceAdd, Nat.reduceMul, Nat.reduceLeDiff, Nat.reduceSub, Nat.reduceBEq, Nat.reduceBNe, Nat.reduceBneDiff, Nat.reduceBeqDiff, ag_28, ag_3, ag_39, ag_48, by_28, by_3, by_39, by_48, el_28, fi_39_1, fi_39_2, in_3, nf_39, nf_48, pl_39, pl_48, ps_39, ps_48, sz_28, sz_3, sz_39, sz_48, ze_28, ze_3, ze_39, ze_48, Sp7, SDry, D7, w0, w1, w2, w3, D1, D2, D3, D4, O1, O2, O3, O4, q1, q2, t3, t4, t5, t7, t8, l3, l5, hM1, hT1, c1, c2, hb]))
        rw [← hd]
        refine ⟨⟨i + 1, hlt, rfl, (by simp [upd, t3, t4, t5, t7, t8]), (by simp [upd, t3, t4, t5, t7, t8]), (by simp [upd, t3, t4, t5, t7, t8]), (by simp [upd, t3, t4, t5, t7, t8]), (by simp [upd, t3, t4, t5, t7, t8]), (by simp [upd, l3, l5]), (by simp [upd, l3, l5]), rfl⟩, (by simp [ctr, upd, t3, t4, t5, t7, t8]; omega)⟩
      · rw [if_neg (fun e => c2 (s1.2 e.2))] at hd
        repeat' (first | with_reducible refine iteI (fun _ => ?_) (fun _ => ?_) | ((first | unfold AOpsC | unfold AOpsD | skip); simp (maxSteps := 1000000) (disch := (first | omega | assumption | (simp only [List.length_append, List.length_cons, List.length_nil, List.length_set]; omega))) only [go_sem, ↓skipC, ↓exitC, ↓retC, ↓seqC, ↓blockC, ↓condC, ↓regC, ↓drawC, ↓drawStep, ↓AOpC, ↓AOpF, ↓AOpE, ↓AEff, ↓contE_at, ↓contC_at, ↓keepC_at, ↓keepW_at, ↓map_parts, ↓reduceIte, reduceCtorEq, Nat.reduceLT, Nat.reduceEqDiff, Nat.reduceAdd, Nat.reduceMul, Nat.reduceLeDiff, Nat.reduceSub, Nat.reduceBEq, Nat.reduceBNe, Nat.reduceBneDiff, Nat.reduceBeqDiff, ag_28, ag_3, ag_39, ag_48, by_28, by_3, by_39, by_48, el_28, fi_39_1, fi_39_2, in_3, nf_39, nf_48, pl_39, pl_48, ps_39, ps_48, sz_28, sz_3, sz_39, sz_48, ze_28, ze_3, ze_39, ze_48, Sp7, SDry, D7, w0, w1, w2, w3, D1, D2, D3, D4, O1, O2, O3, O4, q1, q2, t3, t4, t5, t7, t8, l3, l5, hM1, hT1, c1, c2]))
        rw [← hd] at t7
        refine ⟨⟨i + 1, hlt, rfl, (by simp [upd, t3, t4, t5, t7, t8]), (by simp [upd, t3, t4, t5, t7, t8]), (by simp [upd, t3, t4, t5, t7, t8]), (by simp [upd, t3, t4, t5, t7, t8]), (by simp [upd, t3, t4, t5, t7, t8]), (by simp [upd, l3, l5]), (by simp [upd, l3, l5]), rfl⟩, (by simp [ctr, upd, t3, t4, t5, t7, t8]; omega)⟩
      · have hb := s2 c2
        rw [if_neg (fun e => c1 e.1)] at hd
        repeat' (first | with_reducible refine iteI (fun _ => ?_) (fun _ => ?_) | ((first | unfold AOpsC | unfold AOpsD | skip); simp (maxSteps := 1000000) (disch := (first | omega | assumption | (simp only [List.length_append, List.length_cons, List.length_nil, List.length_set]; omega))) only [go_sem, ↓skipC, ↓exitC, ↓retC, ↓seqC, ↓blockC, ↓condC, ↓regC, ↓drawC, ↓drawStep, ↓AOpC, ↓AOpF, ↓AOpE, ↓AEff, ↓contE_at, ↓contC_at, ↓keepC_at, ↓keepW_at, ↓map_parts, ↓reduceIte, reduceCtorEq, Nat.reduceLT, Nat.reduceEqDiff, Nat.reduceAdd, Nat.reduceMul, Nat.reduceLeDiff, Nat.reduceSub, Nat.reduceBEq, Nat.reduceBNe, Nat.reduceBneDiff, Nat.reduceBeqDiff, ag_28, ag_3, ag_39, ag_48, by_28, by_3, by_39, by_48, el_28, fi_39_1, fi_39_2, in_3, nf_39, nf_48, pl_39, pl_48, ps_39, ps_48, sz_28, sz_3, sz_39, sz_48, ze_28, ze_3, ze_39, ze_48, Sp7, SDry, D7, w0, w1, w2, w3, D1, D2, D3, D4, O1, O2, O3, O4, q1, q2, t3, t4, t5, t7, t8, l3, l5, hM1, hT1, c1, c2, hb]))
        rw [← hd] at t7
        refine ⟨⟨i + 1, hlt, rfl, (by simp [upd, t3, t4, t5, t7, t8]), (by simp [upd, t3, t4, t5, t7, t8]), (by simp [upd, t3, t4, t5, t7, t8]), (by simp [upd, t3, t4, t5, t7, t8]), (by simp [upd, t3, t4, t5, t7, t8]), (by simp [upd, l3, l5]), (by simp [upd, l3, l5]), rfl⟩, (by simp [ctr, upd, t3, t4, t5, t7, t8]; omega)⟩
      · exact absurd (s1.2 (by omega)) c2
    · obtain rfl : i = ms.length := by omega
      have hdr : dryR r l ms ts bs y = dry y l ms ms.length := if_pos ⟨e1, hiy⟩
      have hbp := hbp1
      repeat' (first | with_reducible refine iteI (fun _ => ?_) (fun _ => ?_) | ((first | unfold AOpsC | unfold AOpsD | skip); simp (maxSteps := 1000000) (disch := (first | omega | assumption | (simp only [List.length_append, List.length_cons, List.length_nil, List.length_set]; omega))) only [go_sem, ↓skipC, ↓exitC, ↓retC, ↓seqC, ↓blockC, ↓condC, ↓regC, ↓drawC, ↓drawStep, ↓AOpC, ↓AOpF, ↓AOpE, ↓AEff, ↓contE_at, ↓contC_at, ↓keepC_at, ↓keepW_at, ↓map_parts, ↓reduceIte, reduceCtorEq, Nat.reduceLT, Nat.reduceEqDiff, Nat.reduceAdd, Nat.reduceMul, Nat.reduceLeDiff, Nat.reduceSub, Nat.reduceBEq, Nat.reduceBNe, Nat.reduceBneDiff, Nat.reduceBeqDiff, ag_28, ag_3, ag_39, ag_48, by_28, by_3, by_39, by_48, el_28, fi_39_1, fi_39_2, in_3, nf_39, nf_48, pl_39, pl_48, ps_39, ps_48, sz_28, sz_3, sz_39, sz_48, ze_28, ze_3, ze_39, ze_48, Sp7, SDry, D7, w0, w1, w2, w3, D1, D2, D3, D4, O1, O2, O3, O4, e1, hbp, Int.reduceToNat, Int.toNat_zero, Int.toNat_one, Nat.zero_mul, Nat.one_mul, q1, q2, t3, t4, t5, t7, t8, l3, l5, hy, hdr]))
      exact hK _
  · exact h.elim

/- the law -/
theorem law_ok {blks : List Blk} {x0 : AV} (s0 : AvSh blks (.rows 5 1 .u8) x0) : AF Try.prog blks.length 7 [x0] blks fun v _ => v = .bool true := by
  obtain ⟨l, hl, hlm⟩ := row8 s0
  exact f7_ok (show SDL blks.length _ _ _ from ⟨l, hl, hlm, fun _ => rfl⟩)

end Go.Proofs.Ytffefndnnbcplaa
