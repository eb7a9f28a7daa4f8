/- What functions of the program compute, said in the abstract logic; no conditions. -/
import Derived.Test.YtffefndnnbcplaaGBase
import Derived.Test.YtffefndnnbcplaaGIn
import Derived.Test.YtffefndnnbcplaaGDraw
import Derived.Test.YtffefndnnbcplaaGMesh
import Derived.Test.YtffefndnnbcplaaGIds
import Derived.Test.YtffefndnnbcplaaGEv
import Derived.Test.YtffefndnnbcplaaGRes
import Derived.Test.YtffefndnnbcplaaGBal
import Derived.Test.YtffefndnnbcplaaGCost
import Derived.Test.YtffefndnnbcplaaGMeshN
import Derived.Test.YtffefndnnbcplaaGDrawM
import Derived.Test.YtffefndnnbcplaaGDrawN
import Derived.Test.YtffefndnnbcplaaGIdx
import Derived.Test.YtffefndnnbcplaaGState
import Derived.Test.YtffefndnnbcplaaGCopy
import Derived.Test.YtffefndnnbcplaaGBalc
import Derived.Test.YtffefndnnbcplaaGBalw
import Derived.Test.YtffefndnnbcplaaGInts
import Derived.Test.YtffefndnnbcplaaGStTo
import Derived.Test.YtffefndnnbcplaaGResS
import Derived.Test.YtffefndnnbcplaaGOwn
import Derived.Test.YtffefndnnbcplaaGDrawS
import Derived.Test.YtffefndnnbcplaaGDLaw
import Derived.Test.YtffefndnnbcplaaGDiv
import Derived.Test.YtffefndnnbcplaaGShare
import Derived.Test.YtffefndnnbcplaaGFlux
import Derived.Test.YtffefndnnbcplaaGFlux2
import Derived.Test.YtffefndnnbcplaaGSteep
import Derived.Test.YtffefndnnbcplaaGLedP
import Derived.Test.YtffefndnnbcplaaGGreat
import Derived.Test.YtffefndnnbcplaaGDry
import Derived.Test.YtffefndnnbcplaaGRainP
import Derived.Test.YtffefndnnbcplaaGOut
import Derived.Test.YtffefndnnbcplaaGRem
import Derived.Test.YtffefndnnbcplaaGSoakP
import Derived.Test.YtffefndnnbcplaaGLed

namespace Go.Proofs.Ytffefndnnbcplaa
open Go
set_option linter.unusedSimpArgs false
set_option linter.unusedVariables false
set_option maxRecDepth 100000
set_option maxHeartbeats 8000000
attribute [local go_sem] st0 AC thenA andC locLoadB KsSW_same KsSW_grow pv ev put upd dstOk cv cvc binI setB Value.oneCell' EndA resA resA1 List.mapM_cons List.mapM_nil Option.pure_def Option.bind_eq_bind noLocV noLoc1 noLoc noLocs plainV cellsA newVarA putCells condA lam0 inBlockA cur lenA rowA avoidsB avoidB clearB Array.toList_append Op.operands Call.operands newSlot Nat.zero_add Nat.add_zero Nat.succ_ne_self Nat.lt_add_one Nat.zero_lt_succ true_and and_true true_or or_true false_or or_false and_self true_implies forall_const Bool.false_eq_true Bool.true_eq_false false_implies implies_true imp_self ne_eq not_false_eq_true not_true_eq_false false_and and_false List.getElem?_toArray List.getElem?_cons_succ List.getElem?_cons_zero Option.bind_some Option.map_some Bool.not_true Bool.not_false List.getD_cons_zero List.getD_cons_succ Option.some.injEq exists_eq_left' AV.bool.injEq List.map_cons List.map_nil List.all_cons List.all_nil Bool.and_self Bool.and_true Bool.true_and List.append_nil List.cons_append List.nil_append List.length_cons List.length_nil List.drop_zero List.take_zero List.drop_succ_cons List.take_succ_cons List.take_nil List.drop_nil List.not_mem_nil List.mem_cons List.contains_nil List.contains_cons Bool.or_self Bool.or_true Bool.true_or Bool.false_or Bool.or_false Bool.and_false Bool.false_and KsS_same KsS_grow skipV KsS_ext KsSW_ext rep1 rep2 rep3 rep4 rep5 List.flatten_cons List.flatten_nil partsA isPtr fillA List.size_toArray ltT ltF leT leF ltTn ltFn leTn leFn eqTi eqFi wrapId toNat1 intGet boolGet memD app_get app_last app_lst app_set app_setL app_setF set_ne set_eq gt_iff_lt ge_iff_le decide_eq_true_eq len2 len3 get20 get21 drop2 put2 get30 get31 get32 drop3 put3 putI pairEta bneTi bneFi beqTi beqFi bne_eq_false_iff_eq beq_eq_false_iff_ne beq_iff_eq bne_iff_ne Int.toNat_natCast Nat.mul_one List.length_map Bool.not_eq_true Bool.not_eq_false Bool.decide_eq_true decide_true decide_false Bool.not_eq_true' Bool.not_eq_false' decide_eq_false_iff_not eq_self Decidable.not_not

theorem share_rest {t p m : Int} (hm : 0 ≤ m ∧ m ≤ 10000000) (ht : 0 ≤ t ∧ t ≤ 1000 * m) (hp : 0 ≤ p ∧ p ≤ m) : t - shareO t p m ≤ 1000 * (m - p) := by
  by_cases h0 : m = 0
  · have : shareO t p m = 0 := by rw [shareO, if_neg (by subst h0; simp [inB])]
    omega
  · have i1 : inB m 1 10000000 = true ∧ inB p 0 m = true ∧ inB t 0 (1000 * m) = true := by simp [inB]; omega
    rw [shareO, if_pos i1, Int.tdiv_eq_ediv_of_nonneg (Int.mul_nonneg ht.1 hp.1)]
    have h1 : t - 1000 * (m - p) ≤ t * p / m := by
      rw [Int.le_ediv_iff_mul_le (by omega)]
      have h2 := Int.mul_le_mul_of_nonneg_right ht.2 (show 0 ≤ m - p by omega)
      rw [Int.mul_sub] at h2
      rw [Int.sub_mul, show 1000 * (m - p) * m = 1000 * m * (m - p) by rw [Int.mul_assoc, Int.mul_assoc, Int.mul_comm (m - p) m]]
      omega
    omega
theorem soak_ok {r : Int} {l : List Id3} {ms ts bs : List Int} {y : Int} (e1 : okB r l ms ts bs = true) (hy : 0 ≤ y ∧ y ≤ 10000) :
    okB r l (nSkM l ms ts y) (nSkT l ms ts y) bs = true ∧ (nSkM l ms ts y).sum = ms.sum - sumN (skF l ms y) ms.length ∧ (nSkT l ms ts y).sum = ts.sum - sumN (skT l ms ts y) ms.length ∧ 0 ≤ sumN (skF l ms y) ms.length ∧ 0 ≤ sumN (skT l ms ts y) ms.length ∧ sumN (skF l ms y) ms.length ≤ ms.sum ∧ sumN (skT l ms ts y) ms.length ≤ ts.sum := by
  obtain ⟨k1, k2, k3, k4, k5, k6, k7, k8⟩ := okT e1
  have bd : ∀ i, i < ms.length → (0 ≤ prtF l y i ∧ prtF l y i ≤ 160000) ∧ (0 ≤ skF l ms y i ∧ skF l ms y i ≤ 160000 ∧ skF l ms y i ≤ ms.getD i 0) ∧ (0 ≤ skT l ms ts y i ∧ skT l ms ts y i ≤ 10000000000 ∧ skT l ms ts y i ≤ ts.getD i 0) := fun i hi => by
    have := cells_at k7 hi
    exact sk_bd hy (by omega) (by omega)
  have hl : ts.length = ms.length := by omega
  have s1 : (nSkM l ms ts y).sum = ms.sum - sumN (skF l ms y) ms.length := by
    unfold nSkM
    rw [sum_range, sum_getD ms]
    exact sumN_sub (fun i => ms.getD i 0) (skF l ms y) ms.length
  have s2 : (nSkT l ms ts y).sum = ts.sum - sumN (skT l ms ts y) ms.length := by
    unfold nSkT
    rw [sum_range, sum_getD ts, hl]
    exact sumN_sub (fun i => ts.getD i 0) (skT l ms ts y) ms.length
  have s3 := sumN_nn (f := skF l ms y) (n := ms.length) fun i hi => (bd i hi).2.1.1
  have s4 := sumN_nn (f := skT l ms ts y) (n := ms.length) fun i hi => (bd i hi).2.2.1
  have s5 : sumN (skF l ms y) ms.length ≤ ms.sum := by rw [sum_getD]; exact sumN_le fun i hi => (bd i hi).2.1.2.2
  have s6 : sumN (skT l ms ts y) ms.length ≤ ts.sum := by rw [sum_getD ts, hl]; exact sumN_le fun i hi => (bd i hi).2.2.2.2
  refine ⟨okB_new e1 (nSkM_len _ _ _ _) (nSkT_len _ _ _ _) (fun i hi => ?_) (by omega), s1, s2, s3, s4, s5, s6⟩
  have b := bd i hi
  have c := cells_at k7 hi
  have e : (nSkM l ms ts y).getD i 0 = skM' l ms y i := mapR_at _ hi
  have f : (nSkT l ms ts y).getD i 0 = skT' l ms ts y i := mapR_at _ (by omega)
  rw [e, f]
  have g := share_rest (t := ts.getD i 0) (p := skF l ms y i) (m := ms.getD i 0) (by omega) (by omega) (by omega)
  have hd : skT l ms ts y i = shareO (ts.getD i 0) (skF l ms y i) (ms.getD i 0) := rfl
  unfold skM' skT'
  omega
theorem rain_ok {r : Int} {l : List Id3} {ms ts bs : List Int} {y : Int} (e1 : okB r l ms ts bs = true) (hy : 0 ≤ y ∧ y ≤ 10000) (hl : l.length ≤ 48) (hs : ms.sum ≤ 1000000) :
    rnOK l ms y = true ∧ okB r l ((List.range ms.length).map (addF l ms y)) ts bs = true ∧ ((List.range ms.length).map (addF l ms y)).sum = ms.sum + sumN (partF l y) ms.length ∧ 0 ≤ sumN (partF l y) ms.length ∧ sumN (partF l y) ms.length ≤ 8000000 := by
  obtain ⟨k1, k2, k3, k4, k5, k6, k7, k8⟩ := okT e1
  have s1 := sumN_bd (f := partF l y) (X := 160000) (m := ms.length) (fun i _ => partF_bd hy i) ms.length (Nat.le_refl _)
  have s2 := addF_all l ms y
  refine ⟨by simp [rnOK]; omega, okB_new e1 (by simp) rfl (fun i hi => ?_) (by omega), s2, s1.1, by omega⟩
  have c := cells_at k7 hi
  have b := partF_bd (l := l) hy i
  rw [mapR_at _ hi]
  unfold addF
  omega

/- laws.FnRains -/
def Sp11 (lo : Nat) : Spec := fun g args η K => match g with | 22 => SBig lo args η K | 24 => SPlaces lo args η K | 32 => SDrawS lo args η K | 39 => SSkS args η K | 51 => SLh args η K | 53 => SRnS args η K | 54 => STotT args η K | 55 => SAdd args η K | _ => False
theorem Sp11_ok {lo : Nat} : Sound Try.prog lo (Sp11 lo) := by
  intro g args η K h
  unfold Sp11 at h
  split at h
  · exact f22_ok h
  · exact f24_ok h
  · exact f32_ok h
  · exact f39_ok h
  · exact f51_ok h
  · exact f53_ok h
  · exact f54_ok h
  · exact f55_ok h
  · exact h.elim
def D11 : Draws := fun id => match id with | 5 => ([0, 0, 2, 6, 15, 31, 63, 63, 0, 0, 895, 2047], [], [(0, 5), (1, 5), (2, 5), (3, 5), (4, 5), (5, 5), (6, 5), (7, 5), (9, 5), (0, 6), (1, 6), (2, 6), (3, 6), (4, 6), (5, 6), (6, 6), (7, 6)], (.one 8 (.one 9 (.one 0 (.one 1 (.one 2 (.one 3 (.one 4 (.one 5 (.one 6 (.one 7 (.one 10 (.one 11 .nil))))))))))))) | 6 => ([0, 0, 2, 6, 15, 31, 63, 63, 0, 0, 895, 2047], [], [(0, 7), (1, 7), (2, 7), (3, 7), (4, 7), (5, 7), (6, 7), (7, 7), (9, 7), (0, 8), (1, 8), (2, 8), (3, 8), (4, 8), (5, 8), (6, 8), (7, 8)], (.one 8 (.one 9 (.one 0 (.one 1 (.one 2 (.one 3 (.one 4 (.one 5 (.one 6 (.one 7 (.one 10 (.one 11 .nil))))))))))))) | 7 => ([0, 0, 0, 7, 15, 31, 31, 31, 255, 511, 1023, 2047, 4095, 2047, 16383, 32767, 65535, 131071, 262143, 524287, 1048575, 2097151, 4194303, 8388607, 16777215, 33554431, 67108863, 134217727, 268435455, 268435455, 268435455, 268435455, 3489660927, 8589934591, 17179869183, 34359738367], [12, 32], [], (.one 0 (.one 1 (.one 2 (.one 3 (.one 4 (.one 5 (.one 6 (.one 7 (.one 8 (.one 9 (.one 10 (.one 11 (.one 13 (.one 12 (.one 14 (.one 15 (.one 16 (.one 17 (.one 18 (.one 19 (.one 20 (.one 21 (.one 22 (.one 23 (.one 24 (.one 25 (.one 26 (.one 27 (.one 28 (.one 29 (.one 30 (.one 31 (.one 32 (.one 33 (.one 34 (.one 35 .nil))))))))))))))))))))))))))))))))))))) | _ => ([], [], [], .nil)
theorem f11_ok {lo : Nat} {args : List AV} {η : List Blk} {K : AV → List Blk → Prop} (h : SDL lo args η K) : AF Try.prog lo 11 args η K := by
  unfold SDL at h
  split at h
  · obtain ⟨g, hr, hml, hK⟩ := h
    have hn := (noLoc8 hr).1
    refine AF_run Sp11_ok D11 [] [.tmp 2] hm Try.func11 rfl (by decide) Try.ntmps11 rfl (by kernel_rfl) (Nat.le_of_ble_eq_true rfl) ?_; intro hlo
    repeat' (first | with_reducible refine iteI (fun _ => ?_) (fun _ => ?_) | ((first | unfold AOpsC | unfold AOpsD | skip); simp (maxSteps := 1000000) (disch := (first | omega | assumption | (simp only [List.length_append, List.length_cons, List.length_nil, List.length_set]; omega))) only [go_sem, ↓skipC, ↓exitC, ↓retC, ↓seqC, ↓blockC, ↓condC, ↓regC, ↓drawC, ↓drawStep, ↓AOpC, ↓AOpF, ↓AOpE, ↓AEff, ↓contE_at, ↓contC_at, ↓keepC_at, ↓keepW_at, ↓map_parts, ↓reduceIte, reduceCtorEq, Nat.reduceLT, Nat.reduceEqDiff, Nat.reduceAdd, Nat.reduceMul, Nat.reduceLeDiff, Nat.reduceSub, Nat.reduceBEq, Nat.reduceBNe, Nat.reduceBneDiff, Nat.reduceBeqDiff, ag_28, ag_3, ag_39, ag_48, by_28, by_3, by_39, by_48, el_28, fi_48_0, fi_48_1, in_3, nf_39, nf_48, pl_39, pl_48, ps_39, ps_48, sz_28, sz_3, sz_39, sz_48, ze_28, ze_3, ze_39, ze_48, Sp11, SLh, STotT, SAdd, D11, ↓hn]))
    unfold SBig
    refine ⟨g, hr, hml, ?_⟩
    by_cases hl : (1048576 : Int) < g.length
    · repeat' (first | with_reducible refine iteI (fun _ => ?_) (fun _ => ?_) | ((first | unfold AOpsC | unfold AOpsD | skip); simp (maxSteps := 1000000) (disch := (first | omega | assumption | (simp only [List.length_append, List.length_cons, List.length_nil, List.length_set]; omega))) only [go_sem, ↓skipC, ↓exitC, ↓retC, ↓seqC, ↓blockC, ↓condC, ↓regC, ↓drawC, ↓drawStep, ↓AOpC, ↓AOpF, ↓AOpE, ↓AEff, ↓contE_at, ↓contC_at, ↓keepC_at, ↓keepW_at, ↓map_parts, ↓reduceIte, reduceCtorEq, Nat.reduceLT, Nat.reduceEqDiff, Nat.reduceAdd, Nat.reduceMul, Nat.reduceLeDiff, Nat.reduceSub, Nat.reduceBEq, Nat.reduceBNe, Nat.reduceBneDiff, Nat.reduceBeqDiff, ag_28, ag_3, ag_39, ag_48, by_28, by_3, by_39, by_48, el_28, fi_48_0, fi_48_1, in_3, nf_39, nf_48, pl_39, pl_48, ps_39, ps_48, sz_28, sz_3, sz_39, sz_48, ze_28, ze_3, ze_39, ze_48, Sp11, SLh, STotT, SAdd, D11, ↓hn, hl]))
      exact hK _
    repeat' (first | with_reducible refine iteI (fun _ => ?_) (fun _ => ?_) | ((first | unfold AOpsC | unfold AOpsD | skip); simp (maxSteps := 1000000) (disch := (first | omega | assumption | (simp only [List.length_append, List.length_cons, List.length_nil, List.length_set]; omega))) only [go_sem, ↓skipC, ↓exitC, ↓retC, ↓seqC, ↓blockC, ↓condC, ↓regC, ↓drawC, ↓drawStep, ↓AOpC, ↓AOpF, ↓AOpE, ↓AEff, ↓contE_at, ↓contC_at, ↓keepC_at, ↓keepW_at, ↓map_parts, ↓reduceIte, reduceCtorEq, Nat.reduceLT, Nat.reduceEqDiff, Nat.reduceAdd, Nat.reduceMul, Nat.reduceLeDiff, Nat.reduceSub, Nat.reduceBEq, Nat.reduceBNe, Nat.reduceBneDiff, Nat.reduceBeqDiff, ag_28, ag_3, ag_39, ag_48, by_28, by_3, by_39, by_48, el_28, fi_48_0, fi_48_1, in_3, nf_39, nf_48, pl_39, pl_48, ps_39, ps_48, sz_28, sz_3, sz_39, sz_48, ze_28, ze_3, ze_39, ze_48, Sp11, SLh, STotT, SAdd, D11, ↓hn, hl]))
    unfold SDrawS
    refine ⟨g, hr, hml, fun HS r l ms ts bs b0 b1 b2 b3 v0 v1 v2 v3 hd hN hx => ?_⟩
    have e1 := hd.1
    obtain ⟨k1, k2, k3, k4, k5, k6, k7, k8⟩ := okT e1
    have hln := mesh_len k1
    have hne := mesh_ne k1
    have hr3 := hd.2.1
    replace hr := hr.ext hx
    have w0 := hN.g0
    have w1 := hN.g1
    have w2 := hN.g2
    have w3 := hN.g3
    have D1 : dec3 45 HS (.sl b0 v0 0 l.length) = l := IsR.dec3 ⟨b0, v0, rfl, w0⟩
    have D2 : decI HS (.sl b1 v1 0 ms.length) = ms := IsI.dec ⟨b1, v1, rfl, w1⟩
    have D3 : decI HS (.sl b2 v2 0 ts.length) = ts := IsI.dec ⟨b2, v2, rfl, w2⟩
    have D4 : decI HS (.sl b3 v3 0 bs.length) = bs := IsI.dec ⟨b3, v3, rfl, w3⟩
    have O1 : ok3 45 HS (.sl b0 v0 0 l.length) := ⟨l, ⟨b0, v0, rfl, w0⟩, by omega⟩
    have O2 : okI HS (.sl b1 v1 0 ms.length) := ⟨ms, ⟨b1, v1, rfl, w1⟩, by omega⟩
    have O3 : okI HS (.sl b2 v2 0 ts.length) := ⟨ts, ⟨b2, v2, rfl, w2⟩, by omega⟩
    have O4 : okI HS (.sl b3 v3 0 bs.length) := ⟨bs, ⟨b3, v3, rfl, w3⟩, by omega⟩
    repeat' (first | with_reducible refine iteI (fun _ => ?_) (fun _ => ?_) | ((first | unfold AOpsC | unfold AOpsD | skip); simp (maxSteps := 1000000) (disch := (first | omega | assumption | (simp only [List.length_append, List.length_cons, List.length_nil, List.length_set]; omega))) only [go_sem, ↓skipC, ↓exitC, ↓retC, ↓seqC, ↓blockC, ↓condC, ↓regC, ↓drawC, ↓drawStep, ↓AOpC, ↓AOpF, ↓AOpE, ↓AEff, ↓contE_at, ↓contC_at, ↓keepC_at, ↓keepW_at, ↓map_parts, ↓reduceIte, reduceCtorEq, Nat.reduceLT, Nat.reduceEqDiff, Nat.reduceAdd, Nat.reduceMul, Nat.reduceLeDiff, Nat.reduceSub, Nat.reduceBEq, Nat.reduceBNe, Nat.reduceBneDiff, Nat.reduceBeqDiff, ag_28, ag_3, ag_39, ag_48, by_28, by_3, by_39, by_48, el_28, fi_48_0, fi_48_1, in_3, nf_39, nf_48, pl_39, pl_48, ps_39, ps_48, sz_28, sz_3, sz_39, sz_48, ze_28, ze_3, ze_39, ze_48, Sp11, SLh, STotT, SAdd, D11, ↓hn, w0, w1, w2, w3, D1, D2, D3, D4, O1, O2, O3, O4, e1]))
    unfold SPlaces
    refine ⟨g, hr, hml, fun vp HP ps hps hall hi hext => ?_⟩
    obtain ⟨bp, wp, rfl, hbp⟩ := hi
    replace hr := hr.ext hext
    have hpx : ∀ i, i < 12 → 0 ≤ ps.getD i 0 ∧ ps.getD i 0 < 10000 := fun i hi => hall _ (of_eq_true (memD (by omega)))
    replace hN := hN.ext hext
    clear w0 w1 w2 w3 D1 D2 D3 D4 O1 O2 O3 O4
    have w0 := hN.g0
    have w1 := hN.g1
    have w2 := hN.g2
    have w3 := hN.g3
    have D1 : dec3 45 HP (.sl b0 v0 0 l.length) = l := IsR.dec3 ⟨b0, v0, rfl, w0⟩
    have D2 : decI HP (.sl b1 v1 0 ms.length) = ms := IsI.dec ⟨b1, v1, rfl, w1⟩
    have D3 : decI HP (.sl b2 v2 0 ts.length) = ts := IsI.dec ⟨b2, v2, rfl, w2⟩
    have D4 : decI HP (.sl b3 v3 0 bs.length) = bs := IsI.dec ⟨b3, v3, rfl, w3⟩
    have O1 : ok3 45 HP (.sl b0 v0 0 l.length) := ⟨l, ⟨b0, v0, rfl, w0⟩, by omega⟩
    have O2 : okI HP (.sl b1 v1 0 ms.length) := ⟨ms, ⟨b1, v1, rfl, w1⟩, by omega⟩
    have O3 : okI HP (.sl b2 v2 0 ts.length) := ⟨ts, ⟨b2, v2, rfl, w2⟩, by omega⟩
    have O4 : okI HP (.sl b3 v3 0 bs.length) := ⟨bs, ⟨b3, v3, rfl, w3⟩, by omega⟩
    have x0 := hpx 0 (by omega)
    have x1 := hpx 1 (by omega)
    repeat' (first | with_reducible refine iteI (fun _ => ?_) (fun _ => ?_) | ((first | unfold AOpsC | unfold AOpsD | skip); simp (maxSteps := 1000000) (disch := (first | omega | assumption | (simp only [List.length_append, List.length_cons, List.length_nil, List.length_set]; omega))) only [go_sem, ↓skipC, ↓exitC, ↓retC, ↓seqC, ↓blockC, ↓condC, ↓regC, ↓drawC, ↓drawStep, ↓AOpC, ↓AOpF, ↓AOpE, ↓AEff, ↓contE_at, ↓contC_at, ↓keepC_at, ↓keepW_at, ↓map_parts, ↓reduceIte, reduceCtorEq, Nat.reduceLT, Nat.reduceEqDiff, Nat.reduceAdd, Nat.reduceMul, Nat.reduceLeDiff, Nat.reduceSub, Nat.reduceBEq, Nat.reduceBNe, Nat.reduceBneDiff, Nat.reduceBeqDiff, ag_28, ag_3, ag_39, ag_48, by_28, by_3, by_39, by_48, el_28, fi_48_0, fi_48_1, in_3, nf_39, nf_48, pl_39, pl_48, ps_39, ps_48, sz_28, sz_3, sz_39, sz_48, ze_28, ze_3, ze_39, ze_48, Sp11, SLh, STotT, SAdd, D11, w0, w1, w2, w3, D1, D2, D3, D4, O1, O2, O3, O4, e1, hbp, Int.reduceToNat, Int.toNat_zero, Int.toNat_one, Nat.zero_mul, Nat.one_mul]))
    generalize hpy : ps.getD 0 0 = y at *
    generalize hpz : ps.getD 1 0 = z at *
    have hsm := hd.2.2.2.1
    obtain ⟨r1, e2, r3, r4, r5⟩ := rain_ok e1 (y := y) (by omega) (by omega) hsm
    unfold SRnS
    simp only [w0, w1, w2, w3, D1, D2, D3, D4, O1, O2, O3, O4, true_and, and_self]
    refine fun H1 c0 c1 c2 c3 u0 u1 u2 u3 hM xu => ?_
    have hiy : inB y 0 10000 = true := by simp only [inB, Bool.and_eq_true, decide_eq_true_eq]; omega
    have hiz : inB z 0 10000 = true := by simp only [inB, Bool.and_eq_true, decide_eq_true_eq]; omega
    have hB : wRnB r l ms ts bs y = true := by simp [wRnB, e1, hiy]
    have z0 : wRnM r l ms ts bs y = (List.range ms.length).map (addF l ms y) := by rw [wRnM, if_pos hB, nRnM, if_pos r1]
    have z1 : wRnT r l ms ts bs y = ts := by rw [wRnT, if_pos hB]; rfl
    have z2 : wRnL r l ms ts bs y = (sumN (partF l y) ms.length, 0, 0, 0) := by rw [wRnL, if_pos hB, nRnL, if_pos r1]
    rw [z0, z1] at hM
    rw [z0, z1, z2]
    have hMl : ((List.range ms.length).map (addF l ms y)).length = ms.length := by simp
    generalize hR : sumN (partF l y) ms.length = R at *
    generalize (List.range ms.length).map (addF l ms y) = M at *
    have hN1 := hN.ext xu
    have hbp1 := xu.blk hbp
    clear w0 w1 w2 w3 D1 D2 D3 D4 O1 O2 O3 O4 hbp z0 z1 z2
    have w0m := hM.g0
    have w1m := hM.g1
    have w2m := hM.g2
    have w3m := hM.g3
    have D1m : dec3 45 H1 (.sl c0 u0 0 l.length) = l := IsR.dec3 ⟨c0, u0, rfl, w0m⟩
    have D2m : decI H1 (.sl c1 u1 0 M.length) = M := IsI.dec ⟨c1, u1, rfl, w1m⟩
    have D3m : decI H1 (.sl c2 u2 0 ts.length) = ts := IsI.dec ⟨c2, u2, rfl, w2m⟩
    have D4m : decI H1 (.sl c3 u3 0 bs.length) = bs := IsI.dec ⟨c3, u3, rfl, w3m⟩
    have O1m : ok3 45 H1 (.sl c0 u0 0 l.length) := ⟨l, ⟨c0, u0, rfl, w0m⟩, by omega⟩
    have O2m : okI H1 (.sl c1 u1 0 M.length) := ⟨M, ⟨c1, u1, rfl, w1m⟩, by omega⟩
    have O3m : okI H1 (.sl c2 u2 0 ts.length) := ⟨ts, ⟨c2, u2, rfl, w2m⟩, by omega⟩
    have O4m : okI H1 (.sl c3 u3 0 bs.length) := ⟨bs, ⟨c3, u3, rfl, w3m⟩, by omega⟩
    repeat' (first | with_reducible refine iteI (fun _ => ?_) (fun _ => ?_) | ((first | unfold AOpsC | unfold AOpsD | skip); simp (maxSteps := 1000000) (disch := (first | omega | assumption | (simp only [List.length_append, List.length_cons, List.length_nil, List.length_set]; omega))) only [go_sem, ↓skipC, ↓exitC, ↓retC, ↓seqC, ↓blockC, ↓condC, ↓regC, ↓drawC, ↓drawStep, ↓AOpC, ↓AOpF, ↓AOpE, ↓AEff, ↓contE_at, ↓contC_at, ↓keepC_at, ↓keepW_at, ↓map_parts, ↓reduceIte, reduceCtorEq, Nat.reduceLT, Nat.reduceEqDiff, Nat.reduceAdd, Nat.reduceMul, Nat.reduceLeDiff, Nat.reduceSub, Nat.reduceBEq, Nat.reduceBNe, Nat.reduceBneDiff, Nat.reduceBeqDiff, ag_28, ag_3, ag_39, ag_48, by_28, by_3, by_39, by_48, el_28, fi_48_0, fi_48_1, in_3, nf_39, nf_48, pl_39, pl_48, ps_39, ps_48, sz_28, sz_3, sz_39, sz_48, ze_28, ze_3, ze_39, ze_48, Sp11, SLh, STotT, SAdd, D11, w0m, w1m, w2m, w3m, D1m, D2m, D3m, D4m, O1m, O2m, O3m, O4m, hbp1, Int.reduceToNat, Int.toNat_zero, Int.toNat_one, Nat.zero_mul, Nat.one_mul, hpz]))
    unfold SSkS
    simp only [w0m, w1m, w2m, w3m, D1m, D2m, D3m, D4m, O1m, O2m, O3m, O4m, true_and, and_self]
    refine fun H2 d0 d1 d2 d3 a0 a1 a2 a3 hY xy => ?_
    have hBy : wSkB r l M ts bs z = true := by simp [wSkB, e2, hiz]
    have z0 : wSkM r l M ts bs z = nSkM l M ts z := if_pos hBy
    have z1 : wSkT r l M ts bs z = nSkT l M ts z := if_pos hBy
    have z2 : wSkL r l M ts bs z = (0, sumN (skF l M z) M.length, 0, sumN (skT l M ts z) M.length) := if_pos hBy
    rw [z0, z1] at hY
    rw [z0, z1, z2]
    obtain ⟨e3, t1, t2, t3, t4, t5, t6⟩ := soak_ok e2 (y := z) (by omega)
    have ml := nSkM_len l M ts z
    have tl := nSkT_len l M ts z
    have k7' := okT e2
    have hs0 := ts_le k7 (by omega)
    have hs1 := ts_le k7'.2.2.2.2.2.2.1 (by omega)
    generalize nSkM l M ts z = Y at *
    generalize nSkT l M ts z = U at *
    generalize sumN (skF l M z) M.length = q at *
    generalize sumN (skT l M ts z) M.length = w at *
    have lh1 := lh_true (p := R) (q := 0) (u := 0) (w := 0) e1 e2 (by omega) (by omega) (by omega)
    have lh2 := lh_true (p := 0) (q := q) (u := 0) (w := w) e2 e3 (by omega) (by omega) (by omega)
    have lh3 : ∀ p' q' u' w', p' = R → q' = q → u' = 0 → w' = w → lhB r l ms ts bs r l Y U bs p' q' u' w' = true := by
      rintro _ _ _ _ rfl rfl rfl rfl
      exact lh_true e1 e3 (by omega) (by omega) (by omega)
    have tt1 : totT r l ms ts bs = ts.sum := if_pos e1
    have tt2 : totT r l M ts bs = ts.sum := if_pos e2
    have hN2 := hN1.ext xy
    have hM2 := hM.ext xy
    clear w0m w1m w2m w3m D1m D2m D3m D4m O1m O2m O3m O4m z0 z1 z2
    have w0 := hN2.g0
    have w1 := hN2.g1
    have w2 := hN2.g2
    have w3 := hN2.g3
    have D1 : dec3 45 H2 (.sl b0 v0 0 l.length) = l := IsR.dec3 ⟨b0, v0, rfl, w0⟩
    have D2 : decI H2 (.sl b1 v1 0 ms.length) = ms := IsI.dec ⟨b1, v1, rfl, w1⟩
    have D3 : decI H2 (.sl b2 v2 0 ts.length) = ts := IsI.dec ⟨b2, v2, rfl, w2⟩
    have D4 : decI H2 (.sl b3 v3 0 bs.length) = bs := IsI.dec ⟨b3, v3, rfl, w3⟩
    have O1 : ok3 45 H2 (.sl b0 v0 0 l.length) := ⟨l, ⟨b0, v0, rfl, w0⟩, by omega⟩
    have O2 : okI H2 (.sl b1 v1 0 ms.length) := ⟨ms, ⟨b1, v1, rfl, w1⟩, by omega⟩
    have O3 : okI H2 (.sl b2 v2 0 ts.length) := ⟨ts, ⟨b2, v2, rfl, w2⟩, by omega⟩
    have O4 : okI H2 (.sl b3 v3 0 bs.length) := ⟨bs, ⟨b3, v3, rfl, w3⟩, by omega⟩
    have w0m := hM2.g0
    have w1m := hM2.g1
    have w2m := hM2.g2
    have w3m := hM2.g3
    have D1m : dec3 45 H2 (.sl c0 u0 0 l.length) = l := IsR.dec3 ⟨c0, u0, rfl, w0m⟩
    have D2m : decI H2 (.sl c1 u1 0 M.length) = M := IsI.dec ⟨c1, u1, rfl, w1m⟩
    have D3m : decI H2 (.sl c2 u2 0 ts.length) = ts := IsI.dec ⟨c2, u2, rfl, w2m⟩
    have D4m : decI H2 (.sl c3 u3 0 bs.length) = bs := IsI.dec ⟨c3, u3, rfl, w3m⟩
    have O1m : ok3 45 H2 (.sl c0 u0 0 l.length) := ⟨l, ⟨c0, u0, rfl, w0m⟩, by omega⟩
    have O2m : okI H2 (.sl c1 u1 0 M.length) := ⟨M, ⟨c1, u1, rfl, w1m⟩, by omega⟩
    have O3m : okI H2 (.sl c2 u2 0 ts.length) := ⟨ts, ⟨c2, u2, rfl, w2m⟩, by omega⟩
    have O4m : okI H2 (.sl c3 u3 0 bs.length) := ⟨bs, ⟨c3, u3, rfl, w3m⟩, by omega⟩
    have w0y := hY.g0
    have w1y := hY.g1
    have w2y := hY.g2
    have w3y := hY.g3
    have D1y : dec3 45 H2 (.sl d0 a0 0 l.length) = l := IsR.dec3 ⟨d0, a0, rfl, w0y⟩
    have D2y : decI H2 (.sl d1 a1 0 Y.length) = Y := IsI.dec ⟨d1, a1, rfl, w1y⟩
    have D3y : decI H2 (.sl d2 a2 0 U.length) = U := IsI.dec ⟨d2, a2, rfl, w2y⟩
    have D4y : decI H2 (.sl d3 a3 0 bs.length) = bs := IsI.dec ⟨d3, a3, rfl, w3y⟩
    have O1y : ok3 45 H2 (.sl d0 a0 0 l.length) := ⟨l, ⟨d0, a0, rfl, w0y⟩, by omega⟩
    have O2y : okI H2 (.sl d1 a1 0 Y.length) := ⟨Y, ⟨d1, a1, rfl, w1y⟩, by omega⟩
    have O3y : okI H2 (.sl d2 a2 0 U.length) := ⟨U, ⟨d2, a2, rfl, w2y⟩, by omega⟩
    have O4y : okI H2 (.sl d3 a3 0 bs.length) := ⟨bs, ⟨d3, a3, rfl, w3y⟩, by omega⟩
    repeat' (first | with_reducible refine iteI (fun _ => ?_) (fun _ => ?_) | ((first | unfold AOpsC | unfold AOpsD | skip); simp (maxSteps := 1000000) (disch := (first | omega | assumption | (simp only [List.length_append, List.length_cons, List.length_nil, List.length_set]; omega))) only [go_sem, ↓skipC, ↓exitC, ↓retC, ↓seqC, ↓blockC, ↓condC, ↓regC, ↓drawC, ↓drawStep, ↓AOpC, ↓AOpF, ↓AOpE, ↓AEff, ↓contE_at, ↓contC_at, ↓keepC_at, ↓keepW_at, ↓map_parts, ↓reduceIte, reduceCtorEq, Nat.reduceLT, Nat.reduceEqDiff, Nat.reduceAdd, Nat.reduceMul, Nat.reduceLeDiff, Nat.reduceSub, Nat.reduceBEq, Nat.reduceBNe, Nat.reduceBneDiff, Nat.reduceBeqDiff, ag_28, ag_3, ag_39, ag_48, by_28, by_3, by_39, by_48, el_28, fi_48_0, fi_48_1, in_3, nf_39, nf_48, pl_39, pl_48, ps_39, ps_48, sz_28, sz_3, sz_39, sz_48, ze_28, ze_3, ze_39, ze_48, Sp11, SLh, STotT, SAdd, D11, w0, w1, w2, w3, D1, D2, D3, D4, O1, O2, O3, O4, w0m, w1m, w2m, w3m, D1m, D2m, D3m, D4m, O1m, O2m, O3m, O4m, w0y, w1y, w2y, w3y, D1y, D2y, D3y, D4y, O1y, O2y, O3y, O4y, lh1, lh2, lh3, tt1, tt2]))
    exact hK _
  · exact h.elim

/- the law -/
theorem law_ok {blks : List Blk} {x0 : AV} (s0 : AvSh blks (.rows 5 1 .u8) x0) : AF Try.prog blks.length 11 [x0] blks fun v _ => v = .bool true := by
  obtain ⟨l, hl, hlm⟩ := row8 s0
  exact f11_ok (show SDL blks.length _ _ _ from ⟨l, hl, hlm, fun _ => rfl⟩)

end Go.Proofs.Ytffefndnnbcplaa
