/- What functions of the program compute, said in the abstract logic; no conditions. -/
import Derived.Test.YtffefndnnbcplaaGBase
import Derived.Test.YtffefndnnbcplaaGIn
import Derived.Test.YtffefndnnbcplaaGDraw
import Derived.Test.YtffefndnnbcplaaGMesh
import Derived.Test.YtffefndnnbcplaaGIds
import Derived.Test.YtffefndnnbcplaaGEv
import Derived.Test.YtffefndnnbcplaaGRes
import Derived.Test.YtffefndnnbcplaaGBal
import Derived.Test.YtffefndnnbcplaaGCost
import Derived.Test.YtffefndnnbcplaaGMeshN
import Derived.Test.YtffefndnnbcplaaGDrawM
import Derived.Test.YtffefndnnbcplaaGDrawN
import Derived.Test.YtffefndnnbcplaaGIdx
import Derived.Test.YtffefndnnbcplaaGState
import Derived.Test.YtffefndnnbcplaaGCopy
import Derived.Test.YtffefndnnbcplaaGBalc
import Derived.Test.YtffefndnnbcplaaGBalw
import Derived.Test.YtffefndnnbcplaaGInts
import Derived.Test.YtffefndnnbcplaaGStTo
import Derived.Test.YtffefndnnbcplaaGResS
import Derived.Test.YtffefndnnbcplaaGOwn
import Derived.Test.YtffefndnnbcplaaGDrawS
import Derived.Test.YtffefndnnbcplaaGDLaw
import Derived.Test.YtffefndnnbcplaaGDiv
import Derived.Test.YtffefndnnbcplaaGShare
import Derived.Test.YtffefndnnbcplaaGFlux
import Derived.Test.YtffefndnnbcplaaGFlux2
import Derived.Test.YtffefndnnbcplaaGSteep
import Derived.Test.YtffefndnnbcplaaGLedP
import Derived.Test.YtffefndnnbcplaaGOut
import Derived.Test.YtffefndnnbcplaaGRem
import Derived.Test.YtffefndnnbcplaaGBordP
import Derived.Test.YtffefndnnbcplaaGDrawB

namespace Go.Proofs.Ytffefndnnbcplaa
open Go
set_option linter.unusedSimpArgs false
set_option linter.unusedVariables false
set_option maxRecDepth 100000
set_option maxHeartbeats 8000000
attribute [local go_sem] st0 AC thenA andC locLoadB KsSW_same KsSW_grow pv ev put upd dstOk cv cvc binI setB Value.oneCell' EndA resA resA1 List.mapM_cons List.mapM_nil Option.pure_def Option.bind_eq_bind noLocV noLoc1 noLoc noLocs plainV cellsA newVarA putCells condA lam0 inBlockA cur lenA rowA avoidsB avoidB clearB Array.toList_append Op.operands Call.operands newSlot Nat.zero_add Nat.add_zero Nat.succ_ne_self Nat.lt_add_one Nat.zero_lt_succ true_and and_true true_or or_true false_or or_false and_self true_implies forall_const Bool.false_eq_true Bool.true_eq_false false_implies implies_true imp_self ne_eq not_false_eq_true not_true_eq_false false_and and_false List.getElem?_toArray List.getElem?_cons_succ List.getElem?_cons_zero Option.bind_some Option.map_some Bool.not_true Bool.not_false List.getD_cons_zero List.getD_cons_succ Option.some.injEq exists_eq_left' AV.bool.injEq List.map_cons List.map_nil List.all_cons List.all_nil Bool.and_self Bool.and_true Bool.true_and List.append_nil List.cons_append List.nil_append List.length_cons List.length_nil List.drop_zero List.take_zero List.drop_succ_cons List.take_succ_cons List.take_nil List.drop_nil List.not_mem_nil List.mem_cons List.contains_nil List.contains_cons Bool.or_self Bool.or_true Bool.true_or Bool.false_or Bool.or_false Bool.and_false Bool.false_and KsS_same KsS_grow skipV KsS_ext KsSW_ext rep1 rep2 rep3 rep4 rep5 List.flatten_cons List.flatten_nil partsA isPtr fillA List.size_toArray ltT ltF leT leF ltTn ltFn leTn leFn eqTi eqFi wrapId toNat1 intGet boolGet memD app_get app_last app_lst app_set app_setL app_setF set_ne set_eq gt_iff_lt ge_iff_le decide_eq_true_eq len2 len3 get20 get21 drop2 put2 get30 get31 get32 drop3 put3 putI pairEta bneTi bneFi beqTi beqFi bne_eq_false_iff_eq beq_eq_false_iff_ne beq_iff_eq bne_iff_ne Int.toNat_natCast Nat.mul_one List.length_map Bool.not_eq_true Bool.not_eq_false Bool.decide_eq_true decide_true decide_false Bool.not_eq_true' Bool.not_eq_false' decide_eq_false_iff_not eq_self Decidable.not_not
theorem share_rest {t p m : Int} (hm : 0 ≤ m ∧ m ≤ 10000000) (ht : 0 ≤ t ∧ t ≤ 1000 * m) (hp : 0 ≤ p ∧ p ≤ m) : t - shareO t p m ≤ 1000 * (m - p) := by
  by_cases h0 : m = 0
  · have : shareO t p m = 0 := by rw [shareO, if_neg (by subst h0; simp [inB])]
    omega
  · have i1 : inB m 1 10000000 = true ∧ inB p 0 m = true ∧ inB t 0 (1000 * m) = true := by simp [inB]; omega
    rw [shareO, if_pos i1, Int.tdiv_eq_ediv_of_nonneg (Int.mul_nonneg ht.1 hp.1)]
    have h1 : t - 1000 * (m - p) ≤ t * p / m := by
      rw [Int.le_ediv_iff_mul_le (by omega)]
      have h2 := Int.mul_le_mul_of_nonneg_right ht.2 (show 0 ≤ m - p by omega)
      rw [Int.mul_sub] at h2
      rw [Int.sub_mul, show 1000 * (m - p) * m = 1000 * m * (m - p) by rw [Int.mul_assoc, Int.mul_assoc, Int.mul_comm (m - p) m]]
      omega
    omega

theorem sum_set : ∀ (l : List Int) (i : Nat) (x : Int), i < l.length → (l.set i x).sum = l.sum - l.getD i 0 + x
  | [], i, x, h => by simp at h
  | a :: l, 0, x, h => by simp; omega
  | a :: l, i + 1, x, h => by
    have := sum_set l i x (by simpa using h)
    simp only [List.set_cons_succ, List.sum_cons, List.getD_cons_succ, this]
    omega
theorem set_ok {r : Int} {l : List Id3} {ms ts bs : List Int} (e1 : okB r l ms ts bs = true) {i : Nat} (hi : i < ms.length) {x t : Int} (hx : 0 ≤ x) (ht : 0 ≤ t ∧ t ≤ 1000 * x) (hs : ms.sum - ms.getD i 0 + x ≤ 10000000) : okB r l (ms.set i x) (ts.set i t) bs = true := by
  obtain ⟨k1, k2, k3, k4, k5, k6, k7, k8⟩ := okT e1
  refine okB_new e1 (by simp) (by simp) (fun j hj => ?_) (by rw [sum_set _ _ _ hi]; exact hs)
  have c := cells_at k7 hj
  rw [getSetD, getSetD]
  by_cases h : i = j
  · subst h
    rw [if_pos ⟨rfl, hj⟩, if_pos ⟨rfl, by omega⟩]
    omega
  · rw [if_neg (fun e => h e.1), if_neg (fun e => h e.1)]
    omega
theorem bord_ok {r : Int} {l : List Id3} {ms ts bs : List Int} {y z w : Int} (e1 : okB r l ms ts bs = true) (hs : ms.sum ≤ 1000000) (hy : 0 ≤ y ∧ y ≤ 3000) (hz : 0 ≤ z ∧ z ≤ 1000) (hw : 0 ≤ w ∧ w ≤ 250) :
    (bM ms w).sum + y ≤ 10000000 ∧ okB r l (nBrM l ms ts y z w) (nBrT l ms ts y z w) bs = true ∧ (nBrM l ms ts y z w).sum = ms.sum + y - bOut ms w ∧ (nBrT l ms ts y z w).sum = ts.sum + y * z - bTr ms ts w ∧ (0 ≤ bOut ms w ∧ bOut ms w ≤ 10000000) ∧ (0 ≤ bTr ms ts w ∧ bTr ms ts w ≤ 10000000000) := by
  obtain ⟨k1, k2, k3, k4, k5, k6, k7, k8⟩ := okT e1
  have hne := mesh_ne k1
  have hJ : ms.length - 1 < ms.length := by omega
  have c := cells_at k7 hJ
  have b := bout_bd (ms := ms) hw (by omega)
  have hb : 0 ≤ bTr ms ts w ∧ bTr ms ts w ≤ ts.getD (ms.length - 1) 0 := by
    have := shareO_le (t := ts.getD (ms.length - 1) 0) (p := bOut ms w) (w := ms.getD (ms.length - 1) 0) (by omega)
    exact this
  have g := share_rest (t := ts.getD (ms.length - 1) 0) (p := bOut ms w) (m := ms.getD (ms.length - 1) 0) (by omega) (by omega) (by omega)
  have hd : bTr ms ts w = shareO (ts.getD (ms.length - 1) 0) (bOut ms w) (ms.getD (ms.length - 1) 0) := rfl
  have e2 : okB r l (bM ms w) (bT ms ts w) bs = true := set_ok e1 hJ (by omega) (by omega) (by omega)
  have s1 : (bM ms w).sum = ms.sum - bOut ms w := by
    unfold bM
    rw [sum_set _ _ _ hJ]
    omega
  have s2 : (bT ms ts w).sum = ts.sum - bTr ms ts w := by
    unfold bT
    rw [sum_set _ _ _ (by omega)]
    omega
  have hc : (bM ms w).sum + y ≤ 10000000 := by omega
  have hlM : (bM ms w).length = ms.length := by simp [bM]
  have hlT : (bT ms ts w).length = ts.length := by simp [bT]
  obtain ⟨j1, j2, j3, j4, j5, j6, j7, j8⟩ := okT e2
  have c0 := cells_at j7 (i := 0) (by omega)
  have yz := mul_yz (y := y) (z := z) (by omega) hz
  have yz2 : y * z ≤ y * 1000 := Int.mul_le_mul_of_nonneg_left hz.2 hy.1
  refine ⟨hc, ?_, ?_, ?_, by omega, by omega⟩
  · rw [nBrM, nBrT, if_pos hc, if_pos hc]
    exact set_ok e2 (by omega) (by omega) (by omega) (by omega)
  · rw [nBrM, if_pos hc, sum_set _ _ _ (by omega)]
    omega
  · rw [nBrT, if_pos hc, sum_set _ _ _ (by omega)]
    omega

/- laws.FnBorders -/
def Sp8 (lo : Nat) : Spec := fun g args η K => match g with | 22 => SBig lo args η K | 32 => SDrawS lo args η K | 41 => SBrD lo args η K | 42 => SBrS args η K | 43 => SLh args η K | 44 => SOk args η K | 45 => SBorder args η K | _ => False
theorem Sp8_ok {lo : Nat} : Sound Try.prog lo (Sp8 lo) := by
  intro g args η K h
  unfold Sp8 at h
  split at h
  · exact f22_ok h
  · exact f32_ok h
  · exact f41_ok h
  · exact f42_ok h
  · exact f43_ok h
  · exact f44_ok h
  · exact f45_ok h
  · exact h.elim
def D8 : Draws := fun id => match id with | 9 => ([0, 0, 0, 7, 15, 31, 31, 31, 255, 511, 1023, 2047, 4095, 8191, 16383, 32767, 65535, 131071, 262143, 524287, 1048575, 2097151, 1048575, 5242879, 16777215, 33554431, 67108863, 134217727, 268435455, 134217727, 671088639, 134217727, 3892314111, 8187281407, 134217727, 17314086911, 68316823551, 137036300287, 274877906943, 549755813887, 1099511627775, 2199023255551, 4398046511103, 2199023255551, 10995116277759, 2199023255551, 37383395344383, 134140418588671, 281474976710655, 562949953421311, 1125899906842623], [], [], (.one 0 (.one 1 (.one 2 (.one 3 (.one 4 (.one 5 (.one 6 (.one 7 (.one 8 (.one 9 (.one 10 (.one 11 (.one 12 (.one 13 (.one 14 (.one 15 (.one 16 (.one 17 (.one 18 (.one 19 (.one 20 (.one 21 (.one 22 (.one 23 (.one 24 (.one 25 (.one 26 (.one 27 (.one 28 (.one 29 (.one 30 (.one 31 (.one 32 (.one 33 (.one 34 (.one 35 (.one 36 (.one 37 (.one 38 (.one 39 (.one 40 (.one 41 (.one 42 (.one 43 (.one 44 (.one 45 (.one 46 (.one 47 (.one 48 (.one 49 (.one 50 .nil)))))))))))))))))))))))))))))))))))))))))))))))))))) | _ => ([], [], [], .nil)
theorem f8_ok {lo : Nat} {args : List AV} {η : List Blk} {K : AV → List Blk → Prop} (h : SDL lo args η K) : AF Try.prog lo 8 args η K := by
  unfold SDL at h
  split at h
  · obtain ⟨g, hr, hml, hK⟩ := h
    have hn := (noLoc8 hr).1
    refine AF_run Sp8_ok D8 [] [.tmp 2] hm Try.func8 rfl (by decide) Try.ntmps8 rfl (by kernel_rfl) (Nat.le_of_ble_eq_true rfl) ?_; intro hlo
    repeat' (first | with_reducible refine iteI (fun _ => ?_) (fun _ => ?_) | ((first | unfold AOpsC | unfold AOpsD | skip); simp (maxSteps := 1000000) (disch := (first | omega | assumption | (simp only [List.length_append, List.length_cons, List.length_nil, List.length_set]; omega))) only [go_sem, ↓skipC, ↓exitC, ↓retC, ↓seqC, ↓blockC, ↓condC, ↓regC, ↓drawC, ↓drawStep, ↓AOpC, ↓AOpF, ↓AOpE, ↓AEff, ↓contE_at, ↓contC_at, ↓keepC_at, ↓keepW_at, ↓map_parts, ↓reduceIte, reduceCtorEq, Nat.reduceLT, Nat.reduceEqDiff, Nat.reduceAdd, Nat.reduceMul, Nat.reduceLeDiff, Nat.reduceSub, Nat.reduceBEq, Nat.reduceBNe, Nat.reduceBneDiff, Nat.reduceBeqDiff, ag_28, ag_3, ag_39, ag_48, ag_52, by_28, by_3, by_39, by_48, by_52, el_28, fi_39_1, fi_48_0, fi_48_1, fi_48_2, fi_52_0, fi_52_1, fi_52_2, in_3, nf_39, nf_48, nf_52, pl_39, pl_48, pl_52, ps_39, ps_48, ps_52, sz_28, sz_3, sz_39, sz_48, sz_52, ze_28, ze_3, ze_39, ze_48, ze_52, Sp8, SLh, SOk, SBorder, D8, ↓hn]))
    unfold SBig
    refine ⟨g, hr, hml, ?_⟩
    by_cases hl : (1048576 : Int) < g.length
    · repeat' (first | with_reducible refine iteI (fun _ => ?_) (fun _ => ?_) | ((first | unfold AOpsC | unfold AOpsD | skip); simp (maxSteps := 1000000) (disch := (first | omega | assumption | (simp only [List.length_append, List.length_cons, List.length_nil, List.length_set]; omega))) only [go_sem, ↓skipC, ↓exitC, ↓retC, ↓seqC, ↓blockC, ↓condC, ↓regC, ↓drawC, ↓drawStep, ↓AOpC, ↓AOpF, ↓AOpE, ↓AEff, ↓contE_at, ↓contC_at, ↓keepC_at, ↓keepW_at, ↓map_parts, ↓reduceIte, reduceCtorEq, Nat.reduceLT, Nat.reduceEqDiff, Nat.reduceAdd, Nat.reduceMul, Nat.reduceLeDiff, Nat.reduceSub, Nat.reduceBEq, Nat.reduceBNe, Nat.reduceBneDiff, Nat.reduceBeqDiff, ag_28, ag_3, ag_39, ag_48, ag_52, by_28, by_3, by_39, by_48, by_52, el_28, fi_39_1, fi_48_0, fi_48_1, fi_48_2, fi_52_0, fi_52_1, fi_52_2, in_3, nf_39, nf_48, nf_52, pl_39, pl_48, pl_52, ps_39, ps_48, ps_52, sz_28, sz_3, sz_39, sz_48, sz_52, ze_28, ze_3, ze_39, ze_48, ze_52, Sp8, SLh, SOk, SBorder, D8, ↓hn, hl]))
      exact hK _
    repeat' (first | with_reducible refine iteI (fun _ => ?_) (fun _ => ?_) | ((first | unfold AOpsC | unfold AOpsD | skip); simp (maxSteps := 1000000) (disch := (first | omega | assumption | (simp only [List.length_append, List.length_cons, List.length_nil, List.length_set]; omega))) only [go_sem, ↓skipC, ↓exitC, ↓retC, ↓seqC, ↓blockC, ↓condC, ↓regC, ↓drawC, ↓drawStep, ↓AOpC, ↓AOpF, ↓AOpE, ↓AEff, ↓contE_at, ↓contC_at, ↓keepC_at, ↓keepW_at, ↓map_parts, ↓reduceIte, reduceCtorEq, Nat.reduceLT, Nat.reduceEqDiff, Nat.reduceAdd, Nat.reduceMul, Nat.reduceLeDiff, Nat.reduceSub, Nat.reduceBEq, Nat.reduceBNe, Nat.reduceBneDiff, Nat.reduceBeqDiff, ag_28, ag_3, ag_39, ag_48, ag_52, by_28, by_3, by_39, by_48, by_52, el_28, fi_39_1, fi_48_0, fi_48_1, fi_48_2, fi_52_0, fi_52_1, fi_52_2, in_3, nf_39, nf_48, nf_52, pl_39, pl_48, pl_52, ps_39, ps_48, ps_52, sz_28, sz_3, sz_39, sz_48, sz_52, ze_28, ze_3, ze_39, ze_48, ze_52, Sp8, SLh, SOk, SBorder, D8, ↓hn, hl]))
    unfold SDrawS
    refine ⟨g, hr, hml, fun HS r l ms ts bs b0 b1 b2 b3 v0 v1 v2 v3 hd hN hx => ?_⟩
    have e1 := hd.1
    obtain ⟨k1, k2, k3, k4, k5, k6, k7, k8⟩ := okT e1
    have hln := mesh_len k1
    have hne := mesh_ne k1
    have hr3 := hd.2.1
    replace hr := hr.ext hx
    have w0 := hN.g0
    have w1 := hN.g1
    have w2 := hN.g2
    have w3 := hN.g3
    have D1 : dec3 45 HS (.sl b0 v0 0 l.length) = l := IsR.dec3 ⟨b0, v0, rfl, w0⟩
    have D2 : decI HS (.sl b1 v1 0 ms.length) = ms := IsI.dec ⟨b1, v1, rfl, w1⟩
    have D3 : decI HS (.sl b2 v2 0 ts.length) = ts := IsI.dec ⟨b2, v2, rfl, w2⟩
    have D4 : decI HS (.sl b3 v3 0 bs.length) = bs := IsI.dec ⟨b3, v3, rfl, w3⟩
    have O1 : ok3 45 HS (.sl b0 v0 0 l.length) := ⟨l, ⟨b0, v0, rfl, w0⟩, by omega⟩
    have O2 : okI HS (.sl b1 v1 0 ms.length) := ⟨ms, ⟨b1, v1, rfl, w1⟩, by omega⟩
    have O3 : okI HS (.sl b2 v2 0 ts.length) := ⟨ts, ⟨b2, v2, rfl, w2⟩, by omega⟩
    have O4 : okI HS (.sl b3 v3 0 bs.length) := ⟨bs, ⟨b3, v3, rfl, w3⟩, by omega⟩
    have hsm := hd.2.2.2.1
    repeat' (first | with_reducible refine iteI (fun _ => ?_) (fun _ => ?_) | ((first | unfold AOpsC | unfold AOpsD | skip); simp (maxSteps := 1000000) (disch := (first | omega | assumption | (simp only [List.length_append, List.length_cons, List.length_nil, List.length_set]; omega))) only [go_sem, ↓skipC, ↓exitC, ↓retC, ↓seqC, ↓blockC, ↓condC, ↓regC, ↓drawC, ↓drawStep, ↓AOpC, ↓AOpF, ↓AOpE, ↓AEff, ↓contE_at, ↓contC_at, ↓keepC_at, ↓keepW_at, ↓map_parts, ↓reduceIte, reduceCtorEq, Nat.reduceLT, Nat.reduceEqDiff, Nat.reduceAdd, Nat.reduceMul, Nat.reduceLeDiff, Nat.reduceSub, Nat.reduceBEq, Nat.reduceBNe, Nat.reduceBneDiff, Nat.reduceBeqDiff, ag_28, ag_3, ag_39, ag_48, ag_52, by_28, by_3, by_39, by_48, by_52, el_28, fi_39_1, fi_48_0, fi_48_1, fi_48_2, fi_52_0, fi_52_1, fi_52_2, in_3, nf_39, nf_48, nf_52, pl_39, pl_48, pl_52, ps_39, ps_48, ps_52, sz_28, sz_3, sz_39, sz_48, sz_52, ze_28, ze_3, ze_39, ze_48, ze_52, Sp8, SLh, SOk, SBorder, D8, ↓hn, w0, w1, w2, w3, D1, D2, D3, D4, O1, O2, O3, O4, e1]))
    unfold SBrD
    refine ⟨g, hr, hml, fun HB y z w hy hz hw hxb => ?_⟩
    replace hN := hN.ext hxb
    clear w0 w1 w2 w3 D1 D2 D3 D4 O1 O2 O3 O4
    have w0 := hN.g0
    have w1 := hN.g1
    have w2 := hN.g2
    have w3 := hN.g3
    have D1 : dec3 45 HB (.sl b0 v0 0 l.length) = l := IsR.dec3 ⟨b0, v0, rfl, w0⟩
    have D2 : decI HB (.sl b1 v1 0 ms.length) = ms := IsI.dec ⟨b1, v1, rfl, w1⟩
    have D3 : decI HB (.sl b2 v2 0 ts.length) = ts := IsI.dec ⟨b2, v2, rfl, w2⟩
    have D4 : decI HB (.sl b3 v3 0 bs.length) = bs := IsI.dec ⟨b3, v3, rfl, w3⟩
    have O1 : ok3 45 HB (.sl b0 v0 0 l.length) := ⟨l, ⟨b0, v0, rfl, w0⟩, by omega⟩
    have O2 : okI HB (.sl b1 v1 0 ms.length) := ⟨ms, ⟨b1, v1, rfl, w1⟩, by omega⟩
    have O3 : okI HB (.sl b2 v2 0 ts.length) := ⟨ts, ⟨b2, v2, rfl, w2⟩, by omega⟩
    have O4 : okI HB (.sl b3 v3 0 bs.length) := ⟨bs, ⟨b3, v3, rfl, w3⟩, by omega⟩
    repeat' (first | with_reducible refine iteI (fun _ => ?_) (fun _ => ?_) | ((first | unfold AOpsC | unfold AOpsD | skip); simp (maxSteps := 1000000) (disch := (first | omega | assumption | (simp only [List.length_append, List.length_cons, List.length_nil, List.length_set]; omega))) only [go_sem, ↓skipC, ↓exitC, ↓retC, ↓seqC, ↓blockC, ↓condC, ↓regC, ↓drawC, ↓drawStep, ↓AOpC, ↓AOpF, ↓AOpE, ↓AEff, ↓contE_at, ↓contC_at, ↓keepC_at, ↓keepW_at, ↓map_parts, ↓reduceIte, reduceCtorEq, Nat.reduceLT, Nat.reduceEqDiff, Nat.reduceAdd, Nat.reduceMul, Nat.reduceLeDiff, Nat.reduceSub, Nat.reduceBEq, Nat.reduceBNe, Nat.reduceBneDiff, Nat.reduceBeqDiff, ag_28, ag_3, ag_39, ag_48, ag_52, by_28, by_3, by_39, by_48, by_52, el_28, fi_39_1, fi_48_0, fi_48_1, fi_48_2, fi_52_0, fi_52_1, fi_52_2, in_3, nf_39, nf_48, nf_52, pl_39, pl_48, pl_52, ps_39, ps_48, ps_52, sz_28, sz_3, sz_39, sz_48, sz_52, ze_28, ze_3, ze_39, ze_48, ze_52, Sp8, SLh, SOk, SBorder, D8, w0, w1, w2, w3, D1, D2, D3, D4, O1, O2, O3, O4, e1]))
    unfold SBrS
    simp only [w0, w1, w2, w3, D1, D2, D3, D4, O1, O2, O3, O4, true_and, and_self]
    refine fun H1 c0 c1 c2 c3 u0 u1 u2 u3 hM xu => ?_
    obtain ⟨q0, e2, q1, q2, q3, q4⟩ := bord_ok e1 hsm hy hz hw
    have hbb : borderB y z w = true := by simp [borderB, inB]; omega
    have hB : wBrB r l ms ts bs y z w = true := by simp [wBrB, e1, hbb]
    have z0 : wBrM r l ms ts bs y z w = nBrM l ms ts y z w := if_pos hB
    have z1 : wBrT r l ms ts bs y z w = nBrT l ms ts y z w := if_pos hB
    have z2 : wBrL r l ms ts bs y z w = (y, bOut ms w, y * z, bTr ms ts w) := by rw [wBrL, if_pos hB, nBrL, if_pos q0]
    rw [z0, z1] at hM
    rw [z0, z1, z2]
    have ml := nBrM_len l ms ts y z w
    have tl := nBrT_len l ms ts y z w
    have yz := mul_yz (y := y) (z := z) (by omega) hz
    have hs0 := ts_le k7 (by omega)
    have lh1 := lh_true (p := y) (q := bOut ms w) (u := y * z) (w := bTr ms ts w) e1 e2 q1 q2 (by omega)
    have lh2 : lhB r l ms ts bs r l (nBrM l ms ts y z w) (nBrT l ms ts y z w) bs (y + 1) (bOut ms w) (y * z) (bTr ms ts w) = false := by
      rw [lh_eq e1 e2 (by omega), show decide ((nBrM l ms ts y z w).sum = ms.sum + (y + 1) - bOut ms w) = false by rw [decide_eq_false_iff_not]; omega]
      rfl
    have hbo : (ms.getD (ms.length - 1) 0 * w).tdiv 1000 = bOut ms w := rfl
    have cJ := cells_at k7 (i := ms.length - 1) (by omega)
    have bw := bout_bd (ms := ms) hw (by omega)
    generalize nBrM l ms ts y z w = M at *
    generalize nBrT l ms ts y z w = T at *
    generalize bTr ms ts w = tr at *
    generalize hbo' : bOut ms w = ob at *
    have hN1 := hN.ext xu
    clear w0 w1 w2 w3 D1 D2 D3 D4 O1 O2 O3 O4 z0 z1 z2
    have w0 := hN1.g0
    have w1 := hN1.g1
    have w2 := hN1.g2
    have w3 := hN1.g3
    have D1 : dec3 45 H1 (.sl b0 v0 0 l.length) = l := IsR.dec3 ⟨b0, v0, rfl, w0⟩
    have D2 : decI H1 (.sl b1 v1 0 ms.length) = ms := IsI.dec ⟨b1, v1, rfl, w1⟩
    have D3 : decI H1 (.sl b2 v2 0 ts.length) = ts := IsI.dec ⟨b2, v2, rfl, w2⟩
    have D4 : decI H1 (.sl b3 v3 0 bs.length) = bs := IsI.dec ⟨b3, v3, rfl, w3⟩
    have O1 : ok3 45 H1 (.sl b0 v0 0 l.length) := ⟨l, ⟨b0, v0, rfl, w0⟩, by omega⟩
    have O2 : okI H1 (.sl b1 v1 0 ms.length) := ⟨ms, ⟨b1, v1, rfl, w1⟩, by omega⟩
    have O3 : okI H1 (.sl b2 v2 0 ts.length) := ⟨ts, ⟨b2, v2, rfl, w2⟩, by omega⟩
    have O4 : okI H1 (.sl b3 v3 0 bs.length) := ⟨bs, ⟨b3, v3, rfl, w3⟩, by omega⟩
    have w0m := hM.g0
    have w1m := hM.g1
    have w2m := hM.g2
    have w3m := hM.g3
    have D1m : dec3 45 H1 (.sl c0 u0 0 l.length) = l := IsR.dec3 ⟨c0, u0, rfl, w0m⟩
    have D2m : decI H1 (.sl c1 u1 0 M.length) = M := IsI.dec ⟨c1, u1, rfl, w1m⟩
    have D3m : decI H1 (.sl c2 u2 0 T.length) = T := IsI.dec ⟨c2, u2, rfl, w2m⟩
    have D4m : decI H1 (.sl c3 u3 0 bs.length) = bs := IsI.dec ⟨c3, u3, rfl, w3m⟩
    have O1m : ok3 45 H1 (.sl c0 u0 0 l.length) := ⟨l, ⟨c0, u0, rfl, w0m⟩, by omega⟩
    have O2m : okI H1 (.sl c1 u1 0 M.length) := ⟨M, ⟨c1, u1, rfl, w1m⟩, by omega⟩
    have O3m : okI H1 (.sl c2 u2 0 T.length) := ⟨T, ⟨c2, u2, rfl, w2m⟩, by omega⟩
    have O4m : okI H1 (.sl c3 u3 0 bs.length) := ⟨bs, ⟨c3, u3, rfl, w3m⟩, by omega⟩
    obtain ⟨J, hJ⟩ : ∃ J : Nat, (ms.length : Int) - 1 = J := ⟨ms.length - 1, by omega⟩
    have hJ' : ms.length - 1 = J := by omega
    rw [hJ'] at hbo bw cJ
    repeat' (first | with_reducible refine iteI (fun _ => ?_) (fun _ => ?_) | ((first | unfold AOpsC | unfold AOpsD | skip); simp (maxSteps := 1000000) (disch := (first | omega | assumption | (simp only [List.length_append, List.length_cons, List.length_nil, List.length_set]; omega))) only [go_sem, ↓skipC, ↓exitC, ↓retC, ↓seqC, ↓blockC, ↓condC, ↓regC, ↓drawC, ↓drawStep, ↓AOpC, ↓AOpF, ↓AOpE, ↓AEff, ↓contE_at, ↓contC_at, ↓keepC_at, ↓keepW_at, ↓map_parts, ↓reduceIte, reduceCtorEq, Nat.reduceLT, Nat.reduceEqDiff, Nat.reduceAdd, Nat.reduceMul, Nat.reduceLeDiff, Nat.reduceSub, Nat.reduceBEq, Nat.reduceBNe, Nat.reduceBneDiff, Nat.reduceBeqDiff, ag_28, ag_3, ag_39, ag_48, ag_52, by_28, by_3, by_39, by_48, by_52, el_28, fi_39_1, fi_48_0, fi_48_1, fi_48_2, fi_52_0, fi_52_1, fi_52_2, in_3, nf_39, nf_48, nf_52, pl_39, pl_48, pl_52, ps_39, ps_48, ps_52, sz_28, sz_3, sz_39, sz_48, sz_52, ze_28, ze_3, ze_39, ze_48, ze_52, Sp8, SLh, SOk, SBorder, D8, w0, w1, w2, w3, D1, D2, D3, D4, O1, O2, O3, O4, w0m, w1m, w2m, w3m, D1m, D2m, D3m, D4m, O1m, O2m, O3m, O4m, e1, e2, lh1, lh2, hbb, hJ, hbo]))
    exact hK _
  · exact h.elim

/- the law -/
theorem law_ok {blks : List Blk} {x0 : AV} (s0 : AvSh blks (.rows 5 1 .u8) x0) : AF Try.prog blks.length 8 [x0] blks fun v _ => v = .bool true := by
  obtain ⟨l, hl, hlm⟩ := row8 s0
  exact f8_ok (show SDL blks.length _ _ _ from ⟨l, hl, hlm, fun _ => rfl⟩)

end Go.Proofs.Ytffefndnnbcplaa
