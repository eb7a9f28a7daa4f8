/- What functions of the program compute, said in the abstract logic; no conditions. -/
import Derived.Test.YtaalpmbopkbdiaaGBase
import Derived.Test.YtaalpmbopkbdiaaGIn
import Derived.Test.YtaalpmbopkbdiaaGDraw
import Derived.Test.YtaalpmbopkbdiaaGMesh
import Derived.Test.YtaalpmbopkbdiaaGIds
import Derived.Test.YtaalpmbopkbdiaaGEv
import Derived.Test.YtaalpmbopkbdiaaGRes
import Derived.Test.YtaalpmbopkbdiaaGBal
import Derived.Test.YtaalpmbopkbdiaaGCost
import Derived.Test.YtaalpmbopkbdiaaGMeshN
import Derived.Test.YtaalpmbopkbdiaaGDrawM
import Derived.Test.YtaalpmbopkbdiaaGDrawN
import Derived.Test.YtaalpmbopkbdiaaGIdx
import Derived.Test.YtaalpmbopkbdiaaGState
import Derived.Test.YtaalpmbopkbdiaaGCopy
import Derived.Test.YtaalpmbopkbdiaaGBalc
import Derived.Test.YtaalpmbopkbdiaaGBalw
import Derived.Test.YtaalpmbopkbdiaaGInts
import Derived.Test.YtaalpmbopkbdiaaGStTo
import Derived.Test.YtaalpmbopkbdiaaGResS
import Derived.Test.YtaalpmbopkbdiaaGOwn
import Derived.Test.YtaalpmbopkbdiaaGDrawS
import Derived.Test.YtaalpmbopkbdiaaGDLaw
import Derived.Test.YtaalpmbopkbdiaaGOut
import Derived.Test.YtaalpmbopkbdiaaGDiv
import Derived.Test.YtaalpmbopkbdiaaGShare
import Derived.Test.YtaalpmbopkbdiaaGFlux
import Derived.Test.YtaalpmbopkbdiaaGFlux2
import Derived.Test.YtaalpmbopkbdiaaGRem
import Derived.Test.YtaalpmbopkbdiaaGAct
import Derived.Test.YtaalpmbopkbdiaaGMove
import Derived.Test.YtaalpmbopkbdiaaGStepQ
import Derived.Test.YtaalpmbopkbdiaaGSteep
import Derived.Test.YtaalpmbopkbdiaaGLedP
import Derived.Test.YtaalpmbopkbdiaaGStepOk
import Derived.Test.YtaalpmbopkbdiaaGSplS
import Derived.Test.YtaalpmbopkbdiaaGGreat

namespace Go.Proofs.Ytaalpmbopkbdiaa
open Go
set_option linter.unusedSimpArgs false
set_option linter.unusedVariables false
set_option maxRecDepth 100000
set_option maxHeartbeats 8000000
attribute [local go_sem] st0 AC thenA andC locLoadB KsSW_same KsSW_grow oldLoadB noBlkB KsSL_same KsOS_same KsOS_grow pv ev put upd dstOk cv cvc binI setB Value.oneCell' EndA resA resA1 List.mapM_cons List.mapM_nil Option.pure_def Option.bind_eq_bind noLocV noLoc1 noLoc noLocs plainV cellsA newVarA putCells condA lam0 inBlockA cur lenA rowA avoidsB avoidB clearB Array.toList_append Op.operands Call.operands newSlot Nat.zero_add Nat.add_zero Nat.succ_ne_self Nat.lt_add_one Nat.zero_lt_succ true_and and_true true_or or_true false_or or_false and_self true_implies forall_const Bool.false_eq_true Bool.true_eq_false false_implies implies_true imp_self ne_eq not_false_eq_true not_true_eq_false false_and and_false List.getElem?_toArray List.getElem?_cons_succ List.getElem?_cons_zero Option.bind_some Option.map_some Bool.not_true Bool.not_false List.getD_cons_zero List.getD_cons_succ Option.some.injEq exists_eq_left' AV.bool.injEq List.map_cons List.map_nil List.all_cons List.all_nil Bool.and_self Bool.and_true Bool.true_and List.append_nil List.cons_append List.nil_append List.length_cons List.length_nil List.drop_zero List.take_zero List.drop_succ_cons List.take_succ_cons List.take_nil List.drop_nil List.not_mem_nil List.mem_cons List.contains_nil List.contains_cons Bool.or_self Bool.or_true Bool.true_or Bool.false_or Bool.or_false Bool.and_false Bool.false_and KsS_same KsS_grow skipV KsS_ext KsSW_ext KsOS_ext rep1 rep2 rep3 rep4 rep5 List.flatten_cons List.flatten_nil partsA isPtr fillA List.size_toArray ltT ltF leT leF ltTn ltFn leTn leFn eqTi eqFi wrapId toNat1 intGet boolGet memD app_get app_last app_lst app_set app_setL app_setF set_ne set_eq gt_iff_lt ge_iff_le decide_eq_true_eq len2 len3 get20 get21 drop2 put2 get30 get31 get32 drop3 put3 putI pairEta bneTi bneFi beqTi beqFi bne_eq_false_iff_eq beq_eq_false_iff_ne beq_iff_eq bne_iff_ne Int.toNat_natCast Nat.mul_one List.length_map Bool.not_eq_true Bool.not_eq_false Bool.decide_eq_true decide_true decide_false Bool.not_eq_true' Bool.not_eq_false' decide_eq_false_iff_not eq_self Decidable.not_not
theorem great_up (ms ts : List Int) : ∀ n : Nat, 0 ≤ great ms ts n ∧ ∀ j : Nat, j < n → 0 < ms.getD j 0 → upq ms ts j ≤ great ms ts n
  | 0 => ⟨by simp [great], fun j h => by omega⟩
  | n + 1 => by
    obtain ⟨h1, h2⟩ := great_up ms ts n
    rw [great]
    split
    · rename_i hc
      refine ⟨by omega, fun j hj hm => ?_⟩
      by_cases e : j = n
      · subst e; exact Int.le_refl _
      · have := h2 j (by omega) hm
        omega
    · rename_i hc
      refine ⟨h1, fun j hj hm => ?_⟩
      by_cases e : j = n
      · subst e
        have : ¬ great ms ts j < upq ms ts j := fun h => hc ⟨hm, h⟩
        omega
      · exact h2 j (by omega) hm
theorem great_le {ms ts : List Int} {Hi : Int} (h0 : 0 ≤ Hi) : ∀ n : Nat, (∀ j : Nat, j < n → 0 < ms.getD j 0 → upq ms ts j ≤ Hi) → great ms ts n ≤ Hi
  | 0, _ => by simpa [great] using h0
  | n + 1, h => by
    have ih := great_le h0 n fun j hj => h j (by omega)
    rw [great]
    split
    · rename_i hc; exact h n (by omega) hc.1
    · exact ih
theorem least_lo (ms ts : List Int) (hq : ∀ j : Nat, 0 < ms.getD j 0 → 0 ≤ loq ms ts j) : ∀ n : Nat, (∀ j : Nat, j < n → 0 < ms.getD j 0 → 0 ≤ least ms ts n ∧ least ms ts n ≤ loq ms ts j) ∧ (0 ≤ least ms ts n → ∃ j : Nat, j < n ∧ 0 < ms.getD j 0 ∧ least ms ts n = loq ms ts j)
  | 0 => ⟨fun j h => by omega, fun h => by simp [least] at h⟩
  | n + 1 => by
    obtain ⟨h1, h2⟩ := least_lo ms ts hq n
    rw [least]
    split
    · rename_i hc
      refine ⟨fun j hj hm => ?_, fun _ => ⟨n, by omega, hc.1, rfl⟩⟩
      by_cases e : j = n
      · subst e; exact ⟨hq j hm, Int.le_refl _⟩
      · have a := h1 j (by omega) hm
        have b := hq n hc.1
        rcases hc.2 with c | c <;> omega
    · rename_i hc
      refine ⟨fun j hj hm => ?_, fun h => ?_⟩
      · by_cases e : j = n
        · subst e
          have a : ¬ least ms ts j < 0 := fun h => hc ⟨hm, .inl h⟩
          have b : ¬ loq ms ts j < least ms ts j := fun h => hc ⟨hm, .inr h⟩
          omega
        · exact h1 j (by omega) hm
      · obtain ⟨j, a, b, c⟩ := h2 h
        exact ⟨j, by omega, b, c⟩
theorem upq_iff {ms ts : List Int} {j : Nat} {Hi : Int} (hm : 0 < ms.getD j 0) (ht : 0 ≤ ts.getD j 0) : upq ms ts j ≤ Hi ↔ ts.getD j 0 ≤ Hi * ms.getD j 0 := by
  unfold upq
  rw [Int.tdiv_eq_ediv_of_nonneg (by omega)]
  constructor
  · intro h
    have : (ts.getD j 0 + ms.getD j 0 - 1) / ms.getD j 0 < Hi + 1 := by omega
    rw [Int.ediv_lt_iff_lt_mul hm, Int.add_mul] at this
    omega
  · intro h
    have : (ts.getD j 0 + ms.getD j 0 - 1) / ms.getD j 0 < Hi + 1 := by
      rw [Int.ediv_lt_iff_lt_mul hm, Int.add_mul]
      omega
    omega
theorem loq_iff {ms ts : List Int} {j : Nat} {Lo : Int} (hm : 0 < ms.getD j 0) (ht : 0 ≤ ts.getD j 0) : Lo ≤ loq ms ts j ↔ Lo * ms.getD j 0 ≤ ts.getD j 0 := by
  unfold loq
  rw [Int.tdiv_eq_ediv_of_nonneg ht]
  exact Int.le_ediv_iff_mul_le hm
/-- The range of the shares, as the laws see it; the mesh may change. -/
theorem share_rng {r : Int} {l l' : List Id3} {ms ts bs ms' ts' : List Int} (e1 : okB r l ms ts bs = true) (e2 : okB r l' ms' ts' bs = true) (hs : ms'.sum = ms.sum)
    (h : ∀ Lo Hi : Int, (∀ j, j < ms.length → Lo * ms.getD j 0 ≤ ts.getD j 0 ∧ ts.getD j 0 ≤ Hi * ms.getD j 0) → ∀ j, j < ms'.length → Lo * ms'.getD j 0 ≤ ts'.getD j 0 ∧ ts'.getD j 0 ≤ Hi * ms'.getD j 0) :
    greatR r l' ms' ts' bs ≤ greatR r l ms ts bs ∧ leastR r l ms ts bs ≤ leastR r l' ms' ts' bs := by
  obtain ⟨k1, k2, k3, k4, k5, k6, k7, k8⟩ := okT e1
  obtain ⟨k1', k2', k3', k4', k5', k6', k7', k8'⟩ := okT e2
  have q1 : ∀ j : Nat, 0 < ms.getD j 0 → 0 ≤ loq ms ts j := fun j hm => by
    have hj : j < ms.length := by
      by_cases h : j < ms.length
      · exact h
      · rw [List.getD_eq_getElem?_getD, List.getElem?_eq_none (by omega)] at hm; simp at hm
    exact (loq_iff hm (cells_at k7 hj).2.2.1).2 (by have := cells_at k7 hj; omega)
  have q2 : ∀ j : Nat, 0 < ms'.getD j 0 → 0 ≤ loq ms' ts' j := fun j hm => by
    have hj : j < ms'.length := by
      by_cases h : j < ms'.length
      · exact h
      · rw [List.getD_eq_getElem?_getD, List.getElem?_eq_none (by omega)] at hm; simp at hm
    exact (loq_iff hm (cells_at k7' hj).2.2.1).2 (by have := cells_at k7' hj; omega)
  obtain ⟨g1, g2⟩ := great_up ms ts ms.length
  obtain ⟨a1, a2⟩ := least_lo ms ts q1 ms.length
  obtain ⟨b1, b2⟩ := least_lo ms' ts' q2 ms'.length
  have lo := h (if least ms ts ms.length < 0 then 0 else least ms ts ms.length) (great ms ts ms.length) (fun j hj => by
    have c := cells_at k7 hj
    by_cases hm : 0 < ms.getD j 0
    · have u := (upq_iff hm c.2.2.1).1 (g2 j hj hm)
      have v := a1 j hj hm
      rw [if_neg (by omega)]
      exact ⟨(loq_iff hm c.2.2.1).1 v.2, u⟩
    · have : ms.getD j 0 = 0 := by omega
      rw [this]
      omega)
  rw [greatR, if_pos e2, greatR, if_pos e1, leastR, if_pos e1, leastR, if_pos e2]
  constructor
  · exact great_le g1 _ fun j hj hm => (upq_iff hm (cells_at k7' hj).2.2.1).2 (lo j (by omega)).2
  · by_cases h0 : least ms' ts' ms'.length < 0
    · rw [if_pos h0]
      have hz : ∀ j, j < ms'.length → ms'.getD j 0 = 0 := fun j hj => by
        have c := cells_at k7' hj
        by_cases hm : 0 < ms'.getD j 0
        · have := b1 j hj hm; omega
        · omega
      have s0 : ms'.sum = 0 := by
        rw [sum_getD, sumN_congr (g := fun _ => 0) hz]
        have : ∀ n, sumN (fun _ => (0 : Int)) n = 0 := fun n => by
          induction n with
          | zero => rfl
          | succ n ih => rw [sumN, ih]; rfl
        exact this _
      by_cases h1 : least ms ts ms.length < 0
      · rw [if_pos h1]; exact Int.le_refl _
      · exfalso
        obtain ⟨j, c1, c2, c3⟩ := a2 (by omega)
        have := sumN_one (f := fun i => ms.getD i 0) (n := ms.length) (i := j) (fun i hi => (cells_at k7 hi).1) c1
        rw [← sum_getD] at this
        omega
    · rw [if_neg h0]
      obtain ⟨j, c1, c2, c3⟩ := b2 (by omega)
      rw [c3]
      exact (loq_iff c2 (cells_at k7' c1).2.2.1).2 (lo j (by omega)).1
/-- The range of the shares, as the laws see it. -/
theorem share_range {r : Int} {l : List Id3} {ms ts bs ms' ts' : List Int} (e1 : okB r l ms ts bs = true) (e2 : okB r l ms' ts' bs = true) (hs : ms'.sum = ms.sum)
    (h : ∀ Lo Hi : Int, (∀ j, j < ms.length → Lo * ms.getD j 0 ≤ ts.getD j 0 ∧ ts.getD j 0 ≤ Hi * ms.getD j 0) → ∀ j, j < ms.length → Lo * ms'.getD j 0 ≤ ts'.getD j 0 ∧ ts'.getD j 0 ≤ Hi * ms'.getD j 0) :
    greatR r l ms' ts' bs ≤ greatR r l ms ts bs ∧ leastR r l ms ts bs ≤ leastR r l ms' ts' bs := by
  have k := okT e1
  have k' := okT e2
  exact share_rng e1 e2 hs fun Lo Hi hh j hj => h Lo Hi hh j (by omega)
/-- The least share is no greater than the greatest one. -/
theorem least_great {r : Int} {l : List Id3} {ms ts bs : List Int} (e1 : okB r l ms ts bs = true) : leastR r l ms ts bs ≤ greatR r l ms ts bs ∧ greatR r l ms ts bs ≤ 1000 := by
  obtain ⟨k1, k2, k3, k4, k5, k6, k7, k8⟩ := okT e1
  have q1 : ∀ j : Nat, 0 < ms.getD j 0 → 0 ≤ loq ms ts j := fun j hm => by
    have hj : j < ms.length := by
      by_cases h : j < ms.length
      · exact h
      · rw [List.getD_eq_getElem?_getD, List.getElem?_eq_none (by omega)] at hm; simp at hm
    exact (loq_iff hm (cells_at k7 hj).2.2.1).2 (by have := cells_at k7 hj; omega)
  obtain ⟨g1, g2⟩ := great_up ms ts ms.length
  obtain ⟨a1, a2⟩ := least_lo ms ts q1 ms.length
  rw [greatR, if_pos e1, leastR, if_pos e1]
  refine ⟨?_, great_le (by omega) _ fun j hj hm => (upq_iff hm (cells_at k7 hj).2.2.1).2 (by have := cells_at k7 hj; omega)⟩
  by_cases h0 : least ms ts ms.length < 0
  · rw [if_pos h0]; exact g1
  · rw [if_neg h0]
    obtain ⟨j, c1, c2, c3⟩ := a2 (by omega)
    have u := g2 j c1 c2
    have c := cells_at k7 c1
    have v := (loq_iff (Lo := loq ms ts j) c2 c.2.2.1).1 (Int.le_refl _)
    have w := (upq_iff (Hi := upq ms ts j) c2 c.2.2.1).1 (Int.le_refl _)
    have : loq ms ts j ≤ upq ms ts j := by
      rcases Int.lt_or_le (upq ms ts j) (loq ms ts j) with h | h
      · exfalso
        have : upq ms ts j * ms.getD j 0 + ms.getD j 0 ≤ loq ms ts j * ms.getD j 0 := by
          rw [show upq ms ts j * ms.getD j 0 + ms.getD j 0 = (upq ms ts j + 1) * ms.getD j 0 by rw [Int.add_mul, Int.one_mul]]
          exact Int.mul_le_mul_of_nonneg_right (by omega) c.1
        omega
      · exact h
    omega

/- laws.FnSharesKept -/
def Sp3 (lo : Nat) : Spec := fun g args η K => match g with | 8 => SBig lo args η K | 9 => SDrawS lo args η K | 10 => SPlaces lo args η K | 11 => SBrf args η K | 12 => SGreat args η K | 13 => SLeast args η K | 14 => SGreat args η K | _ => False
theorem Sp3_ok {lo : Nat} : Sound Try.prog lo (Sp3 lo) := by
  intro g args η K h
  unfold Sp3 at h
  split at h
  · exact f8_ok h
  · exact f9_ok h
  · exact f10_ok h
  · exact f11_ok h
  · exact f12_ok h
  · exact f13_ok h
  · exact f14_ok h
  · exact h.elim
def Dr3 : Draws := fun id => match id with | 5 => ([0, 0, 2, 6, 0, 16, 48, 126, 255, 511, 1023, 1023, 0, 6143, 16383], [], [(0, 5), (1, 5), (2, 5), (3, 5), (4, 5), (5, 5), (6, 5), (7, 5), (8, 5), (9, 5), (10, 5), (11, 5)], (.one 12 (.one 0 (.one 1 (.one 2 (.one 3 (.one 4 (.one 5 (.one 6 (.one 7 (.one 8 (.one 9 (.one 10 (.one 11 (.one 13 (.one 14 .nil)))))))))))))))) | _ => ([], [], [], .nil)
theorem f3_ok {lo : Nat} {args : List AV} {η : List Blk} {K : AV → List Blk → Prop} (h : SDL lo args η K) : AF Try.prog lo 3 args η K := by
  unfold SDL at h
  split at h
  · obtain ⟨g, hr, hml, hK⟩ := h
    have hn := (noLoc8 hr).1
    refine AF_run Sp3_ok Dr3 [] [.tmp 2] hm Try.func3 rfl (by decide) Try.ntmps3 rfl (by kernel_rfl) (Nat.le_of_ble_eq_true rfl) ?_; intro hlo
    repeat' (first | with_reducible refine iteI (fun _ => ?_) (fun _ => ?_) | ((first | unfold AOpsC | unfold AOpsD | skip); simp (maxSteps := 1000000) (disch := (first | omega | assumption | (simp only [List.length_append, List.length_cons, List.length_nil, List.length_set]; omega))) only [go_sem, ↓skipC, ↓exitC, ↓retC, ↓seqC, ↓blockC, ↓condC, ↓regC, ↓drawC, ↓drawStep, ↓AOpC, ↓AOpF, ↓AOpE, ↓AEff, ↓contE_at, ↓contC_at, ↓keepC_at, ↓keepW_at, ↓keepO_at, ↓keepL_at, ↓map_parts, ↓reduceIte, reduceCtorEq, Nat.reduceLT, Nat.reduceEqDiff, Nat.reduceAdd, Nat.reduceMul, Nat.reduceLeDiff, Nat.reduceSub, Nat.reduceBEq, Nat.reduceBNe, Nat.reduceBneDiff, Nat.reduceBeqDiff, ag_27, ag_29, ag_3, by_27, by_29, by_3, el_27, fi_29_1, in_3, nf_29, pl_29, ps_29, sz_27, sz_29, sz_3, ze_27, ze_29, ze_3, Sp3, SGreat, SLeast, Dr3, ↓hn]))
    unfold SBig
    refine ⟨g, hr, hml, ?_⟩
    by_cases hl : (1048576 : Int) < g.length
    · repeat' (first | with_reducible refine iteI (fun _ => ?_) (fun _ => ?_) | ((first | unfold AOpsC | unfold AOpsD | skip); simp (maxSteps := 1000000) (disch := (first | omega | assumption | (simp only [List.length_append, List.length_cons, List.length_nil, List.length_set]; omega))) only [go_sem, ↓skipC, ↓exitC, ↓retC, ↓seqC, ↓blockC, ↓condC, ↓regC, ↓drawC, ↓drawStep, ↓AOpC, ↓AOpF, ↓AOpE, ↓AEff, ↓contE_at, ↓contC_at, ↓keepC_at, ↓keepW_at, ↓keepO_at, ↓keepL_at, ↓map_parts, ↓reduceIte, reduceCtorEq, Nat.reduceLT, Nat.reduceEqDiff, Nat.reduceAdd, Nat.reduceMul, Nat.reduceLeDiff, Nat.reduceSub, Nat.reduceBEq, Nat.reduceBNe, Nat.reduceBneDiff, Nat.reduceBeqDiff, ag_27, ag_29, ag_3, by_27, by_29, by_3, el_27, fi_29_1, in_3, nf_29, pl_29, ps_29, sz_27, sz_29, sz_3, ze_27, ze_29, ze_3, Sp3, SGreat, SLeast, Dr3, ↓hn, hl]))
      exact hK _
    repeat' (first | with_reducible refine iteI (fun _ => ?_) (fun _ => ?_) | ((first | unfold AOpsC | unfold AOpsD | skip); simp (maxSteps := 1000000) (disch := (first | omega | assumption | (simp only [List.length_append, List.length_cons, List.length_nil, List.length_set]; omega))) only [go_sem, ↓skipC, ↓exitC, ↓retC, ↓seqC, ↓blockC, ↓condC, ↓regC, ↓drawC, ↓drawStep, ↓AOpC, ↓AOpF, ↓AOpE, ↓AEff, ↓contE_at, ↓contC_at, ↓keepC_at, ↓keepW_at, ↓keepO_at, ↓keepL_at, ↓map_parts, ↓reduceIte, reduceCtorEq, Nat.reduceLT, Nat.reduceEqDiff, Nat.reduceAdd, Nat.reduceMul, Nat.reduceLeDiff, Nat.reduceSub, Nat.reduceBEq, Nat.reduceBNe, Nat.reduceBneDiff, Nat.reduceBeqDiff, ag_27, ag_29, ag_3, by_27, by_29, by_3, el_27, fi_29_1, in_3, nf_29, pl_29, ps_29, sz_27, sz_29, sz_3, ze_27, ze_29, ze_3, Sp3, SGreat, SLeast, Dr3, ↓hn, hl]))
    unfold SDrawS
    refine ⟨g, hr, hml, fun HS r l ms ts bs b0 b1 b2 b3 v0 v1 v2 v3 hd hN hx => ?_⟩
    have e1 := hd.1
    obtain ⟨k1, k2, k3, k4, k5, k6, k7, k8⟩ := okT e1
    have hln := mesh_len k1
    have hne := mesh_ne k1
    have hr3 := hd.2.1
    replace hr := hr.ext hx
    have w0 := hN.g0
    have w1 := hN.g1
    have w2 := hN.g2
    have w3 := hN.g3
    have D1 : dec3 63 HS (.sl b0 v0 0 l.length) = l := IsR.dec3 ⟨b0, v0, rfl, w0⟩
    have D2 : decI HS (.sl b1 v1 0 ms.length) = ms := IsI.dec ⟨b1, v1, rfl, w1⟩
    have D3 : decI HS (.sl b2 v2 0 ts.length) = ts := IsI.dec ⟨b2, v2, rfl, w2⟩
    have D4 : decI HS (.sl b3 v3 0 bs.length) = bs := IsI.dec ⟨b3, v3, rfl, w3⟩
    have O1 : ok3 63 HS (.sl b0 v0 0 l.length) := ⟨l, ⟨b0, v0, rfl, w0⟩, by omega⟩
    have O2 : okI HS (.sl b1 v1 0 ms.length) := ⟨ms, ⟨b1, v1, rfl, w1⟩, by omega⟩
    have O3 : okI HS (.sl b2 v2 0 ts.length) := ⟨ts, ⟨b2, v2, rfl, w2⟩, by omega⟩
    have O4 : okI HS (.sl b3 v3 0 bs.length) := ⟨bs, ⟨b3, v3, rfl, w3⟩, by omega⟩
    repeat' (first | with_reducible refine iteI (fun _ => ?_) (fun _ => ?_) | ((first | unfold AOpsC | unfold AOpsD | skip); simp (maxSteps := 1000000) (disch := (first | omega | assumption | (simp only [List.length_append, List.length_cons, List.length_nil, List.length_set]; omega))) only [go_sem, ↓skipC, ↓exitC, ↓retC, ↓seqC, ↓blockC, ↓condC, ↓regC, ↓drawC, ↓drawStep, ↓AOpC, ↓AOpF, ↓AOpE, ↓AEff, ↓contE_at, ↓contC_at, ↓keepC_at, ↓keepW_at, ↓keepO_at, ↓keepL_at, ↓map_parts, ↓reduceIte, reduceCtorEq, Nat.reduceLT, Nat.reduceEqDiff, Nat.reduceAdd, Nat.reduceMul, Nat.reduceLeDiff, Nat.reduceSub, Nat.reduceBEq, Nat.reduceBNe, Nat.reduceBneDiff, Nat.reduceBeqDiff, ag_27, ag_29, ag_3, by_27, by_29, by_3, el_27, fi_29_1, in_3, nf_29, pl_29, ps_29, sz_27, sz_29, sz_3, ze_27, ze_29, ze_3, Sp3, SGreat, SLeast, Dr3, ↓hn, w0, w1, w2, w3, D1, D2, D3, D4, O1, O2, O3, O4, e1]))
    unfold SPlaces
    refine ⟨g, hr, hml, fun vp HP ps hps hall hi hext => ?_⟩
    obtain ⟨bp, wp, rfl, hbp⟩ := hi
    replace hr := hr.ext hext
    have hpx : ∀ i, i < 12 → 0 ≤ ps.getD i 0 ∧ ps.getD i 0 < 10000 := fun i hi => hall _ (of_eq_true (memD (by omega)))
    replace hN := hN.ext hext
    clear w0 w1 w2 w3 D1 D2 D3 D4 O1 O2 O3 O4
    have w0 := hN.g0
    have w1 := hN.g1
    have w2 := hN.g2
    have w3 := hN.g3
    have D1 : dec3 63 HP (.sl b0 v0 0 l.length) = l := IsR.dec3 ⟨b0, v0, rfl, w0⟩
    have D2 : decI HP (.sl b1 v1 0 ms.length) = ms := IsI.dec ⟨b1, v1, rfl, w1⟩
    have D3 : decI HP (.sl b2 v2 0 ts.length) = ts := IsI.dec ⟨b2, v2, rfl, w2⟩
    have D4 : decI HP (.sl b3 v3 0 bs.length) = bs := IsI.dec ⟨b3, v3, rfl, w3⟩
    have O1 : ok3 63 HP (.sl b0 v0 0 l.length) := ⟨l, ⟨b0, v0, rfl, w0⟩, by omega⟩
    have O2 : okI HP (.sl b1 v1 0 ms.length) := ⟨ms, ⟨b1, v1, rfl, w1⟩, by omega⟩
    have O3 : okI HP (.sl b2 v2 0 ts.length) := ⟨ts, ⟨b2, v2, rfl, w2⟩, by omega⟩
    have O4 : okI HP (.sl b3 v3 0 bs.length) := ⟨bs, ⟨b3, v3, rfl, w3⟩, by omega⟩
    have x0 := hpx 0 (by omega)
    have y0 := tmod_bd (b := (ms.length : Int)) x0.1 (by omega)
    have n0 : ¬ (ms.length : Int) = 0 := by omega
    repeat' (first | with_reducible refine iteI (fun _ => ?_) (fun _ => ?_) | ((first | unfold AOpsC | unfold AOpsD | skip); simp (maxSteps := 1000000) (disch := (first | omega | assumption | (simp only [List.length_append, List.length_cons, List.length_nil, List.length_set]; omega))) only [go_sem, ↓skipC, ↓exitC, ↓retC, ↓seqC, ↓blockC, ↓condC, ↓regC, ↓drawC, ↓drawStep, ↓AOpC, ↓AOpF, ↓AOpE, ↓AEff, ↓contE_at, ↓contC_at, ↓keepC_at, ↓keepW_at, ↓keepO_at, ↓keepL_at, ↓map_parts, ↓reduceIte, reduceCtorEq, Nat.reduceLT, Nat.reduceEqDiff, Nat.reduceAdd, Nat.reduceMul, Nat.reduceLeDiff, Nat.reduceSub, Nat.reduceBEq, Nat.reduceBNe, Nat.reduceBneDiff, Nat.reduceBeqDiff, ag_27, ag_29, ag_3, by_27, by_29, by_3, el_27, fi_29_1, in_3, nf_29, pl_29, ps_29, sz_27, sz_29, sz_3, ze_27, ze_29, ze_3, Sp3, SGreat, SLeast, Dr3, w0, w1, w2, w3, D1, D2, D3, D4, O1, O2, O3, O4, e1, n0, hbp, Int.reduceToNat, Int.toNat_zero, Int.toNat_one, Nat.zero_mul, Nat.one_mul]))
    unfold SBrf
    simp only [w0, w1, w2, w3, D1, D2, D3, D4, O1, O2, O3, O4, true_and, and_self]
    generalize hq : (ps.getD 0 0).tmod ms.length = i at *
    refine fun H2 d0 d1 d2 d3 a0 a1 a2 a3 hM xu => ?_
    have br : okB r (brR r l ms ts bs i).1 (brR r l ms ts bs i).2.1 (brR r l ms ts bs i).2.2 bs = true ∧ (brR r l ms ts bs i).2.1.sum = ms.sum ∧ ∀ Lo Hi, ShR Lo Hi ms ts → ShR Lo Hi (brR r l ms ts bs i).2.1 (brR r l ms ts bs i).2.2 := brR_ok e1
    have sr := share_rng e1 br.1 br.2.1 br.2.2
    have lg := least_great e1
    obtain ⟨h1, h2, h3, h4, h5, h6, h7, h8⟩ := okT br.1
    have hln' := mesh_len h1
    generalize (brR r l ms ts bs i).1 = l' at *
    generalize (brR r l ms ts bs i).2.1 = ms' at *
    generalize (brR r l ms ts bs i).2.2 = ts' at *
    have hN1 := hN.ext xu
    clear w0 w1 w2 w3 D1 D2 D3 D4 O1 O2 O3 O4
    have w0k := hN1.g0
    have w1k := hN1.g1
    have w2k := hN1.g2
    have w3k := hN1.g3
    have D1k : dec3 63 H2 (.sl b0 v0 0 l.length) = l := IsR.dec3 ⟨b0, v0, rfl, w0k⟩
    have D2k : decI H2 (.sl b1 v1 0 ms.length) = ms := IsI.dec ⟨b1, v1, rfl, w1k⟩
    have D3k : decI H2 (.sl b2 v2 0 ts.length) = ts := IsI.dec ⟨b2, v2, rfl, w2k⟩
    have D4k : decI H2 (.sl b3 v3 0 bs.length) = bs := IsI.dec ⟨b3, v3, rfl, w3k⟩
    have O1k : ok3 63 H2 (.sl b0 v0 0 l.length) := ⟨l, ⟨b0, v0, rfl, w0k⟩, by omega⟩
    have O2k : okI H2 (.sl b1 v1 0 ms.length) := ⟨ms, ⟨b1, v1, rfl, w1k⟩, by omega⟩
    have O3k : okI H2 (.sl b2 v2 0 ts.length) := ⟨ts, ⟨b2, v2, rfl, w2k⟩, by omega⟩
    have O4k : okI H2 (.sl b3 v3 0 bs.length) := ⟨bs, ⟨b3, v3, rfl, w3k⟩, by omega⟩
    have w0m := hM.g0
    have w1m := hM.g1
    have w2m := hM.g2
    have w3m := hM.g3
    have D1m : dec3 63 H2 (.sl d0 a0 0 l'.length) = l' := IsR.dec3 ⟨d0, a0, rfl, w0m⟩
    have D2m : decI H2 (.sl d1 a1 0 ms'.length) = ms' := IsI.dec ⟨d1, a1, rfl, w1m⟩
    have D3m : decI H2 (.sl d2 a2 0 ts'.length) = ts' := IsI.dec ⟨d2, a2, rfl, w2m⟩
    have D4m : decI H2 (.sl d3 a3 0 bs.length) = bs := IsI.dec ⟨d3, a3, rfl, w3m⟩
    have O1m : ok3 63 H2 (.sl d0 a0 0 l'.length) := ⟨l', ⟨d0, a0, rfl, w0m⟩, by omega⟩
    have O2m : okI H2 (.sl d1 a1 0 ms'.length) := ⟨ms', ⟨d1, a1, rfl, w1m⟩, by omega⟩
    have O3m : okI H2 (.sl d2 a2 0 ts'.length) := ⟨ts', ⟨d2, a2, rfl, w2m⟩, by omega⟩
    have O4m : okI H2 (.sl d3 a3 0 bs.length) := ⟨bs, ⟨d3, a3, rfl, w3m⟩, by omega⟩
    repeat' (first | with_reducible refine iteI (fun _ => ?_) (fun _ => ?_) | ((first | unfold AOpsC | unfold AOpsD | skip); simp (maxSteps := 1000000) (disch := (first | omega | assumption | (simp only [List.length_append, List.length_cons, List.length_nil, List.length_set]; omega))) only [go_sem, ↓skipC, ↓exitC, ↓retC, ↓seqC, ↓blockC, ↓condC, ↓regC, ↓drawC, ↓drawStep, ↓AOpC, ↓AOpF, ↓AOpE, ↓AEff, ↓contE_at, ↓contC_at, ↓keepC_at, ↓keepW_at, ↓keepO_at, ↓keepL_at, ↓map_parts, ↓reduceIte, reduceCtorEq, Nat.reduceLT, Nat.reduceEqDiff, Nat.reduceAdd, Nat.reduceMul, Nat.reduceLeDiff, Nat.reduceSub, Nat.reduceBEq, Nat.reduceBNe, Nat.reduceBneDiff, Nat.reduceBeqDiff, ag_27, ag_29, ag_3, by_27, by_29, by_3, el_27, fi_29_1, in_3, nf_29, pl_29, ps_29, sz_27, sz_29, sz_3, ze_27, ze_29, ze_3, Sp3, SGreat, SLeast, Dr3, w0k, w1k, w2k, w3k, D1k, D2k, D3k, D4k, O1k, O2k, O3k, O4k, w0m, w1m, w2m, w3m, D1m, D2m, D3m, D4m, O1m, O2m, O3m, O4m]))
    exact hK _
  · exact h.elim

/- the law -/
theorem law_ok {blks : List Blk} {x0 : AV} (s0 : AvSh blks (.rows 5 1 .u8) x0) : AF Try.prog blks.length 3 [x0] blks fun v _ => v = .bool true := by
  obtain ⟨l, hl, hlm⟩ := row8 s0
  exact f3_ok (show SDL blks.length _ _ _ from ⟨l, hl, hlm, fun _ => rfl⟩)

end Go.Proofs.Ytaalpmbopkbdiaa
