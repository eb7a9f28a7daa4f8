/- What functions of the program compute, said in the abstract logic; no conditions. -/
import Derived.Test.YtffefndnnbcplaaGBase
import Derived.Test.YtffefndnnbcplaaGIn
import Derived.Test.YtffefndnnbcplaaGDraw
import Derived.Test.YtffefndnnbcplaaGMesh
import Derived.Test.YtffefndnnbcplaaGIds
import Derived.Test.YtffefndnnbcplaaGEv
import Derived.Test.YtffefndnnbcplaaGRes
import Derived.Test.YtffefndnnbcplaaGBal
import Derived.Test.YtffefndnnbcplaaGCost
import Derived.Test.YtffefndnnbcplaaGMeshN
import Derived.Test.YtffefndnnbcplaaGDrawM
import Derived.Test.YtffefndnnbcplaaGDrawN
import Derived.Test.YtffefndnnbcplaaGIdx
import Derived.Test.YtffefndnnbcplaaGState
import Derived.Test.YtffefndnnbcplaaGCopy
import Derived.Test.YtffefndnnbcplaaGBalc
import Derived.Test.YtffefndnnbcplaaGBalw
import Derived.Test.YtffefndnnbcplaaGInts
import Derived.Test.YtffefndnnbcplaaGStTo
import Derived.Test.YtffefndnnbcplaaGResS
import Derived.Test.YtffefndnnbcplaaGOwn
import Derived.Test.YtffefndnnbcplaaGDrawS
import Derived.Test.YtffefndnnbcplaaGDLaw
import Derived.Test.YtffefndnnbcplaaGDiv
import Derived.Test.YtffefndnnbcplaaGShare
import Derived.Test.YtffefndnnbcplaaGFlux
import Derived.Test.YtffefndnnbcplaaGFlux2
import Derived.Test.YtffefndnnbcplaaGOut
import Derived.Test.YtffefndnnbcplaaGRem
import Derived.Test.YtffefndnnbcplaaGAct
import Derived.Test.YtffefndnnbcplaaGMove
import Derived.Test.YtffefndnnbcplaaGStepQ
import Derived.Test.YtffefndnnbcplaaGSteep
import Derived.Test.YtffefndnnbcplaaGLedP
import Derived.Test.YtffefndnnbcplaaGStepOk
import Derived.Test.YtffefndnnbcplaaGMoveW
import Derived.Test.YtffefndnnbcplaaGStepS
import Derived.Test.YtffefndnnbcplaaGGreat

namespace Go.Proofs.Ytffefndnnbcplaa
open Go
set_option linter.unusedSimpArgs false
set_option linter.unusedVariables false
set_option maxRecDepth 100000
set_option maxHeartbeats 8000000
attribute [local go_sem] st0 AC thenA andC locLoadB KsSW_same KsSW_grow oldLoadB KsOS_same KsOS_grow pv ev put upd dstOk cv cvc binI setB Value.oneCell' EndA resA resA1 List.mapM_cons List.mapM_nil Option.pure_def Option.bind_eq_bind noLocV noLoc1 noLoc noLocs plainV cellsA newVarA putCells condA lam0 inBlockA cur lenA rowA avoidsB avoidB clearB Array.toList_append Op.operands Call.operands newSlot Nat.zero_add Nat.add_zero Nat.succ_ne_self Nat.lt_add_one Nat.zero_lt_succ true_and and_true true_or or_true false_or or_false and_self true_implies forall_const Bool.false_eq_true Bool.true_eq_false false_implies implies_true imp_self ne_eq not_false_eq_true not_true_eq_false false_and and_false List.getElem?_toArray List.getElem?_cons_succ List.getElem?_cons_zero Option.bind_some Option.map_some Bool.not_true Bool.not_false List.getD_cons_zero List.getD_cons_succ Option.some.injEq exists_eq_left' AV.bool.injEq List.map_cons List.map_nil List.all_cons List.all_nil Bool.and_self Bool.and_true Bool.true_and List.append_nil List.cons_append List.nil_append List.length_cons List.length_nil List.drop_zero List.take_zero List.drop_succ_cons List.take_succ_cons List.take_nil List.drop_nil List.not_mem_nil List.mem_cons List.contains_nil List.contains_cons Bool.or_self Bool.or_true Bool.true_or Bool.false_or Bool.or_false Bool.and_false Bool.false_and KsS_same KsS_grow skipV KsS_ext KsSW_ext KsOS_ext rep1 rep2 rep3 rep4 rep5 List.flatten_cons List.flatten_nil partsA isPtr fillA List.size_toArray ltT ltF leT leF ltTn ltFn leTn leFn eqTi eqFi wrapId toNat1 intGet boolGet memD app_get app_last app_lst app_set app_setL app_setF set_ne set_eq gt_iff_lt ge_iff_le decide_eq_true_eq len2 len3 get20 get21 drop2 put2 get30 get31 get32 drop3 put3 putI pairEta bneTi bneFi beqTi beqFi bne_eq_false_iff_eq beq_eq_false_iff_ne beq_iff_eq bne_iff_ne Int.toNat_natCast Nat.mul_one List.length_map Bool.not_eq_true Bool.not_eq_false Bool.decide_eq_true decide_true decide_false Bool.not_eq_true' Bool.not_eq_false' decide_eq_false_iff_not eq_self Decidable.not_not
/-- Masses and tracers after k ticks from t0 on. -/
def itr (l : List Id3) (ms ts bs : List Int) (t0 : Int) : Nat → List Int × List Int
  | 0 => (ms, ts)
  | k + 1 => (nM l (itr l ms ts bs t0 k).1 bs (actL l (t0 + (k : Int))), nT l (itr l ms ts bs t0 k).1 (itr l ms ts bs t0 k).2 bs (actL l (t0 + (k : Int))))
theorem itr_ok {r : Int} {l : List Id3} {ms ts bs : List Int} (t0 : Int) (e1 : okB r l ms ts bs = true) : ∀ k, okB r l (itr l ms ts bs t0 k).1 (itr l ms ts bs t0 k).2 bs = true
  | 0 => e1
  | k + 1 => step_ok (itr_ok t0 e1 k) (act_faces (okT (itr_ok t0 e1 k)).2.2.1)
theorem itr_sum {r : Int} {l : List Id3} {ms ts bs : List Int} (t0 : Int) (e1 : okB r l ms ts bs = true) : ∀ k, (itr l ms ts bs t0 k).1.sum = ms.sum ∧ (itr l ms ts bs t0 k).2.sum = ts.sum
  | 0 => ⟨rfl, rfl⟩
  | k + 1 => by
    have h := step_sum (itr_ok t0 e1 k) (act_faces (l := l) (t := t0 + (k : Int)) (okT (itr_ok t0 e1 k)).2.2.1)
    have ih := itr_sum t0 e1 k
    exact ⟨h.1.trans ih.1, h.2.trans ih.2⟩
theorem itr_len {r : Int} {l : List Id3} {ms ts bs : List Int} (t0 : Int) (e1 : okB r l ms ts bs = true) (k : Nat) : (itr l ms ts bs t0 k).1.length = ms.length ∧ (itr l ms ts bs t0 k).2.length = ts.length := by
  have a := okT e1
  have b := okT (itr_ok t0 e1 k)
  omega
theorem itr_share {r : Int} {l : List Id3} {ms ts bs : List Int} (t0 : Int) (e1 : okB r l ms ts bs = true) {Lo Hi : Int} (h : ∀ j, j < ms.length → Lo * ms.getD j 0 ≤ ts.getD j 0 ∧ ts.getD j 0 ≤ Hi * ms.getD j 0) : ∀ k j, j < ms.length → Lo * (itr l ms ts bs t0 k).1.getD j 0 ≤ (itr l ms ts bs t0 k).2.getD j 0 ∧ (itr l ms ts bs t0 k).2.getD j 0 ≤ Hi * (itr l ms ts bs t0 k).1.getD j 0
  | 0, j, hj => h j hj
  | k + 1, j, hj => by
    have hl := itr_len t0 e1 k
    have ih := itr_share t0 e1 h k
    have st := step_share (itr_ok t0 e1 k) (act_faces (l := l) (t := t0 + (k : Int)) (okT (itr_ok t0 e1 k)).2.2.1) (Lo := Lo) (Hi := Hi) (fun j hj => ih j (by omega)) (j := j) (by omega)
    rw [itr, nM, nT, mapAt _ (by omega), mapAt _ (by omega)]
    exact st
theorem great_up (ms ts : List Int) : ∀ n : Nat, 0 ≤ great ms ts n ∧ ∀ j : Nat, j < n → 0 < ms.getD j 0 → upq ms ts j ≤ great ms ts n
  | 0 => ⟨by simp [great], fun j h => by omega⟩
  | n + 1 => by
    obtain ⟨h1, h2⟩ := great_up ms ts n
    rw [great]
    split
    · rename_i hc
      refine ⟨by omega, fun j hj hm => ?_⟩
      by_cases e : j = n
      · subst e; exact Int.le_refl _
      · have := h2 j (by omega) hm
        omega
    · rename_i hc
      refine ⟨h1, fun j hj hm => ?_⟩
      by_cases e : j = n
      · subst e
        have : ¬ great ms ts j < upq ms ts j := fun h => hc ⟨hm, h⟩
        omega
      · exact h2 j (by omega) hm
theorem great_le {ms ts : List Int} {Hi : Int} (h0 : 0 ≤ Hi) : ∀ n : Nat, (∀ j : Nat, j < n → 0 < ms.getD j 0 → upq ms ts j ≤ Hi) → great ms ts n ≤ Hi
  | 0, _ => by simpa [great] using h0
  | n + 1, h => by
    have ih := great_le h0 n fun j hj => h j (by omega)
    rw [great]
    split
    · rename_i hc; exact h n (by omega) hc.1
    · exact ih
theorem least_lo (ms ts : List Int) (hq : ∀ j : Nat, 0 < ms.getD j 0 → 0 ≤ loq ms ts j) : ∀ n : Nat, (∀ j : Nat, j < n → 0 < ms.getD j 0 → 0 ≤ least ms ts n ∧ least ms ts n ≤ loq ms ts j) ∧ (0 ≤ least ms ts n → ∃ j : Nat, j < n ∧ 0 < ms.getD j 0 ∧ least ms ts n = loq ms ts j)
  | 0 => ⟨fun j h => by omega, fun h => by simp [least] at h⟩
  | n + 1 => by
    obtain ⟨h1, h2⟩ := least_lo ms ts hq n
    rw [least]
    split
    · rename_i hc
      refine ⟨fun j hj hm => ?_, fun _ => ⟨n, by omega, hc.1, rfl⟩⟩
      by_cases e : j = n
      · subst e; exact ⟨hq j hm, Int.le_refl _⟩
      · have a := h1 j (by omega) hm
        have b := hq n hc.1
        rcases hc.2 with c | c <;> omega
    · rename_i hc
      refine ⟨fun j hj hm => ?_, fun h => ?_⟩
      · by_cases e : j = n
        · subst e
          have a : ¬ least ms ts j < 0 := fun h => hc ⟨hm, .inl h⟩
          have b : ¬ loq ms ts j < least ms ts j := fun h => hc ⟨hm, .inr h⟩
          omega
        · exact h1 j (by omega) hm
      · obtain ⟨j, a, b, c⟩ := h2 h
        exact ⟨j, by omega, b, c⟩
theorem upq_iff {ms ts : List Int} {j : Nat} {Hi : Int} (hm : 0 < ms.getD j 0) (ht : 0 ≤ ts.getD j 0) : upq ms ts j ≤ Hi ↔ ts.getD j 0 ≤ Hi * ms.getD j 0 := by
  unfold upq
  rw [Int.tdiv_eq_ediv_of_nonneg (by omega)]
  constructor
  · intro h
    have : (ts.getD j 0 + ms.getD j 0 - 1) / ms.getD j 0 < Hi + 1 := by omega
    rw [Int.ediv_lt_iff_lt_mul hm, Int.add_mul] at this
    omega
  · intro h
    have : (ts.getD j 0 + ms.getD j 0 - 1) / ms.getD j 0 < Hi + 1 := by
      rw [Int.ediv_lt_iff_lt_mul hm, Int.add_mul]
      omega
    omega
theorem loq_iff {ms ts : List Int} {j : Nat} {Lo : Int} (hm : 0 < ms.getD j 0) (ht : 0 ≤ ts.getD j 0) : Lo ≤ loq ms ts j ↔ Lo * ms.getD j 0 ≤ ts.getD j 0 := by
  unfold loq
  rw [Int.tdiv_eq_ediv_of_nonneg ht]
  exact Int.le_ediv_iff_mul_le hm
/-- The range of the shares, as the laws see it. -/
theorem share_range {r : Int} {l : List Id3} {ms ts bs ms' ts' : List Int} (e1 : okB r l ms ts bs = true) (e2 : okB r l ms' ts' bs = true) (hs : ms'.sum = ms.sum)
    (h : ∀ Lo Hi : Int, (∀ j, j < ms.length → Lo * ms.getD j 0 ≤ ts.getD j 0 ∧ ts.getD j 0 ≤ Hi * ms.getD j 0) → ∀ j, j < ms.length → Lo * ms'.getD j 0 ≤ ts'.getD j 0 ∧ ts'.getD j 0 ≤ Hi * ms'.getD j 0) :
    greatR r l ms' ts' bs ≤ greatR r l ms ts bs ∧ leastR r l ms ts bs ≤ leastR r l ms' ts' bs := by
  obtain ⟨k1, k2, k3, k4, k5, k6, k7, k8⟩ := okT e1
  obtain ⟨k1', k2', k3', k4', k5', k6', k7', k8'⟩ := okT e2
  have hl : ms'.length = ms.length := by omega
  have q1 : ∀ j : Nat, 0 < ms.getD j 0 → 0 ≤ loq ms ts j := fun j hm => by
    have hj : j < ms.length := by
      by_cases h : j < ms.length
      · exact h
      · rw [List.getD_eq_getElem?_getD, List.getElem?_eq_none (by omega)] at hm; simp at hm
    exact (loq_iff hm (cells_at k7 hj).2.2.1).2 (by have := cells_at k7 hj; omega)
  have q2 : ∀ j : Nat, 0 < ms'.getD j 0 → 0 ≤ loq ms' ts' j := fun j hm => by
    have hj : j < ms'.length := by
      by_cases h : j < ms'.length
      · exact h
      · rw [List.getD_eq_getElem?_getD, List.getElem?_eq_none (by omega)] at hm; simp at hm
    exact (loq_iff hm (cells_at k7' hj).2.2.1).2 (by have := cells_at k7' hj; omega)
  obtain ⟨g1, g2⟩ := great_up ms ts ms.length
  obtain ⟨a1, a2⟩ := least_lo ms ts q1 ms.length
  obtain ⟨b1, b2⟩ := least_lo ms' ts' q2 ms'.length
  have lo := h (if least ms ts ms.length < 0 then 0 else least ms ts ms.length) (great ms ts ms.length) (fun j hj => by
    have c := cells_at k7 hj
    by_cases hm : 0 < ms.getD j 0
    · have u := (upq_iff hm c.2.2.1).1 (g2 j hj hm)
      have v := a1 j hj hm
      rw [if_neg (by omega)]
      exact ⟨(loq_iff hm c.2.2.1).1 v.2, u⟩
    · have : ms.getD j 0 = 0 := by omega
      rw [this]
      omega)
  rw [greatR, if_pos e2, greatR, if_pos e1, leastR, if_pos e1, leastR, if_pos e2]
  constructor
  · exact great_le g1 _ fun j hj hm => (upq_iff hm (cells_at k7' hj).2.2.1).2 (lo j (by omega)).2
  · by_cases h0 : least ms' ts' ms'.length < 0
    · rw [if_pos h0]
      have hz : ∀ j, j < ms'.length → ms'.getD j 0 = 0 := fun j hj => by
        have c := cells_at k7' hj
        by_cases hm : 0 < ms'.getD j 0
        · have := b1 j hj hm; omega
        · omega
      have s0 : ms'.sum = 0 := by
        rw [sum_getD, sumN_congr (g := fun _ => 0) hz]
        have : ∀ n, sumN (fun _ => (0 : Int)) n = 0 := fun n => by
          induction n with
          | zero => rfl
          | succ n ih => rw [sumN, ih]; rfl
        exact this _
      by_cases h1 : least ms ts ms.length < 0
      · rw [if_pos h1]; exact Int.le_refl _
      · exfalso
        obtain ⟨j, c1, c2, c3⟩ := a2 (by omega)
        have := sumN_one (f := fun i => ms.getD i 0) (n := ms.length) (i := j) (fun i hi => (cells_at k7 hi).1) c1
        rw [← sum_getD] at this
        omega
    · rw [if_neg h0]
      obtain ⟨j, c1, c2, c3⟩ := b2 (by omega)
      rw [c3]
      exact (loq_iff c2 (cells_at k7' c1).2.2.1).2 (lo j (by omega)).1

def invSh (η : List Blk) (r : Int) (s : List AV) (l : List Id3) (ms ts bs : List Int) (t0 : Int) (st : St) : Prop := ∃ i : Nat, ∃ c0 : Nat, ∃ c1 : Nat, ∃ c2 : Nat, ∃ c3 : Nat, ∃ u0 : Nat, ∃ u1 : Nat, ∃ u2 : Nat, ∃ u3 : Nat, ∃ H : List Blk, (t0 + i ≤ 20) ∧ (Ext η H) ∧ (New4 0 H c0 c1 c2 c3 u0 u1 u2 u3 l (itr l ms ts bs t0 i).1 (itr l ms ts bs t0 i).2 bs) ∧ st.n = 41 ∧ st.τ 3 = .loc 3 1 0 ∧ st.τ 5 = .loc 5 1 0 ∧ st.τ 6 = .int .i64 (t0 + i) ∧ st.lam 3 = ⟨1, s⟩ ∧ st.lam 5 = ⟨1, [.int .i64 r, .sl c0 u0 0 l.length, .sl c1 u1 0 (itr l ms ts bs t0 i).1.length, .sl c2 u2 0 (itr l ms ts bs t0 i).2.length, .sl c3 u3 0 bs.length]⟩ ∧ st.η = H

/- laws.FnShareRange -/
def Sp12 (lo : Nat) : Spec := fun g args η K => match g with | 22 => SBig lo args η K | 24 => SPlaces lo args η K | 32 => SDrawS lo args η K | 44 => SOk args η K | 56 => SStpS args η K | 57 => SGreat args η K | 58 => SLeast args η K | _ => False
theorem Sp12_ok {lo : Nat} : Sound Try.prog lo (Sp12 lo) := by
  intro g args η K h
  unfold Sp12 at h
  split at h
  · exact f22_ok h
  · exact f24_ok h
  · exact f32_ok h
  · exact f44_ok h
  · exact f56_ok h
  · exact f57_ok h
  · exact f58_ok h
  · exact h.elim
def D12 : Draws := fun id => match id with | 10 => ([0, 1, 3, 7, 15, 7, 63, 127, 255, 511, 1023, 2047, 1023, 8191, 16383, 32767, 65535], [4, 11], [], (.one 0 (.one 1 (.one 2 (.one 3 (.one 5 (.one 4 (.one 6 (.one 7 (.one 8 (.one 9 (.one 10 (.one 12 (.one 11 (.one 13 (.one 14 (.one 15 (.one 16 .nil)))))))))))))))))) | _ => ([], [], [], .nil)
theorem f12_ok {lo : Nat} {args : List AV} {η : List Blk} {K : AV → List Blk → Prop} (h : SDL lo args η K) : AF Try.prog lo 12 args η K := by
  unfold SDL at h
  split at h
  · obtain ⟨g, hr, hml, hK⟩ := h
    have hn := (noLoc8 hr).1
    refine AF_run Sp12_ok D12 [] [.tmp 2] hm Try.func12 rfl (by decide) Try.ntmps12 rfl (by kernel_rfl) (Nat.le_of_ble_eq_true rfl) ?_; intro hlo
    repeat' (first | with_reducible refine iteI (fun _ => ?_) (fun _ => ?_) | ((first | unfold AOpsC | unfold AOpsD | skip); simp (maxSteps := 1000000) (disch := (first | omega | assumption | (simp only [List.length_append, List.length_cons, List.length_nil, List.length_set]; omega))) only [go_sem, ↓skipC, ↓exitC, ↓retC, ↓seqC, ↓blockC, ↓condC, ↓regC, ↓drawC, ↓drawStep, ↓AOpC, ↓AOpF, ↓AOpE, ↓AEff, ↓contE_at, ↓contC_at, ↓keepC_at, ↓keepW_at, ↓keepO_at, ↓map_parts, ↓reduceIte, reduceCtorEq, Nat.reduceLT, Nat.reduceEqDiff, Nat.reduceAdd, Nat.reduceMul, Nat.reduceLeDiff, Nat.reduceSub, Nat.reduceBEq, Nat.reduceBNe, Nat.reduceBneDiff, Nat.reduceBeqDiff, ag_28, ag_3, ag_39, by_28, by_3, by_39, el_28, in_3, nf_39, pl_39, ps_39, sz_28, sz_3, sz_39, ze_28, ze_3, ze_39, Sp12, SOk, SGreat, SLeast, D12, ↓hn]))
    unfold SBig
    refine ⟨g, hr, hml, ?_⟩
    by_cases hl : (1048576 : Int) < g.length
    · repeat' (first | with_reducible refine iteI (fun _ => ?_) (fun _ => ?_) | ((first | unfold AOpsC | unfold AOpsD | skip); simp (maxSteps := 1000000) (disch := (first | omega | assumption | (simp only [List.length_append, List.length_cons, List.length_nil, List.length_set]; omega))) only [go_sem, ↓skipC, ↓exitC, ↓retC, ↓seqC, ↓blockC, ↓condC, ↓regC, ↓drawC, ↓drawStep, ↓AOpC, ↓AOpF, ↓AOpE, ↓AEff, ↓contE_at, ↓contC_at, ↓keepC_at, ↓keepW_at, ↓keepO_at, ↓map_parts, ↓reduceIte, reduceCtorEq, Nat.reduceLT, Nat.reduceEqDiff, Nat.reduceAdd, Nat.reduceMul, Nat.reduceLeDiff, Nat.reduceSub, Nat.reduceBEq, Nat.reduceBNe, Nat.reduceBneDiff, Nat.reduceBeqDiff, ag_28, ag_3, ag_39, by_28, by_3, by_39, el_28, in_3, nf_39, pl_39, ps_39, sz_28, sz_3, sz_39, ze_28, ze_3, ze_39, Sp12, SOk, SGreat, SLeast, D12, ↓hn, hl]))
      exact hK _
    repeat' (first | with_reducible refine iteI (fun _ => ?_) (fun _ => ?_) | ((first | unfold AOpsC | unfold AOpsD | skip); simp (maxSteps := 1000000) (disch := (first | omega | assumption | (simp only [List.length_append, List.length_cons, List.length_nil, List.length_set]; omega))) only [go_sem, ↓skipC, ↓exitC, ↓retC, ↓seqC, ↓blockC, ↓condC, ↓regC, ↓drawC, ↓drawStep, ↓AOpC, ↓AOpF, ↓AOpE, ↓AEff, ↓contE_at, ↓contC_at, ↓keepC_at, ↓keepW_at, ↓keepO_at, ↓map_parts, ↓reduceIte, reduceCtorEq, Nat.reduceLT, Nat.reduceEqDiff, Nat.reduceAdd, Nat.reduceMul, Nat.reduceLeDiff, Nat.reduceSub, Nat.reduceBEq, Nat.reduceBNe, Nat.reduceBneDiff, Nat.reduceBeqDiff, ag_28, ag_3, ag_39, by_28, by_3, by_39, el_28, in_3, nf_39, pl_39, ps_39, sz_28, sz_3, sz_39, ze_28, ze_3, ze_39, Sp12, SOk, SGreat, SLeast, D12, ↓hn, hl]))
    unfold SDrawS
    refine ⟨g, hr, hml, fun HS r l ms ts bs b0 b1 b2 b3 v0 v1 v2 v3 hd hN hx => ?_⟩
    have e1 := hd.1
    obtain ⟨k1, k2, k3, k4, k5, k6, k7, k8⟩ := okT e1
    have hln := mesh_len k1
    have hne := mesh_ne k1
    have hr3 := hd.2.1
    replace hr := hr.ext hx
    have w0 := hN.g0
    have w1 := hN.g1
    have w2 := hN.g2
    have w3 := hN.g3
    have D1 : dec3 45 HS (.sl b0 v0 0 l.length) = l := IsR.dec3 ⟨b0, v0, rfl, w0⟩
    have D2 : decI HS (.sl b1 v1 0 ms.length) = ms := IsI.dec ⟨b1, v1, rfl, w1⟩
    have D3 : decI HS (.sl b2 v2 0 ts.length) = ts := IsI.dec ⟨b2, v2, rfl, w2⟩
    have D4 : decI HS (.sl b3 v3 0 bs.length) = bs := IsI.dec ⟨b3, v3, rfl, w3⟩
    have O1 : ok3 45 HS (.sl b0 v0 0 l.length) := ⟨l, ⟨b0, v0, rfl, w0⟩, by omega⟩
    have O2 : okI HS (.sl b1 v1 0 ms.length) := ⟨ms, ⟨b1, v1, rfl, w1⟩, by omega⟩
    have O3 : okI HS (.sl b2 v2 0 ts.length) := ⟨ts, ⟨b2, v2, rfl, w2⟩, by omega⟩
    have O4 : okI HS (.sl b3 v3 0 bs.length) := ⟨bs, ⟨b3, v3, rfl, w3⟩, by omega⟩
    repeat' (first | with_reducible refine iteI (fun _ => ?_) (fun _ => ?_) | ((first | unfold AOpsC | unfold AOpsD | skip); simp (maxSteps := 1000000) (disch := (first | omega | assumption | (simp only [List.length_append, List.length_cons, List.length_nil, List.length_set]; omega))) only [go_sem, ↓skipC, ↓exitC, ↓retC, ↓seqC, ↓blockC, ↓condC, ↓regC, ↓drawC, ↓drawStep, ↓AOpC, ↓AOpF, ↓AOpE, ↓AEff, ↓contE_at, ↓contC_at, ↓keepC_at, ↓keepW_at, ↓keepO_at, ↓map_parts, ↓reduceIte, reduceCtorEq, Nat.reduceLT, Nat.reduceEqDiff, Nat.reduceAdd, Nat.reduceMul, Nat.reduceLeDiff, Nat.reduceSub, Nat.reduceBEq, Nat.reduceBNe, Nat.reduceBneDiff, Nat.reduceBeqDiff, ag_28, ag_3, ag_39, by_28, by_3, by_39, el_28, in_3, nf_39, pl_39, ps_39, sz_28, sz_3, sz_39, ze_28, ze_3, ze_39, Sp12, SOk, SGreat, SLeast, D12, ↓hn, w0, w1, w2, w3, D1, D2, D3, D4, O1, O2, O3, O4, e1]))
    unfold SPlaces
    refine ⟨g, hr, hml, fun vp HP ps hps hall hi hext => ?_⟩
    obtain ⟨bp, wp, rfl, hbp⟩ := hi
    replace hr := hr.ext hext
    have hpx : ∀ i, i < 12 → 0 ≤ ps.getD i 0 ∧ ps.getD i 0 < 10000 := fun i hi => hall _ (of_eq_true (memD (by omega)))
    replace hN := hN.ext hext
    clear w0 w1 w2 w3 D1 D2 D3 D4 O1 O2 O3 O4
    have w0 := hN.g0
    have w1 := hN.g1
    have w2 := hN.g2
    have w3 := hN.g3
    have D1 : dec3 45 HP (.sl b0 v0 0 l.length) = l := IsR.dec3 ⟨b0, v0, rfl, w0⟩
    have D2 : decI HP (.sl b1 v1 0 ms.length) = ms := IsI.dec ⟨b1, v1, rfl, w1⟩
    have D3 : decI HP (.sl b2 v2 0 ts.length) = ts := IsI.dec ⟨b2, v2, rfl, w2⟩
    have D4 : decI HP (.sl b3 v3 0 bs.length) = bs := IsI.dec ⟨b3, v3, rfl, w3⟩
    have O1 : ok3 45 HP (.sl b0 v0 0 l.length) := ⟨l, ⟨b0, v0, rfl, w0⟩, by omega⟩
    have O2 : okI HP (.sl b1 v1 0 ms.length) := ⟨ms, ⟨b1, v1, rfl, w1⟩, by omega⟩
    have O3 : okI HP (.sl b2 v2 0 ts.length) := ⟨ts, ⟨b2, v2, rfl, w2⟩, by omega⟩
    have O4 : okI HP (.sl b3 v3 0 bs.length) := ⟨bs, ⟨b3, v3, rfl, w3⟩, by omega⟩
    have x0 := hpx 0 (by omega)
    have y0 := tmod_bd (b := 16) x0.1 (by omega)
    repeat' (first | with_reducible refine iteI (fun _ => ?_) (fun _ => ?_) | ((first | unfold AOpsC | unfold AOpsD | skip); simp (maxSteps := 1000000) (disch := (first | omega | assumption | (simp only [List.length_append, List.length_cons, List.length_nil, List.length_set]; omega))) only [go_sem, ↓skipC, ↓exitC, ↓retC, ↓seqC, ↓blockC, ↓condC, ↓regC, ↓drawC, ↓drawStep, ↓AOpC, ↓AOpF, ↓AOpE, ↓AEff, ↓contE_at, ↓contC_at, ↓keepC_at, ↓keepW_at, ↓keepO_at, ↓map_parts, ↓reduceIte, reduceCtorEq, Nat.reduceLT, Nat.reduceEqDiff, Nat.reduceAdd, Nat.reduceMul, Nat.reduceLeDiff, Nat.reduceSub, Nat.reduceBEq, Nat.reduceBNe, Nat.reduceBneDiff, Nat.reduceBeqDiff, ag_28, ag_3, ag_39, by_28, by_3, by_39, el_28, in_3, nf_39, pl_39, ps_39, sz_28, sz_3, sz_39, ze_28, ze_3, ze_39, Sp12, SOk, SGreat, SLeast, D12, w0, w1, w2, w3, D1, D2, D3, D4, O1, O2, O3, O4, e1, hbp, Int.reduceToNat, Int.toNat_zero, Int.toNat_one, Nat.zero_mul, Nat.one_mul]))
    generalize hq : (ps.getD 0 0).tmod 16 = t0 at *
    refine ⟨invSh HP r [.int .i64 r, .sl b0 v0 0 l.length, .sl b1 v1 0 ms.length, .sl b2 v2 0 ts.length, .sl b3 v3 0 bs.length] l ms ts bs t0, fun st => ctr 20 st 6, .inl ⟨0, b0, b1, b2, b3, v0, v1, v2, v3, HP, by omega, Ext.refl _, hN.mono (Nat.zero_le _), rfl, by simp [upd], by simp [upd], by simp [upd], by simp [upd], by simp [upd, itr], rfl⟩, ?_⟩
    rintro ⟨n, τ, lam, η'⟩ ⟨i, c0, c1, c2, c3, u0, u1, u2, u3, H, g0, g1, g2, hn, t3, t5, t6, l3, l5, hη⟩; simp only at hn t3 t5 t6 l3 l5 hη; subst hn hη
    have hN1 := hN.ext g1
    obtain ⟨il1, il2⟩ := itr_len t0 e1 i
    have e2 := itr_ok t0 e1 i
    clear w0 w1 w2 w3 D1 D2 D3 D4 O1 O2 O3 O4 hbp
    have w0 := hN1.g0
    have w1 := hN1.g1
    have w2 := hN1.g2
    have w3 := hN1.g3
    have D1 : dec3 45 η' (.sl b0 v0 0 l.length) = l := IsR.dec3 ⟨b0, v0, rfl, w0⟩
    have D2 : decI η' (.sl b1 v1 0 ms.length) = ms := IsI.dec ⟨b1, v1, rfl, w1⟩
    have D3 : decI η' (.sl b2 v2 0 ts.length) = ts := IsI.dec ⟨b2, v2, rfl, w2⟩
    have D4 : decI η' (.sl b3 v3 0 bs.length) = bs := IsI.dec ⟨b3, v3, rfl, w3⟩
    have O1 : ok3 45 η' (.sl b0 v0 0 l.length) := ⟨l, ⟨b0, v0, rfl, w0⟩, by omega⟩
    have O2 : okI η' (.sl b1 v1 0 ms.length) := ⟨ms, ⟨b1, v1, rfl, w1⟩, by omega⟩
    have O3 : okI η' (.sl b2 v2 0 ts.length) := ⟨ts, ⟨b2, v2, rfl, w2⟩, by omega⟩
    have O4 : okI η' (.sl b3 v3 0 bs.length) := ⟨bs, ⟨b3, v3, rfl, w3⟩, by omega⟩
    have w0m := g2.g0
    have w1m := g2.g1
    have w2m := g2.g2
    have w3m := g2.g3
    have D1m : dec3 45 η' (.sl c0 u0 0 l.length) = l := IsR.dec3 ⟨c0, u0, rfl, w0m⟩
    have D2m : decI η' (.sl c1 u1 0 (itr l ms ts bs t0 i).1.length) = (itr l ms ts bs t0 i).1 := IsI.dec ⟨c1, u1, rfl, w1m⟩
    have D3m : decI η' (.sl c2 u2 0 (itr l ms ts bs t0 i).2.length) = (itr l ms ts bs t0 i).2 := IsI.dec ⟨c2, u2, rfl, w2m⟩
    have D4m : decI η' (.sl c3 u3 0 bs.length) = bs := IsI.dec ⟨c3, u3, rfl, w3m⟩
    have O1m : ok3 45 η' (.sl c0 u0 0 l.length) := ⟨l, ⟨c0, u0, rfl, w0m⟩, by omega⟩
    have O2m : okI η' (.sl c1 u1 0 (itr l ms ts bs t0 i).1.length) := ⟨(itr l ms ts bs t0 i).1, ⟨c1, u1, rfl, w1m⟩, by omega⟩
    have O3m : okI η' (.sl c2 u2 0 (itr l ms ts bs t0 i).2.length) := ⟨(itr l ms ts bs t0 i).2, ⟨c2, u2, rfl, w2m⟩, by omega⟩
    have O4m : okI η' (.sl c3 u3 0 bs.length) := ⟨bs, ⟨c3, u3, rfl, w3m⟩, by omega⟩
    by_cases hlt : t0 + (i : Int) < 20
    · repeat' (first | with_reducible refine iteI (fun _ => ?_) (fun _ => ?_) | ((first | unfold AOpsC | unfold AOpsD | skip); simp (maxSteps := 1000000) (disch := (first | omega | assumption | (simp only [List.length_append, List.length_cons, List.length_nil, List.length_set]; omega))) only [go_sem, ↓skipC, ↓exitC, ↓retC, ↓seqC, ↓blockC, ↓condC, ↓regC, ↓drawC, ↓drawStep, ↓AOpC, ↓AOpF, ↓AOpE, ↓AEff, ↓contE_at, ↓contC_at, ↓keepC_at, ↓keepW_at, ↓keepO_at, ↓map_parts, ↓reduceIte, reduceCtorEq, Nat.reduceLT, Nat.reduceEqDiff, Nat.reduceAdd, Nat.reduceMul, Nat.reduceLeDiff, Nat.reduceSub, Nat.reduceBEq, Nat.reduceBNe, Nat.reduceBneDiff, Nat.reduceBeqDiff, ag_28, ag_3, ag_39, by_28, by_3, by_39, el_28, in_3, nf_39, pl_39, ps_39, sz_28, sz_3, sz_39, ze_28, ze_3, ze_39, Sp12, SOk, SGreat, SLeast, D12, w0, w1, w2, w3, D1, D2, D3, D4, O1, O2, O3, O4, w0m, w1m, w2m, w3m, D1m, D2m, D3m, D4m, O1m, O2m, O3m, O4m, t3, t5, t6, l3, l5]))
      unfold SStpS
      simp only [w0m, w1m, w2m, w3m, D1m, D2m, D3m, D4m, O1m, O2m, O3m, O4m, true_and, and_self]
      refine fun H2 d0 d1 d2 d3 a0 a1 a2 a3 hM xu => ?_
      have hB : tkB r l (itr l ms ts bs t0 i).1 (itr l ms ts bs t0 i).2 bs (t0 + i) = true := by simp [tkB, e2]; omega
      have z0 : tkM r l (itr l ms ts bs t0 i).1 (itr l ms ts bs t0 i).2 bs (t0 + i) = (itr l ms ts bs t0 (i + 1)).1 := if_pos hB
      have z1 : tkT r l (itr l ms ts bs t0 i).1 (itr l ms ts bs t0 i).2 bs (t0 + i) = (itr l ms ts bs t0 (i + 1)).2 := if_pos hB
      rw [z0, z1] at hM ⊢
      repeat' (first | with_reducible refine iteI (fun _ => ?_) (fun _ => ?_) | ((first | unfold AOpsC | unfold AOpsD | skip); simp (maxSteps := 1000000) (disch := (first | omega | assumption | (simp only [List.length_append, List.length_cons, List.length_nil, List.length_set]; omega))) only [go_sem, ↓skipC, ↓exitC, ↓retC, ↓seqC, ↓blockC, ↓condC, ↓regC, ↓drawC, ↓drawStep, ↓AOpC, ↓AOpF, ↓AOpE, ↓AEff, ↓contE_at, ↓contC_at, ↓keepC_at, ↓keepW_at, ↓keepO_at, ↓map_parts, ↓reduceIte, reduceCtorEq, Nat.reduceLT, Nat.reduceEqDiff, Nat.reduceAdd, Nat.reduceMul, Nat.reduceLeDiff, Nat.reduceSub, Nat.reduceBEq, Nat.reduceBNe, Nat.reduceBneDiff, Nat.reduceBeqDiff, ag_28, ag_3, ag_39, by_28, by_3, by_39, el_28, in_3, nf_39, pl_39, ps_39, sz_28, sz_3, sz_39, ze_28, ze_3, ze_39, Sp12, SOk, SGreat, SLeast, D12, t3, t5, t6, l3, l5]))
      refine ⟨⟨i + 1, d0, d1, d2, d3, a0, a1, a2, a3, H2, by omega, g1.trans xu, hM.mono (Nat.zero_le _), rfl, by simp [upd, t3], by simp [upd, t5], by simp [upd]; omega, by simp [upd, l3], by simp [upd], rfl⟩, by simp [ctr, upd, t6]; omega⟩
    · have sr := share_range e1 e2 (itr_sum t0 e1 i).1 (fun Lo Hi h => itr_share t0 e1 h i)
      repeat' (first | with_reducible refine iteI (fun _ => ?_) (fun _ => ?_) | ((first | unfold AOpsC | unfold AOpsD | skip); simp (maxSteps := 1000000) (disch := (first | omega | assumption | (simp only [List.length_append, List.length_cons, List.length_nil, List.length_set]; omega))) only [go_sem, ↓skipC, ↓exitC, ↓retC, ↓seqC, ↓blockC, ↓condC, ↓regC, ↓drawC, ↓drawStep, ↓AOpC, ↓AOpF, ↓AOpE, ↓AEff, ↓contE_at, ↓contC_at, ↓keepC_at, ↓keepW_at, ↓keepO_at, ↓map_parts, ↓reduceIte, reduceCtorEq, Nat.reduceLT, Nat.reduceEqDiff, Nat.reduceAdd, Nat.reduceMul, Nat.reduceLeDiff, Nat.reduceSub, Nat.reduceBEq, Nat.reduceBNe, Nat.reduceBneDiff, Nat.reduceBeqDiff, ag_28, ag_3, ag_39, by_28, by_3, by_39, el_28, in_3, nf_39, pl_39, ps_39, sz_28, sz_3, sz_39, ze_28, ze_3, ze_39, Sp12, SOk, SGreat, SLeast, D12, w0, w1, w2, w3, D1, D2, D3, D4, O1, O2, O3, O4, w0m, w1m, w2m, w3m, D1m, D2m, D3m, D4m, O1m, O2m, O3m, O4m, e2, t3, t5, t6, l3, l5]))
      exact hK _
  · exact h.elim

/- the law -/
theorem law_ok {blks : List Blk} {x0 : AV} (s0 : AvSh blks (.rows 5 1 .u8) x0) : AF Try.prog blks.length 12 [x0] blks fun v _ => v = .bool true := by
  obtain ⟨l, hl, hlm⟩ := row8 s0
  exact f12_ok (show SDL blks.length _ _ _ from ⟨l, hl, hlm, fun _ => rfl⟩)

end Go.Proofs.Ytffefndnnbcplaa
