/- What functions of the program compute, said in the abstract logic; no conditions. -/
import Derived.Test.YtdcecoddecghdaaGBase
import Derived.Test.YtdcecoddecghdaaGIn
import Derived.Test.YtdcecoddecghdaaGDraw
import Derived.Test.YtdcecoddecghdaaGOut

namespace Go.Proofs.Ytdcecoddecghdaa
open Go
set_option linter.unusedSimpArgs false
set_option linter.unusedVariables false
set_option maxRecDepth 100000
set_option maxHeartbeats 8000000

namespace Carried
theorem uMono {m ρ : Int} (hm : 0 < m) (h0 : 0 ≤ ρ) (h1 : ρ ≤ m) {x y : Int} (hy : 0 ≤ y) : ρ * x / m ≤ ρ * (x + y) / m ∧ ρ * (x + y) / m ≤ ρ * x / m + y := by
  constructor
  · apply Int.ediv_le_ediv hm
    exact Int.mul_le_mul_of_nonneg_left (by omega) h0
  · have h2 : ρ * (x + y) ≤ ρ * x + m * y := by
      rw [Int.mul_add]
      have := Int.mul_le_mul_of_nonneg_right h1 hy
      omega
    have h3 := Int.ediv_le_ediv hm h2
    rw [Int.add_mul_ediv_left _ _ (by omega)] at h3
    exact h3
theorem split {t m x : Int} (hm : 0 < m) : t * x / m = t / m * x + t % m * x / m := by
  have e : t * x = t % m * x + m * (t / m * x) := by
    conv => lhs; rw [← Int.emod_add_mul_ediv t m]
    rw [Int.add_mul, Int.mul_assoc]
  rw [e, Int.add_mul_ediv_left _ _ (by omega)]
  omega
/-- What leaves on both sides and what stays. -/
theorem carried {t m r l : Int} (hm : 0 < m) (ht : 0 ≤ t) (hr : 0 ≤ r) (hl : 0 ≤ l) (hrl : r + l ≤ m) :
    t * r / m ≥ t / m * r ∧ t * r / m ≤ (t + m - 1) / m * r ∧ t * (r + l) / m - t * r / m ≥ t / m * l ∧ t * (r + l) / m - t * r / m ≤ (t + m - 1) / m * l ∧
    t - t * (r + l) / m ≥ t / m * (m - r - l) ∧ t - t * (r + l) / m ≤ (t + m - 1) / m * (m - r - l) := by
  have e1 := split (t := t) (x := r) hm
  have e2 := split (t := t) (x := r + l) hm
  have hρ0 : 0 ≤ t % m := Int.emod_nonneg _ (by omega)
  have hρ1 : t % m < m := Int.emod_lt_of_pos _ hm
  have hdm := Int.emod_add_mul_ediv t m
  generalize hρ : t % m = ρ at *
  generalize hlow : t / m = low at *
  have a1 := uMono hm hρ0 (Int.le_of_lt hρ1) (x := 0) hr
  have a2 := uMono hm hρ0 (Int.le_of_lt hρ1) (x := r) hl
  have a3 := uMono hm hρ0 (Int.le_of_lt hρ1) (x := r + l) (y := m - r - l) (by omega)
  rw [show r + l + (m - r - l) = m by omega, Int.mul_ediv_cancel _ (by omega)] at a3
  rw [Int.mul_zero, Int.zero_ediv, Int.zero_add] at a1
  have b1 : low * (r + l) = low * r + low * l := Int.mul_add _ _ _
  have b2 : low * (m - r - l) = low * m - low * r - low * l := by rw [Int.mul_sub, Int.mul_sub]
  have b3 : low * m = m * low := Int.mul_comm _ _
  rw [e1, e2, b1, b2, b3]
  by_cases h0 : ρ = 0
  · have hh : (t + m - 1) / m = low := by
      subst h0
      have : t + m - 1 = (m - 1) + m * low := by omega
      rw [this, Int.add_mul_ediv_left _ _ (by omega), Int.ediv_eq_zero_of_lt (by omega) (by omega)]
      omega
    rw [hh, b2, b3]
    subst h0
    simp only [Int.zero_mul, Int.zero_ediv] at *
    omega
  · have hh : (t + m - 1) / m = low + 1 := by
      have : t + m - 1 = (ρ - 1) + m * (low + 1) := by rw [Int.mul_add]; omega
      rw [this, Int.add_mul_ediv_left _ _ (by omega), Int.ediv_eq_zero_of_lt (by omega) (by omega)]
      omega
    have c1 : (low + 1) * r = low * r + r := by rw [Int.add_mul]; omega
    have c2 : (low + 1) * l = low * l + l := by rw [Int.add_mul]; omega
    have c3 : (low + 1) * (m - r - l) = low * (m - r - l) + (m - r - l) := by rw [Int.add_mul]; omega
    rw [hh, c1, c2, c3, b2, b3]
    omega

end Carried
theorem tmod_bd {a b : Int} (ha : 0 ≤ a) (hb : 0 < b) : 0 ≤ a.tmod b ∧ a.tmod b < b := ⟨Int.tmod_nonneg _ ha, Int.tmod_lt_of_pos _ hb⟩
theorem mul_bd {a b A B : Int} (ha : 0 ≤ a ∧ a ≤ A) (hb : 0 ≤ b ∧ b ≤ B) : 0 ≤ a * b ∧ a * b ≤ A * B :=
  ⟨Int.mul_nonneg ha.1 hb.1, Int.le_trans (Int.mul_le_mul_of_nonneg_right ha.2 hb.1) (Int.mul_le_mul_of_nonneg_left hb.2 (Int.le_trans ha.1 ha.2))⟩
def SBig (lo : Nat) : List AV → List Blk → (AV → List Blk → Prop) → Prop
  | [v], η, K => ∃ l, Row8 5 η v l ∧ l.length ≤ maxLen ∧ K (.bool (decide ((1048576 : Int) < l.length))) η
  | _, _, _ => False
def SCar (lo : Nat) : List AV → List Blk → (AV → List Blk → Prop) → Prop
  | [v], η, K => ∃ l, Row8 5 η v l ∧ l.length ≤ maxLen ∧ ∀ H, K (.bool true) H
  | _, _, _ => False
theorem inMk {a b c : Int} (h : b ≤ a ∧ a ≤ c) : inB a b c = true := by simp [inB]; omega

/- laws.big -/
theorem f15_ok {lo : Nat} {args : List AV} {η : List Blk} {K : AV → List Blk → Prop} (h : SBig lo args η K) : AF Try.prog lo 15 args η K := by
  unfold SBig at h
  split at h
  · obtain ⟨l, hr, hml, hK⟩ := h
    have hml' : maxLen = 9223372036854775807 := rfl
    refine AF_run noSp_ok D0 [] [.tmp 2] hm Try.func15 rfl (by decide) Try.ntmps15 rfl (by kernel_rfl) (Nat.le_of_ble_eq_true rfl) ?_; intro hlo
    rcases hr with ⟨rfl, rfl⟩ | ⟨b, ver, rfl, hb⟩
    · repeat' (first | with_reducible refine iteI (fun _ => ?_) (fun _ => ?_) | ((first | unfold AOpsC | unfold AOpsD | skip); simp (maxSteps := 1000000) (disch := (first | omega | assumption | (simp only [List.length_append, List.length_cons, List.length_nil, List.length_set]; omega))) only [st0, AC, ↓skipC, ↓exitC, ↓retC, ↓seqC, ↓blockC, ↓condC, ↓regC, ↓drawC, thenA, ↓drawStep, ↓AOpC, ↓AOpF, ↓AOpE, ↓AEff, ↓contE_at, ↓contC_at, ↓keepC_at, pv, ev, put, upd, dstOk, cv, cvc, binI, setB, Value.oneCell', EndA, resA, resA1, List.mapM_cons, List.mapM_nil, Option.pure_def, Option.bind_eq_bind, noLocV, noLoc1, noLoc, noLocs, plainV, cellsA, newVarA, putCells, condA, lam0, inBlockA, cur, lenA, rowA, avoidsB, avoidB, clearB, Array.toList_append, Op.operands, Call.operands, newSlot,
    ↓reduceIte, reduceCtorEq, Nat.reduceLT, Nat.reduceEqDiff, Nat.reduceAdd, Nat.reduceMul, Nat.reduceLeDiff, Nat.reduceSub, Nat.zero_add, Nat.add_zero, Nat.succ_ne_self, Nat.lt_add_one, Nat.zero_lt_succ, true_and, and_true, true_or, or_true, false_or, or_false, and_self, true_implies, forall_const, Bool.false_eq_true, Bool.true_eq_false, false_implies, implies_true, imp_self, ne_eq, not_false_eq_true, not_true_eq_false, false_and, and_false,
    List.getElem?_toArray, List.getElem?_cons_succ, List.getElem?_cons_zero, Option.bind_some, Option.map_some, Bool.not_true, Bool.not_false, List.getD_cons_zero, List.getD_cons_succ, Option.some.injEq, exists_eq_left', AV.bool.injEq, List.map_cons, List.map_nil, List.all_cons, List.all_nil, Bool.and_self, Bool.and_true, Bool.true_and, List.append_nil, List.cons_append, List.nil_append, List.length_cons, List.length_nil, List.drop_zero, List.take_zero, List.drop_succ_cons, List.take_succ_cons, List.take_nil, List.drop_nil, List.not_mem_nil, List.mem_cons, List.contains_nil, List.contains_cons, Nat.reduceBEq, Nat.reduceBNe, Nat.reduceBneDiff, Nat.reduceBeqDiff, Bool.or_self, Bool.or_true, Bool.true_or, Bool.false_or, Bool.or_false, Bool.and_false, Bool.false_and, KsS_same, KsS_grow, by_22, by_5, el_22, ze_22, ze_5, skipV, KsS_ext, rep1, rep2, rep3, rep4, rep5, List.flatten_cons, List.flatten_nil, ↓map_parts, partsA, isPtr, fillA, List.size_toArray, ltT, ltF, leT, leF, ltTn, ltFn, leTn, leFn, eqTi, eqFi, wrapId, toNat1, intGet, boolGet, memD, app_get, app_last, app_lst, app_set, app_setL, app_setF, set_ne, set_eq, gt_iff_lt, ge_iff_le, decide_eq_true_eq, len2, len3, get20, get21, drop2, put2, get30, get31, get32, drop3, put3, putI, pairEta, bneTi, bneFi, beqTi, beqFi, bne_eq_false_iff_eq, beq_eq_false_iff_ne, beq_iff_eq, bne_iff_ne, Int.toNat_natCast, Nat.mul_one, List.length_map, Bool.not_eq_true, Bool.not_eq_false, Bool.decide_eq_true, decide_true, decide_false, Bool.not_eq_true', Bool.not_eq_false', decide_eq_false_iff_not, eq_self, Decidable.not_not]))
      exact hK
    · repeat' (first | with_reducible refine iteI (fun _ => ?_) (fun _ => ?_) | ((first | unfold AOpsC | unfold AOpsD | skip); simp (maxSteps := 1000000) (disch := (first | omega | assumption | (simp only [List.length_append, List.length_cons, List.length_nil, List.length_set]; omega))) only [st0, AC, ↓skipC, ↓exitC, ↓retC, ↓seqC, ↓blockC, ↓condC, ↓regC, ↓drawC, thenA, ↓drawStep, ↓AOpC, ↓AOpF, ↓AOpE, ↓AEff, ↓contE_at, ↓contC_at, ↓keepC_at, pv, ev, put, upd, dstOk, cv, cvc, binI, setB, Value.oneCell', EndA, resA, resA1, List.mapM_cons, List.mapM_nil, Option.pure_def, Option.bind_eq_bind, noLocV, noLoc1, noLoc, noLocs, plainV, cellsA, newVarA, putCells, condA, lam0, inBlockA, cur, lenA, rowA, avoidsB, avoidB, clearB, Array.toList_append, Op.operands, Call.operands, newSlot,
    ↓reduceIte, reduceCtorEq, Nat.reduceLT, Nat.reduceEqDiff, Nat.reduceAdd, Nat.reduceMul, Nat.reduceLeDiff, Nat.reduceSub, Nat.zero_add, Nat.add_zero, Nat.succ_ne_self, Nat.lt_add_one, Nat.zero_lt_succ, true_and, and_true, true_or, or_true, false_or, or_false, and_self, true_implies, forall_const, Bool.false_eq_true, Bool.true_eq_false, false_implies, implies_true, imp_self, ne_eq, not_false_eq_true, not_true_eq_false, false_and, and_false,
    List.getElem?_toArray, List.getElem?_cons_succ, List.getElem?_cons_zero, Option.bind_some, Option.map_some, Bool.not_true, Bool.not_false, List.getD_cons_zero, List.getD_cons_succ, Option.some.injEq, exists_eq_left', AV.bool.injEq, List.map_cons, List.map_nil, List.all_cons, List.all_nil, Bool.and_self, Bool.and_true, Bool.true_and, List.append_nil, List.cons_append, List.nil_append, List.length_cons, List.length_nil, List.drop_zero, List.take_zero, List.drop_succ_cons, List.take_succ_cons, List.take_nil, List.drop_nil, List.not_mem_nil, List.mem_cons, List.contains_nil, List.contains_cons, Nat.reduceBEq, Nat.reduceBNe, Nat.reduceBneDiff, Nat.reduceBeqDiff, Bool.or_self, Bool.or_true, Bool.true_or, Bool.false_or, Bool.or_false, Bool.and_false, Bool.false_and, KsS_same, KsS_grow, by_22, by_5, el_22, ze_22, ze_5, skipV, KsS_ext, rep1, rep2, rep3, rep4, rep5, List.flatten_cons, List.flatten_nil, ↓map_parts, partsA, isPtr, fillA, List.size_toArray, ltT, ltF, leT, leF, ltTn, ltFn, leTn, leFn, eqTi, eqFi, wrapId, toNat1, intGet, boolGet, memD, app_get, app_last, app_lst, app_set, app_setL, app_setF, set_ne, set_eq, gt_iff_lt, ge_iff_le, decide_eq_true_eq, len2, len3, get20, get21, drop2, put2, get30, get31, get32, drop3, put3, putI, pairEta, bneTi, bneFi, beqTi, beqFi, bne_eq_false_iff_eq, beq_eq_false_iff_ne, beq_iff_eq, bne_iff_ne, Int.toNat_natCast, Nat.mul_one, List.length_map, Bool.not_eq_true, Bool.not_eq_false, Bool.decide_eq_true, decide_true, decide_false, Bool.not_eq_true', Bool.not_eq_false', decide_eq_false_iff_not, eq_self, Decidable.not_not, hb]))
      exact hK
  · exact h.elim

/- laws.FnCarried -/
def Sp3 (lo : Nat) : Spec := fun g args η K => match g with | 15 => SBig lo args η K | 16 => SPlaces lo args η K | 17 => SLeafO args η K | 18 => SShare args η K | _ => False
theorem Sp3_ok {lo : Nat} : Sound Try.prog lo (Sp3 lo) := by
  intro g args η K h
  unfold Sp3 at h
  split at h
  · exact f15_ok h
  · exact f16_ok h
  · exact f17_ok h
  · exact f18_ok h
  · exact h.elim
def D3 : Draws := fun id => match id with | 5 => ([0, 1, 3, 0, 8, 24, 56, 120, 255, 0, 512, 2047, 4095], [], [], [0, 1, 2, 3, 4, 5, 6, 7, 8, 9, 10, 11, 12]) | _ => ([], [], [], [])
theorem f3_ok {lo : Nat} {args : List AV} {η : List Blk} {K : AV → List Blk → Prop} (h : SCar lo args η K) : AF Try.prog lo 3 args η K := by
  unfold SCar at h
  split at h
  · obtain ⟨l, hr, hml, hK⟩ := h
    have hn := (noLoc8 hr).1
    refine AF_run Sp3_ok D3 [] [.tmp 2] hm Try.func3 rfl (by decide) Try.ntmps3 rfl (by kernel_rfl) (Nat.le_of_ble_eq_true rfl) ?_; intro hlo
    repeat' (first | with_reducible refine iteI (fun _ => ?_) (fun _ => ?_) | ((first | unfold AOpsC | unfold AOpsD | skip); simp (maxSteps := 1000000) (disch := (first | omega | assumption | (simp only [List.length_append, List.length_cons, List.length_nil, List.length_set]; omega))) only [st0, AC, ↓skipC, ↓exitC, ↓retC, ↓seqC, ↓blockC, ↓condC, ↓regC, ↓drawC, thenA, ↓drawStep, ↓AOpC, ↓AOpF, ↓AOpE, ↓AEff, ↓contE_at, ↓contC_at, ↓keepC_at, pv, ev, put, upd, dstOk, cv, cvc, binI, setB, Value.oneCell', EndA, resA, resA1, List.mapM_cons, List.mapM_nil, Option.pure_def, Option.bind_eq_bind, noLocV, noLoc1, noLoc, noLocs, plainV, cellsA, newVarA, putCells, condA, lam0, inBlockA, cur, lenA, rowA, avoidsB, avoidB, clearB, Array.toList_append, Op.operands, Call.operands, newSlot,
    ↓reduceIte, reduceCtorEq, Nat.reduceLT, Nat.reduceEqDiff, Nat.reduceAdd, Nat.reduceMul, Nat.reduceLeDiff, Nat.reduceSub, Nat.zero_add, Nat.add_zero, Nat.succ_ne_self, Nat.lt_add_one, Nat.zero_lt_succ, true_and, and_true, true_or, or_true, false_or, or_false, and_self, true_implies, forall_const, Bool.false_eq_true, Bool.true_eq_false, false_implies, implies_true, imp_self, ne_eq, not_false_eq_true, not_true_eq_false, false_and, and_false,
    List.getElem?_toArray, List.getElem?_cons_succ, List.getElem?_cons_zero, Option.bind_some, Option.map_some, Bool.not_true, Bool.not_false, List.getD_cons_zero, List.getD_cons_succ, Option.some.injEq, exists_eq_left', AV.bool.injEq, List.map_cons, List.map_nil, List.all_cons, List.all_nil, Bool.and_self, Bool.and_true, Bool.true_and, List.append_nil, List.cons_append, List.nil_append, List.length_cons, List.length_nil, List.drop_zero, List.take_zero, List.drop_succ_cons, List.take_succ_cons, List.take_nil, List.drop_nil, List.not_mem_nil, List.mem_cons, List.contains_nil, List.contains_cons, Nat.reduceBEq, Nat.reduceBNe, Nat.reduceBneDiff, Nat.reduceBeqDiff, Bool.or_self, Bool.or_true, Bool.true_or, Bool.false_or, Bool.or_false, Bool.and_false, Bool.false_and, KsS_same, KsS_grow, ag_24, ag_3, by_24, by_3, el_24, in_3, sz_24, sz_3, ze_24, ze_3, Sp3, SShare, D3, skipV, KsS_ext, rep1, rep2, rep3, rep4, rep5, List.flatten_cons, List.flatten_nil, ↓map_parts, partsA, isPtr, fillA, List.size_toArray, ltT, ltF, leT, leF, ltTn, ltFn, leTn, leFn, eqTi, eqFi, wrapId, toNat1, intGet, boolGet, memD, app_get, app_last, app_lst, app_set, app_setL, app_setF, set_ne, set_eq, gt_iff_lt, ge_iff_le, decide_eq_true_eq, len2, len3, get20, get21, drop2, put2, get30, get31, get32, drop3, put3, putI, pairEta, bneTi, bneFi, beqTi, beqFi, bne_eq_false_iff_eq, beq_eq_false_iff_ne, beq_iff_eq, bne_iff_ne, Int.toNat_natCast, Nat.mul_one, List.length_map, Bool.not_eq_true, Bool.not_eq_false, Bool.decide_eq_true, decide_true, decide_false, Bool.not_eq_true', Bool.not_eq_false', decide_eq_false_iff_not, eq_self, Decidable.not_not, ↓hn]))
    unfold SBig
    refine ⟨l, hr, hml, ?_⟩
    by_cases hl : (1048576 : Int) < l.length
    · repeat' (first | with_reducible refine iteI (fun _ => ?_) (fun _ => ?_) | ((first | unfold AOpsC | unfold AOpsD | skip); simp (maxSteps := 1000000) (disch := (first | omega | assumption | (simp only [List.length_append, List.length_cons, List.length_nil, List.length_set]; omega))) only [st0, AC, ↓skipC, ↓exitC, ↓retC, ↓seqC, ↓blockC, ↓condC, ↓regC, ↓drawC, thenA, ↓drawStep, ↓AOpC, ↓AOpF, ↓AOpE, ↓AEff, ↓contE_at, ↓contC_at, ↓keepC_at, pv, ev, put, upd, dstOk, cv, cvc, binI, setB, Value.oneCell', EndA, resA, resA1, List.mapM_cons, List.mapM_nil, Option.pure_def, Option.bind_eq_bind, noLocV, noLoc1, noLoc, noLocs, plainV, cellsA, newVarA, putCells, condA, lam0, inBlockA, cur, lenA, rowA, avoidsB, avoidB, clearB, Array.toList_append, Op.operands, Call.operands, newSlot,
    ↓reduceIte, reduceCtorEq, Nat.reduceLT, Nat.reduceEqDiff, Nat.reduceAdd, Nat.reduceMul, Nat.reduceLeDiff, Nat.reduceSub, Nat.zero_add, Nat.add_zero, Nat.succ_ne_self, Nat.lt_add_one, Nat.zero_lt_succ, true_and, and_true, true_or, or_true, false_or, or_false, and_self, true_implies, forall_const, Bool.false_eq_true, Bool.true_eq_false, false_implies, implies_true, imp_self, ne_eq, not_false_eq_true, not_true_eq_false, false_and, and_false,
    List.getElem?_toArray, List.getElem?_cons_succ, List.getElem?_cons_zero, Option.bind_some, Option.map_some, Bool.not_true, Bool.not_false, List.getD_cons_zero, List.getD_cons_succ, Option.some.injEq, exists_eq_left', AV.bool.injEq, List.map_cons, List.map_nil, List.all_cons, List.all_nil, Bool.and_self, Bool.and_true, Bool.true_and, List.append_nil, List.cons_append, List.nil_append, List.length_cons, List.length_nil, List.drop_zero, List.take_zero, List.drop_succ_cons, List.take_succ_cons, List.take_nil, List.drop_nil, List.not_mem_nil, List.mem_cons, List.contains_nil, List.contains_cons, Nat.reduceBEq, Nat.reduceBNe, Nat.reduceBneDiff, Nat.reduceBeqDiff, Bool.or_self, Bool.or_true, Bool.true_or, Bool.false_or, Bool.or_false, Bool.and_false, Bool.false_and, KsS_same, KsS_grow, ag_24, ag_3, by_24, by_3, el_24, in_3, sz_24, sz_3, ze_24, ze_3, Sp3, SShare, D3, skipV, KsS_ext, rep1, rep2, rep3, rep4, rep5, List.flatten_cons, List.flatten_nil, ↓map_parts, partsA, isPtr, fillA, List.size_toArray, ltT, ltF, leT, leF, ltTn, ltFn, leTn, leFn, eqTi, eqFi, wrapId, toNat1, intGet, boolGet, memD, app_get, app_last, app_lst, app_set, app_setL, app_setF, set_ne, set_eq, gt_iff_lt, ge_iff_le, decide_eq_true_eq, len2, len3, get20, get21, drop2, put2, get30, get31, get32, drop3, put3, putI, pairEta, bneTi, bneFi, beqTi, beqFi, bne_eq_false_iff_eq, beq_eq_false_iff_ne, beq_iff_eq, bne_iff_ne, Int.toNat_natCast, Nat.mul_one, List.length_map, Bool.not_eq_true, Bool.not_eq_false, Bool.decide_eq_true, decide_true, decide_false, Bool.not_eq_true', Bool.not_eq_false', decide_eq_false_iff_not, eq_self, Decidable.not_not, ↓hn, hl]))
      exact hK _
    · repeat' (first | with_reducible refine iteI (fun _ => ?_) (fun _ => ?_) | ((first | unfold AOpsC | unfold AOpsD | skip); simp (maxSteps := 1000000) (disch := (first | omega | assumption | (simp only [List.length_append, List.length_cons, List.length_nil, List.length_set]; omega))) only [st0, AC, ↓skipC, ↓exitC, ↓retC, ↓seqC, ↓blockC, ↓condC, ↓regC, ↓drawC, thenA, ↓drawStep, ↓AOpC, ↓AOpF, ↓AOpE, ↓AEff, ↓contE_at, ↓contC_at, ↓keepC_at, pv, ev, put, upd, dstOk, cv, cvc, binI, setB, Value.oneCell', EndA, resA, resA1, List.mapM_cons, List.mapM_nil, Option.pure_def, Option.bind_eq_bind, noLocV, noLoc1, noLoc, noLocs, plainV, cellsA, newVarA, putCells, condA, lam0, inBlockA, cur, lenA, rowA, avoidsB, avoidB, clearB, Array.toList_append, Op.operands, Call.operands, newSlot,
    ↓reduceIte, reduceCtorEq, Nat.reduceLT, Nat.reduceEqDiff, Nat.reduceAdd, Nat.reduceMul, Nat.reduceLeDiff, Nat.reduceSub, Nat.zero_add, Nat.add_zero, Nat.succ_ne_self, Nat.lt_add_one, Nat.zero_lt_succ, true_and, and_true, true_or, or_true, false_or, or_false, and_self, true_implies, forall_const, Bool.false_eq_true, Bool.true_eq_false, false_implies, implies_true, imp_self, ne_eq, not_false_eq_true, not_true_eq_false, false_and, and_false,
    List.getElem?_toArray, List.getElem?_cons_succ, List.getElem?_cons_zero, Option.bind_some, Option.map_some, Bool.not_true, Bool.not_false, List.getD_cons_zero, List.getD_cons_succ, Option.some.injEq, exists_eq_left', AV.bool.injEq, List.map_cons, List.map_nil, List.all_cons, List.all_nil, Bool.and_self, Bool.and_true, Bool.true_and, List.append_nil, List.cons_append, List.nil_append, List.length_cons, List.length_nil, List.drop_zero, List.take_zero, List.drop_succ_cons, List.take_succ_cons, List.take_nil, List.drop_nil, List.not_mem_nil, List.mem_cons, List.contains_nil, List.contains_cons, Nat.reduceBEq, Nat.reduceBNe, Nat.reduceBneDiff, Nat.reduceBeqDiff, Bool.or_self, Bool.or_true, Bool.true_or, Bool.false_or, Bool.or_false, Bool.and_false, Bool.false_and, KsS_same, KsS_grow, ag_24, ag_3, by_24, by_3, el_24, in_3, sz_24, sz_3, ze_24, ze_3, Sp3, SShare, D3, skipV, KsS_ext, rep1, rep2, rep3, rep4, rep5, List.flatten_cons, List.flatten_nil, ↓map_parts, partsA, isPtr, fillA, List.size_toArray, ltT, ltF, leT, leF, ltTn, ltFn, leTn, leFn, eqTi, eqFi, wrapId, toNat1, intGet, boolGet, memD, app_get, app_last, app_lst, app_set, app_setL, app_setF, set_ne, set_eq, gt_iff_lt, ge_iff_le, decide_eq_true_eq, len2, len3, get20, get21, drop2, put2, get30, get31, get32, drop3, put3, putI, pairEta, bneTi, bneFi, beqTi, beqFi, bne_eq_false_iff_eq, beq_eq_false_iff_ne, beq_iff_eq, bne_iff_ne, Int.toNat_natCast, Nat.mul_one, List.length_map, Bool.not_eq_true, Bool.not_eq_false, Bool.decide_eq_true, decide_true, decide_false, Bool.not_eq_true', Bool.not_eq_false', decide_eq_false_iff_not, eq_self, Decidable.not_not, ↓hn, hl]))
      unfold SPlaces
      refine ⟨l, hr, hml, fun v' H ps hps hall hi hext => ?_⟩
      obtain ⟨b, ver, rfl, hb⟩ := hi
      have hx : ∀ i, i < 12 → 0 ≤ ps.getD i 0 ∧ ps.getD i 0 < 10000 := fun i hi => hall _ (of_eq_true (memD (by omega)))
      have x0 := hx 0 (by omega)
      have x1 := hx 1 (by omega)
      have x2 := hx 2 (by omega)
      have x3 := hx 3 (by omega)
      have x4 := hx 4 (by omega)
      have y2 := tmod_bd (b := 50) x2.1 (by omega)
      have y1 := mul_bd (A := 10000) (B := 50) (a := ps.getD 1 0) (b := 1 + (ps.getD 2 0).tmod 50) (by omega) (by omega)
      have yq : (4 + ps.getD 0 0).tdiv 4 = (4 + ps.getD 0 0) / 4 := Int.tdiv_eq_ediv_of_nonneg (by omega)
      have y3 := tmod_bd (a := ps.getD 3 0) (b := (4 + ps.getD 0 0).tdiv 4 + 1) x3.1 (by omega)
      have y4 := tmod_bd (a := ps.getD 4 0) (b := (4 + ps.getD 0 0).tdiv 4 + 1) x4.1 (by omega)
      have yt := tmod_bd (a := ps.getD 1 0 * (1 + (ps.getD 2 0).tmod 50)) (b := 1000 * (4 + ps.getD 0 0)) y1.1 (by omega)
      have z0 : ¬ 1000 * (4 + ps.getD 0 0) = 0 := by omega
      have z1 : ¬ (4 + ps.getD 0 0).tdiv 4 + 1 = 0 := by omega
      repeat' (first | with_reducible refine iteI (fun _ => ?_) (fun _ => ?_) | ((first | unfold AOpsC | unfold AOpsD | skip); simp (maxSteps := 1000000) (disch := (first | omega | assumption | (simp only [List.length_append, List.length_cons, List.length_nil, List.length_set]; omega))) only [st0, AC, ↓skipC, ↓exitC, ↓retC, ↓seqC, ↓blockC, ↓condC, ↓regC, ↓drawC, thenA, ↓drawStep, ↓AOpC, ↓AOpF, ↓AOpE, ↓AEff, ↓contE_at, ↓contC_at, ↓keepC_at, pv, ev, put, upd, dstOk, cv, cvc, binI, setB, Value.oneCell', EndA, resA, resA1, List.mapM_cons, List.mapM_nil, Option.pure_def, Option.bind_eq_bind, noLocV, noLoc1, noLoc, noLocs, plainV, cellsA, newVarA, putCells, condA, lam0, inBlockA, cur, lenA, rowA, avoidsB, avoidB, clearB, Array.toList_append, Op.operands, Call.operands, newSlot,
    ↓reduceIte, reduceCtorEq, Nat.reduceLT, Nat.reduceEqDiff, Nat.reduceAdd, Nat.reduceMul, Nat.reduceLeDiff, Nat.reduceSub, Nat.zero_add, Nat.add_zero, Nat.succ_ne_self, Nat.lt_add_one, Nat.zero_lt_succ, true_and, and_true, true_or, or_true, false_or, or_false, and_self, true_implies, forall_const, Bool.false_eq_true, Bool.true_eq_false, false_implies, implies_true, imp_self, ne_eq, not_false_eq_true, not_true_eq_false, false_and, and_false,
    List.getElem?_toArray, List.getElem?_cons_succ, List.getElem?_cons_zero, Option.bind_some, Option.map_some, Bool.not_true, Bool.not_false, List.getD_cons_zero, List.getD_cons_succ, Option.some.injEq, exists_eq_left', AV.bool.injEq, List.map_cons, List.map_nil, List.all_cons, List.all_nil, Bool.and_self, Bool.and_true, Bool.true_and, List.append_nil, List.cons_append, List.nil_append, List.length_cons, List.length_nil, List.drop_zero, List.take_zero, List.drop_succ_cons, List.take_succ_cons, List.take_nil, List.drop_nil, List.not_mem_nil, List.mem_cons, List.contains_nil, List.contains_cons, Nat.reduceBEq, Nat.reduceBNe, Nat.reduceBneDiff, Nat.reduceBeqDiff, Bool.or_self, Bool.or_true, Bool.true_or, Bool.false_or, Bool.or_false, Bool.and_false, Bool.false_and, KsS_same, KsS_grow, ag_24, ag_3, by_24, by_3, el_24, in_3, sz_24, sz_3, ze_24, ze_3, Sp3, SShare, D3, skipV, KsS_ext, rep1, rep2, rep3, rep4, rep5, List.flatten_cons, List.flatten_nil, ↓map_parts, partsA, isPtr, fillA, List.size_toArray, ltT, ltF, leT, leF, ltTn, ltFn, leTn, leFn, eqTi, eqFi, wrapId, toNat1, intGet, boolGet, memD, app_get, app_last, app_lst, app_set, app_setL, app_setF, set_ne, set_eq, gt_iff_lt, ge_iff_le, decide_eq_true_eq, len2, len3, get20, get21, drop2, put2, get30, get31, get32, drop3, put3, putI, pairEta, bneTi, bneFi, beqTi, beqFi, bne_eq_false_iff_eq, beq_eq_false_iff_ne, beq_iff_eq, bne_iff_ne, Int.toNat_natCast, Nat.mul_one, List.length_map, Bool.not_eq_true, Bool.not_eq_false, Bool.decide_eq_true, decide_true, decide_false, Bool.not_eq_true', Bool.not_eq_false', decide_eq_false_iff_not, eq_self, Decidable.not_not, hb, z0, z1, Int.reduceToNat, Int.toNat_zero, Int.toNat_one, Nat.zero_mul, Nat.one_mul]))
      generalize (ps.getD 1 0 * (1 + (ps.getD 2 0).tmod 50)).tmod (1000 * (4 + ps.getD 0 0)) = t at *
      generalize (ps.getD 3 0).tmod ((4 + ps.getD 0 0).tdiv 4 + 1) = r at *
      generalize (ps.getD 4 0).tmod ((4 + ps.getD 0 0).tdiv 4 + 1) = q at *
      generalize (ps.getD 0 0) = m0 at *
      generalize hm : 4 + m0 = m at *
      have a1 : inB m 1 10000000 = true := inMk (by omega)
      have a2 : inB t 0 (1000 * m) = true := inMk (by omega)
      have a3 : inB r 0 m = true := inMk (by omega)
      have a4 : inB q 0 (m - r) = true := inMk (by omega)
      have a5 : inB (r + q) 0 m = true := inMk (by omega)
      have s1 : shareO t r m = t * r / m := by
        rw [shareO, if_pos ⟨a1, a3, a2⟩, Int.tdiv_eq_ediv_of_nonneg (Int.mul_nonneg yt.1 y3.1)]
      have s2 : shareO t (r + q) m = t * (r + q) / m := by
        rw [shareO, if_pos ⟨a1, a5, a2⟩, Int.tdiv_eq_ediv_of_nonneg (Int.mul_nonneg yt.1 (by omega))]
      have e1 : leafA t m r q = t * r / m := by rw [leafA, if_pos ⟨a1, a2, a3, a4⟩, s1]
      have e2 : leafBq t m r q = t * (r + q) / m - t * r / m := by rw [leafBq, if_pos ⟨a1, a2, a3, a4⟩, s1, s2]
      have car := Carried.carried (t := t) (m := m) (r := r) (l := q) (by omega) (by omega) (by omega) (by omega) (by omega)
      have k1 := Int.tdiv_eq_ediv_of_nonneg (a := t) (b := m) yt.1
      have k2 := Int.tdiv_eq_ediv_of_nonneg (a := t + m - 1) (b := m) (by omega)
      have c1 : 0 ≤ t / m ∧ t / m ≤ 1000 := ⟨Int.ediv_nonneg yt.1 (by omega), by
        have : t / m ≤ 1000 * m / m := Int.ediv_le_ediv (by omega) (by omega)
        rwa [Int.mul_ediv_cancel _ (by omega)] at this⟩
      have c2 : 0 ≤ (t + m - 1) / m ∧ (t + m - 1) / m ≤ 1001 := ⟨Int.ediv_nonneg (by omega) (by omega), by
        have : (t + m - 1) / m ≤ 1001 * m / m := Int.ediv_le_ediv (by omega) (by omega)
        rwa [Int.mul_ediv_cancel _ (by omega)] at this⟩
      have b1 := share_bd (t := t) (p := r) (w := m) (by omega) (by omega) (by omega)
      have b2 := share_bd (t := t) (p := r + q) (w := m) (by omega) (by omega) (by omega)
      rw [Int.tdiv_eq_ediv_of_nonneg b1.1] at b1
      rw [Int.tdiv_eq_ediv_of_nonneg b2.1] at b2
      have p1 := mul_bd (A := 1000) (B := 20000) c1 (b := r) (by omega)
      have p2 := mul_bd (A := 1001) (B := 20000) c2 (b := r) (by omega)
      have p3 := mul_bd (A := 1000) (B := 20000) c1 (b := q) (by omega)
      have p4 := mul_bd (A := 1001) (B := 20000) c2 (b := q) (by omega)
      have p5 := mul_bd (A := 1000) (B := 20000) c1 (b := m - r - q) (by omega)
      have p6 := mul_bd (A := 1001) (B := 20000) c2 (b := m - r - q) (by omega)
      have zm : ¬ m = 0 := by omega
      unfold SLeafO
      repeat' (first | with_reducible refine iteI (fun _ => ?_) (fun _ => ?_) | ((first | unfold AOpsC | unfold AOpsD | skip); simp (maxSteps := 1000000) (disch := (first | omega | assumption | (simp only [List.length_append, List.length_cons, List.length_nil, List.length_set]; omega))) only [st0, AC, ↓skipC, ↓exitC, ↓retC, ↓seqC, ↓blockC, ↓condC, ↓regC, ↓drawC, thenA, ↓drawStep, ↓AOpC, ↓AOpF, ↓AOpE, ↓AEff, ↓contE_at, ↓contC_at, ↓keepC_at, pv, ev, put, upd, dstOk, cv, cvc, binI, setB, Value.oneCell', EndA, resA, resA1, List.mapM_cons, List.mapM_nil, Option.pure_def, Option.bind_eq_bind, noLocV, noLoc1, noLoc, noLocs, plainV, cellsA, newVarA, putCells, condA, lam0, inBlockA, cur, lenA, rowA, avoidsB, avoidB, clearB, Array.toList_append, Op.operands, Call.operands, newSlot,
    ↓reduceIte, reduceCtorEq, Nat.reduceLT, Nat.reduceEqDiff, Nat.reduceAdd, Nat.reduceMul, Nat.reduceLeDiff, Nat.reduceSub, Nat.zero_add, Nat.add_zero, Nat.succ_ne_self, Nat.lt_add_one, Nat.zero_lt_succ, true_and, and_true, true_or, or_true, false_or, or_false, and_self, true_implies, forall_const, Bool.false_eq_true, Bool.true_eq_false, false_implies, implies_true, imp_self, ne_eq, not_false_eq_true, not_true_eq_false, false_and, and_false,
    List.getElem?_toArray, List.getElem?_cons_succ, List.getElem?_cons_zero, Option.bind_some, Option.map_some, Bool.not_true, Bool.not_false, List.getD_cons_zero, List.getD_cons_succ, Option.some.injEq, exists_eq_left', AV.bool.injEq, List.map_cons, List.map_nil, List.all_cons, List.all_nil, Bool.and_self, Bool.and_true, Bool.true_and, List.append_nil, List.cons_append, List.nil_append, List.length_cons, List.length_nil, List.drop_zero, List.take_zero, List.drop_succ_cons, List.take_succ_cons, List.take_nil, List.drop_nil, List.not_mem_nil, List.mem_cons, List.contains_nil, List.contains_cons, Nat.reduceBEq, Nat.reduceBNe, Nat.reduceBneDiff, Nat.reduceBeqDiff, Bool.or_self, Bool.or_true, Bool.true_or, Bool.false_or, Bool.or_false, Bool.and_false, Bool.false_and, KsS_same, KsS_grow, ag_24, ag_3, by_24, by_3, el_24, in_3, sz_24, sz_3, ze_24, ze_3, Sp3, SShare, D3, skipV, KsS_ext, rep1, rep2, rep3, rep4, rep5, List.flatten_cons, List.flatten_nil, ↓map_parts, partsA, isPtr, fillA, List.size_toArray, ltT, ltF, leT, leF, ltTn, ltFn, leTn, leFn, eqTi, eqFi, wrapId, toNat1, intGet, boolGet, memD, app_get, app_last, app_lst, app_set, app_setL, app_setF, set_ne, set_eq, gt_iff_lt, ge_iff_le, decide_eq_true_eq, len2, len3, get20, get21, drop2, put2, get30, get31, get32, drop3, put3, putI, pairEta, bneTi, bneFi, beqTi, beqFi, bne_eq_false_iff_eq, beq_eq_false_iff_ne, beq_iff_eq, bne_iff_ne, Int.toNat_natCast, Nat.mul_one, List.length_map, Bool.not_eq_true, Bool.not_eq_false, Bool.decide_eq_true, decide_true, decide_false, Bool.not_eq_true', Bool.not_eq_false', decide_eq_false_iff_not, eq_self, Decidable.not_not, hb, k1, k2, zm, e1, e2]))
      generalize t * r / m = A at *
      generalize t * (r + q) / m = B at *
      generalize t / m * r = C1 at *
      generalize t / m * q = C2 at *
      generalize t / m * (m - r - q) = C3 at *
      generalize (t + m - 1) / m * r = D1 at *
      generalize (t + m - 1) / m * q = D2 at *
      generalize (t + m - 1) / m * (m - r - q) = D3 at *
      repeat' (first | with_reducible refine iteI (fun _ => ?_) (fun _ => ?_) | ((first | unfold AOpsC | unfold AOpsD | skip); simp (maxSteps := 1000000) (disch := (first | omega | assumption | (simp only [List.length_append, List.length_cons, List.length_nil, List.length_set]; omega))) only [st0, AC, ↓skipC, ↓exitC, ↓retC, ↓seqC, ↓blockC, ↓condC, ↓regC, ↓drawC, thenA, ↓drawStep, ↓AOpC, ↓AOpF, ↓AOpE, ↓AEff, ↓contE_at, ↓contC_at, ↓keepC_at, pv, ev, put, upd, dstOk, cv, cvc, binI, setB, Value.oneCell', EndA, resA, resA1, List.mapM_cons, List.mapM_nil, Option.pure_def, Option.bind_eq_bind, noLocV, noLoc1, noLoc, noLocs, plainV, cellsA, newVarA, putCells, condA, lam0, inBlockA, cur, lenA, rowA, avoidsB, avoidB, clearB, Array.toList_append, Op.operands, Call.operands, newSlot,
    ↓reduceIte, reduceCtorEq, Nat.reduceLT, Nat.reduceEqDiff, Nat.reduceAdd, Nat.reduceMul, Nat.reduceLeDiff, Nat.reduceSub, Nat.zero_add, Nat.add_zero, Nat.succ_ne_self, Nat.lt_add_one, Nat.zero_lt_succ, true_and, and_true, true_or, or_true, false_or, or_false, and_self, true_implies, forall_const, Bool.false_eq_true, Bool.true_eq_false, false_implies, implies_true, imp_self, ne_eq, not_false_eq_true, not_true_eq_false, false_and, and_false,
    List.getElem?_toArray, List.getElem?_cons_succ, List.getElem?_cons_zero, Option.bind_some, Option.map_some, Bool.not_true, Bool.not_false, List.getD_cons_zero, List.getD_cons_succ, Option.some.injEq, exists_eq_left', AV.bool.injEq, List.map_cons, List.map_nil, List.all_cons, List.all_nil, Bool.and_self, Bool.and_true, Bool.true_and, List.append_nil, List.cons_append, List.nil_append, List.length_cons, List.length_nil, List.drop_zero, List.take_zero, List.drop_succ_cons, List.take_succ_cons, List.take_nil, List.drop_nil, List.not_mem_nil, List.mem_cons, List.contains_nil, List.contains_cons, Nat.reduceBEq, Nat.reduceBNe, Nat.reduceBneDiff, Nat.reduceBeqDiff, Bool.or_self, Bool.or_true, Bool.true_or, Bool.false_or, Bool.or_false, Bool.and_false, Bool.false_and, KsS_same, KsS_grow, ag_24, ag_3, by_24, by_3, el_24, in_3, sz_24, sz_3, ze_24, ze_3, Sp3, SShare, D3, skipV, KsS_ext, rep1, rep2, rep3, rep4, rep5, List.flatten_cons, List.flatten_nil, ↓map_parts, partsA, isPtr, fillA, List.size_toArray, ltT, ltF, leT, leF, ltTn, ltFn, leTn, leFn, eqTi, eqFi, wrapId, toNat1, intGet, boolGet, memD, app_get, app_last, app_lst, app_set, app_setL, app_setF, set_ne, set_eq, gt_iff_lt, ge_iff_le, decide_eq_true_eq, len2, len3, get20, get21, drop2, put2, get30, get31, get32, drop3, put3, putI, pairEta, bneTi, bneFi, beqTi, beqFi, bne_eq_false_iff_eq, beq_eq_false_iff_ne, beq_iff_eq, bne_iff_ne, Int.toNat_natCast, Nat.mul_one, List.length_map, Bool.not_eq_true, Bool.not_eq_false, Bool.decide_eq_true, decide_true, decide_false, Bool.not_eq_true', Bool.not_eq_false', decide_eq_false_iff_not, eq_self, Decidable.not_not, s2]))
      all_goals exact hK _
  · exact h.elim

/- the law -/
theorem law_ok {blks : List Blk} {x0 : AV} (s0 : AvSh blks (.rows 5 1 .u8) x0) : AF Try.prog blks.length 3 [x0] blks fun v _ => v = .bool true := by
  obtain ⟨l, hl, hlm⟩ := row8 s0
  exact f3_ok (show SCar blks.length _ _ _ from ⟨l, hl, hlm, fun _ => rfl⟩)

end Go.Proofs.Ytdcecoddecghdaa
