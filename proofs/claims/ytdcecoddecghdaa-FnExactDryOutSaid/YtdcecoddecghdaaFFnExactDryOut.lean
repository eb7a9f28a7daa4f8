/- What functions of the program compute, said in the abstract logic; no conditions. -/
import Derived.Test.YtdcecoddecghdaaGBase
import Derived.Test.YtdcecoddecghdaaGIn
import Derived.Test.YtdcecoddecghdaaGIds
import Derived.Test.YtdcecoddecghdaaGInts
import Derived.Test.YtdcecoddecghdaaGIdx
import Derived.Test.YtdcecoddecghdaaGMesh
import Derived.Test.YtdcecoddecghdaaGBal
import Derived.Test.YtdcecoddecghdaaGState
import Derived.Test.YtdcecoddecghdaaGStTo
import Derived.Test.YtdcecoddecghdaaGShare
import Derived.Test.YtdcecoddecghdaaGGreat
import Derived.Test.YtdcecoddecghdaaGDry

namespace Go.Proofs.Ytdcecoddecghdaa
open Go
set_option linter.unusedSimpArgs false
set_option linter.unusedVariables false
set_option maxRecDepth 100000
set_option maxHeartbeats 8000000

def SLaw : List AV → List Blk → (AV → List Blk → Prop) → Prop
  | [.agg [.int .i64 r, v, a, b, c], .int .i64 y0], η, K => ∃ (l : List Id3) (ms ts bs : List Int), ROWS4 η v a b c l ms ts bs ∧ len4 maxLen l ms ts bs ∧ ∀ H, K (.bool true) H
  | _, _, _ => False

/- laws.FnExactDryOut -/
def Sp14 (lo : Nat) : Spec := fun g args η K => match g with | 43 => SSzState args η K | 45 => SToState args η K | 47 => SEqState args η K | 54 => SDry args η K | 55 => SDry args η K | _ => False
theorem Sp14_ok {lo : Nat} : Sound Try.prog lo (Sp14 lo) := by
  intro g args η K h
  unfold Sp14 at h
  split at h
  · exact f43_ok h
  · exact f45_ok h
  · exact f47_ok h
  · exact f54_ok h
  · exact f55_ok h
  · exact h.elim
def D14 : Draws := fun id => match id with | 10 => ([0, 0, 2, 7, 15], [2], [], [0, 1, 2, 3, 4]) | _ => ([], [], [], [])
theorem f14_ok {lo : Nat} {args : List AV} {η : List Blk} {K : AV → List Blk → Prop} (h : SLaw args η K) : AF Try.prog lo 14 args η K := by
  unfold SLaw at h
  split at h
  · obtain ⟨l, ms, ts, bs, hr, hn, hK⟩ := h
    obtain ⟨q1, q2, q3, q4⟩ := hr.noLoc
    obtain ⟨p1, p2, p3, p4⟩ := hr.noLoc1
    refine AF_run Sp14_ok D14 [] [.tmp 4] hm Try.func14 rfl (by decide) Try.ntmps14 rfl (by kernel_rfl) (Nat.le_of_ble_eq_true rfl) ?_
    intro hlo
    repeat' (first | with_reducible refine iteI (fun _ => ?_) (fun _ => ?_) | ((first | unfold AOpsC | unfold AOpsD | skip); simp (maxSteps := 1000000) (disch := (first | omega | assumption | (simp only [List.length_append, List.length_cons, List.length_nil, List.length_set]; omega))) only [st0, AC, ↓skipC, ↓exitC, ↓retC, ↓seqC, ↓blockC, ↓condC, ↓regC, ↓drawC, thenA, ↓drawStep, ↓AOpC, ↓AOpF, ↓AOpE, ↓AEff, ↓contE_at, ↓contC_at, ↓keepC_at, pv, ev, put, upd, dstOk, cv, cvc, binI, setB, Value.oneCell', EndA, resA, resA1, List.mapM_cons, List.mapM_nil, Option.pure_def, Option.bind_eq_bind, noLocV, noLoc1, noLoc, noLocs, plainV, cellsA, newVarA, putCells, condA, lam0, inBlockA, cur, lenA, rowA, avoidsB, avoidB, clearB, Array.toList_append, Op.operands, Call.operands, newSlot,
    ↓reduceIte, reduceCtorEq, Nat.reduceLT, Nat.reduceEqDiff, Nat.reduceAdd, Nat.reduceMul, Nat.reduceLeDiff, Nat.reduceSub, Nat.zero_add, Nat.add_zero, Nat.succ_ne_self, Nat.lt_add_one, Nat.zero_lt_succ, true_and, and_true, true_or, or_true, false_or, or_false, and_self, true_implies, forall_const, Bool.false_eq_true, Bool.true_eq_false, false_implies, implies_true, imp_self, ne_eq, not_false_eq_true, not_true_eq_false, false_and, and_false,
    List.getElem?_toArray, List.getElem?_cons_succ, List.getElem?_cons_zero, Option.bind_some, Option.map_some, Bool.not_true, Bool.not_false, List.getD_cons_zero, List.getD_cons_succ, Option.some.injEq, exists_eq_left', AV.bool.injEq, List.map_cons, List.map_nil, List.all_cons, List.all_nil, Bool.and_self, Bool.and_true, Bool.true_and, List.append_nil, List.cons_append, List.nil_append, List.length_cons, List.length_nil, List.drop_zero, List.take_zero, List.drop_succ_cons, List.take_succ_cons, List.take_nil, List.drop_nil, List.not_mem_nil, List.mem_cons, List.contains_nil, List.contains_cons, Nat.reduceBEq, Nat.reduceBNe, Nat.reduceBneDiff, Nat.reduceBeqDiff, Bool.or_self, Bool.or_true, Bool.true_or, Bool.false_or, Bool.or_false, Bool.and_false, Bool.false_and, KsS_same, KsS_grow, ag_56, ag_60, by_56, by_60, nf_56, nf_60, pl_56, pl_60, ps_56, ps_60, sz_56, sz_60, ze_56, ze_60, Sp14, SDry, D14, skipV, KsS_ext, rep1, rep2, rep3, rep4, rep5, List.flatten_cons, List.flatten_nil, ↓map_parts, partsA, isPtr, fillA, List.size_toArray, ltT, ltF, leT, leF, ltTn, ltFn, leTn, leFn, eqTi, eqFi, wrapId, toNat1, intGet, boolGet, memD, app_get, app_last, app_lst, app_set, app_setL, app_setF, set_ne, set_eq, gt_iff_lt, ge_iff_le, decide_eq_true_eq, len2, len3, get20, get21, drop2, put2, get30, get31, get32, drop3, put3, putI, pairEta, bneTi, bneFi, beqTi, beqFi, bne_eq_false_iff_eq, beq_eq_false_iff_ne, beq_iff_eq, bne_iff_ne, Int.toNat_natCast, Nat.mul_one, List.length_map, Bool.not_eq_true, Bool.not_eq_false, Bool.decide_eq_true, decide_true, decide_false, Bool.not_eq_true', Bool.not_eq_false', decide_eq_false_iff_not, eq_self, Decidable.not_not, ↓q1, ↓q2, ↓q3, ↓q4, ↓p1, ↓p2, ↓p3, ↓p4]))
    unfold SSzState
    refine ⟨by simp, l, ms, ts, bs, hr, hn, ?_⟩
    unfold sz4
    by_cases hsz : (l.length : Int) + ms.length + ts.length + bs.length ≤ 1048576
    case neg =>
      rw [if_neg hsz]
      repeat' (first | with_reducible refine iteI (fun _ => ?_) (fun _ => ?_) | ((first | unfold AOpsC | unfold AOpsD | skip); simp (maxSteps := 1000000) (disch := (first | omega | assumption | (simp only [List.length_append, List.length_cons, List.length_nil, List.length_set]; omega))) only [st0, AC, ↓skipC, ↓exitC, ↓retC, ↓seqC, ↓blockC, ↓condC, ↓regC, ↓drawC, thenA, ↓drawStep, ↓AOpC, ↓AOpF, ↓AOpE, ↓AEff, ↓contE_at, ↓contC_at, ↓keepC_at, pv, ev, put, upd, dstOk, cv, cvc, binI, setB, Value.oneCell', EndA, resA, resA1, List.mapM_cons, List.mapM_nil, Option.pure_def, Option.bind_eq_bind, noLocV, noLoc1, noLoc, noLocs, plainV, cellsA, newVarA, putCells, condA, lam0, inBlockA, cur, lenA, rowA, avoidsB, avoidB, clearB, Array.toList_append, Op.operands, Call.operands, newSlot,
    ↓reduceIte, reduceCtorEq, Nat.reduceLT, Nat.reduceEqDiff, Nat.reduceAdd, Nat.reduceMul, Nat.reduceLeDiff, Nat.reduceSub, Nat.zero_add, Nat.add_zero, Nat.succ_ne_self, Nat.lt_add_one, Nat.zero_lt_succ, true_and, and_true, true_or, or_true, false_or, or_false, and_self, true_implies, forall_const, Bool.false_eq_true, Bool.true_eq_false, false_implies, implies_true, imp_self, ne_eq, not_false_eq_true, not_true_eq_false, false_and, and_false,
    List.getElem?_toArray, List.getElem?_cons_succ, List.getElem?_cons_zero, Option.bind_some, Option.map_some, Bool.not_true, Bool.not_false, List.getD_cons_zero, List.getD_cons_succ, Option.some.injEq, exists_eq_left', AV.bool.injEq, List.map_cons, List.map_nil, List.all_cons, List.all_nil, Bool.and_self, Bool.and_true, Bool.true_and, List.append_nil, List.cons_append, List.nil_append, List.length_cons, List.length_nil, List.drop_zero, List.take_zero, List.drop_succ_cons, List.take_succ_cons, List.take_nil, List.drop_nil, List.not_mem_nil, List.mem_cons, List.contains_nil, List.contains_cons, Nat.reduceBEq, Nat.reduceBNe, Nat.reduceBneDiff, Nat.reduceBeqDiff, Bool.or_self, Bool.or_true, Bool.true_or, Bool.false_or, Bool.or_false, Bool.and_false, Bool.false_and, KsS_same, KsS_grow, ag_56, ag_60, by_56, by_60, nf_56, nf_60, pl_56, pl_60, ps_56, ps_60, sz_56, sz_60, ze_56, ze_60, Sp14, SDry, D14, skipV, KsS_ext, rep1, rep2, rep3, rep4, rep5, List.flatten_cons, List.flatten_nil, ↓map_parts, partsA, isPtr, fillA, List.size_toArray, ltT, ltF, leT, leF, ltTn, ltFn, leTn, leFn, eqTi, eqFi, wrapId, toNat1, intGet, boolGet, memD, app_get, app_last, app_lst, app_set, app_setL, app_setF, set_ne, set_eq, gt_iff_lt, ge_iff_le, decide_eq_true_eq, len2, len3, get20, get21, drop2, put2, get30, get31, get32, drop3, put3, putI, pairEta, bneTi, bneFi, beqTi, beqFi, bne_eq_false_iff_eq, beq_eq_false_iff_ne, beq_iff_eq, bne_iff_ne, Int.toNat_natCast, Nat.mul_one, List.length_map, Bool.not_eq_true, Bool.not_eq_false, Bool.decide_eq_true, decide_true, decide_false, Bool.not_eq_true', Bool.not_eq_false', decide_eq_false_iff_not, eq_self, Decidable.not_not]))
      exact hK _
    rw [if_pos hsz]
    have m1 : l.length ≤ 1048576 := by omega
    have m2 : ms.length ≤ 1048576 := by omega
    have m3 : ts.length ≤ 1048576 := by omega
    have m4 : bs.length ≤ 1048576 := by omega
    repeat' (first | with_reducible refine iteI (fun _ => ?_) (fun _ => ?_) | ((first | unfold AOpsC | unfold AOpsD | skip); simp (maxSteps := 1000000) (disch := (first | omega | assumption | (simp only [List.length_append, List.length_cons, List.length_nil, List.length_set]; omega))) only [st0, AC, ↓skipC, ↓exitC, ↓retC, ↓seqC, ↓blockC, ↓condC, ↓regC, ↓drawC, thenA, ↓drawStep, ↓AOpC, ↓AOpF, ↓AOpE, ↓AEff, ↓contE_at, ↓contC_at, ↓keepC_at, pv, ev, put, upd, dstOk, cv, cvc, binI, setB, Value.oneCell', EndA, resA, resA1, List.mapM_cons, List.mapM_nil, Option.pure_def, Option.bind_eq_bind, noLocV, noLoc1, noLoc, noLocs, plainV, cellsA, newVarA, putCells, condA, lam0, inBlockA, cur, lenA, rowA, avoidsB, avoidB, clearB, Array.toList_append, Op.operands, Call.operands, newSlot,
    ↓reduceIte, reduceCtorEq, Nat.reduceLT, Nat.reduceEqDiff, Nat.reduceAdd, Nat.reduceMul, Nat.reduceLeDiff, Nat.reduceSub, Nat.zero_add, Nat.add_zero, Nat.succ_ne_self, Nat.lt_add_one, Nat.zero_lt_succ, true_and, and_true, true_or, or_true, false_or, or_false, and_self, true_implies, forall_const, Bool.false_eq_true, Bool.true_eq_false, false_implies, implies_true, imp_self, ne_eq, not_false_eq_true, not_true_eq_false, false_and, and_false,
    List.getElem?_toArray, List.getElem?_cons_succ, List.getElem?_cons_zero, Option.bind_some, Option.map_some, Bool.not_true, Bool.not_false, List.getD_cons_zero, List.getD_cons_succ, Option.some.injEq, exists_eq_left', AV.bool.injEq, List.map_cons, List.map_nil, List.all_cons, List.all_nil, Bool.and_self, Bool.and_true, Bool.true_and, List.append_nil, List.cons_append, List.nil_append, List.length_cons, List.length_nil, List.drop_zero, List.take_zero, List.drop_succ_cons, List.take_succ_cons, List.take_nil, List.drop_nil, List.not_mem_nil, List.mem_cons, List.contains_nil, List.contains_cons, Nat.reduceBEq, Nat.reduceBNe, Nat.reduceBneDiff, Nat.reduceBeqDiff, Bool.or_self, Bool.or_true, Bool.true_or, Bool.false_or, Bool.or_false, Bool.and_false, Bool.false_and, KsS_same, KsS_grow, ag_56, ag_60, by_56, by_60, nf_56, nf_60, pl_56, pl_60, ps_56, ps_60, sz_56, sz_60, ze_56, ze_60, Sp14, SDry, D14, skipV, KsS_ext, rep1, rep2, rep3, rep4, rep5, List.flatten_cons, List.flatten_nil, ↓map_parts, partsA, isPtr, fillA, List.size_toArray, ltT, ltF, leT, leF, ltTn, ltFn, leTn, leFn, eqTi, eqFi, wrapId, toNat1, intGet, boolGet, memD, app_get, app_last, app_lst, app_set, app_setL, app_setF, set_ne, set_eq, gt_iff_lt, ge_iff_le, decide_eq_true_eq, len2, len3, get20, get21, drop2, put2, get30, get31, get32, drop3, put3, putI, pairEta, bneTi, bneFi, beqTi, beqFi, bne_eq_false_iff_eq, beq_eq_false_iff_ne, beq_iff_eq, bne_iff_ne, Int.toNat_natCast, Nat.mul_one, List.length_map, Bool.not_eq_true, Bool.not_eq_false, Bool.decide_eq_true, decide_true, decide_false, Bool.not_eq_true', Bool.not_eq_false', decide_eq_false_iff_not, eq_self, Decidable.not_not, ↓q1, ↓q2, ↓q3, ↓q4, ↓p1, ↓p2, ↓p3, ↓p4]))
    unfold SToState
    refine ⟨l, ms, ts, bs, hr, ⟨m1, m2, m3, m4⟩, fun H1 v1 a1 b1 c1 s1 x1 => ?_⟩
    have d11 := s1.1.dec3
    have d12 := s1.2.1.dec
    have d13 := s1.2.2.1.dec
    have d14 := s1.2.2.2.dec
    have o11 : ok3 77 _ _ := ⟨l, s1.1, m1⟩
    have o12 : okI _ _ := ⟨ms, s1.2.1, m2⟩
    have o13 : okI _ _ := ⟨ts, s1.2.2.1, m3⟩
    have o14 : okI _ _ := ⟨bs, s1.2.2.2, m4⟩
    have z1 := s1
    obtain ⟨⟨c11, w11, rfl, g11⟩, ⟨c12, w12, rfl, g12⟩, ⟨c13, w13, rfl, g13⟩, ⟨c14, w14, rfl, g14⟩⟩ := s1
    repeat' (first | with_reducible refine iteI (fun _ => ?_) (fun _ => ?_) | ((first | unfold AOpsC | unfold AOpsD | skip); simp (maxSteps := 1000000) (disch := (first | omega | assumption | (simp only [List.length_append, List.length_cons, List.length_nil, List.length_set]; omega))) only [st0, AC, ↓skipC, ↓exitC, ↓retC, ↓seqC, ↓blockC, ↓condC, ↓regC, ↓drawC, thenA, ↓drawStep, ↓AOpC, ↓AOpF, ↓AOpE, ↓AEff, ↓contE_at, ↓contC_at, ↓keepC_at, pv, ev, put, upd, dstOk, cv, cvc, binI, setB, Value.oneCell', EndA, resA, resA1, List.mapM_cons, List.mapM_nil, Option.pure_def, Option.bind_eq_bind, noLocV, noLoc1, noLoc, noLocs, plainV, cellsA, newVarA, putCells, condA, lam0, inBlockA, cur, lenA, rowA, avoidsB, avoidB, clearB, Array.toList_append, Op.operands, Call.operands, newSlot,
    ↓reduceIte, reduceCtorEq, Nat.reduceLT, Nat.reduceEqDiff, Nat.reduceAdd, Nat.reduceMul, Nat.reduceLeDiff, Nat.reduceSub, Nat.zero_add, Nat.add_zero, Nat.succ_ne_self, Nat.lt_add_one, Nat.zero_lt_succ, true_and, and_true, true_or, or_true, false_or, or_false, and_self, true_implies, forall_const, Bool.false_eq_true, Bool.true_eq_false, false_implies, implies_true, imp_self, ne_eq, not_false_eq_true, not_true_eq_false, false_and, and_false,
    List.getElem?_toArray, List.getElem?_cons_succ, List.getElem?_cons_zero, Option.bind_some, Option.map_some, Bool.not_true, Bool.not_false, List.getD_cons_zero, List.getD_cons_succ, Option.some.injEq, exists_eq_left', AV.bool.injEq, List.map_cons, List.map_nil, List.all_cons, List.all_nil, Bool.and_self, Bool.and_true, Bool.true_and, List.append_nil, List.cons_append, List.nil_append, List.length_cons, List.length_nil, List.drop_zero, List.take_zero, List.drop_succ_cons, List.take_succ_cons, List.take_nil, List.drop_nil, List.not_mem_nil, List.mem_cons, List.contains_nil, List.contains_cons, Nat.reduceBEq, Nat.reduceBNe, Nat.reduceBneDiff, Nat.reduceBeqDiff, Bool.or_self, Bool.or_true, Bool.true_or, Bool.false_or, Bool.or_false, Bool.and_false, Bool.false_and, KsS_same, KsS_grow, ag_56, ag_60, by_56, by_60, nf_56, nf_60, pl_56, pl_60, ps_56, ps_60, sz_56, sz_60, ze_56, ze_60, Sp14, SDry, D14, skipV, KsS_ext, rep1, rep2, rep3, rep4, rep5, List.flatten_cons, List.flatten_nil, ↓map_parts, partsA, isPtr, fillA, List.size_toArray, ltT, ltF, leT, leF, ltTn, ltFn, leTn, leFn, eqTi, eqFi, wrapId, toNat1, intGet, boolGet, memD, app_get, app_last, app_lst, app_set, app_setL, app_setF, set_ne, set_eq, gt_iff_lt, ge_iff_le, decide_eq_true_eq, len2, len3, get20, get21, drop2, put2, get30, get31, get32, drop3, put3, putI, pairEta, bneTi, bneFi, beqTi, beqFi, bne_eq_false_iff_eq, beq_eq_false_iff_ne, beq_iff_eq, bne_iff_ne, Int.toNat_natCast, Nat.mul_one, List.length_map, Bool.not_eq_true, Bool.not_eq_false, Bool.decide_eq_true, decide_true, decide_false, Bool.not_eq_true', Bool.not_eq_false', decide_eq_false_iff_not, eq_self, Decidable.not_not, ↓q1, ↓q2, ↓q3, ↓q4, ↓p1, ↓p2, ↓p3, ↓p4, d11, d12, d13, d14, o11, o12, o13, o14]))
    unfold SToState
    refine ⟨l, ms, ts, bs, hr.ext x1, ⟨m1, m2, m3, m4⟩, fun H2 v2 a2 b2 c2 s2 x2 => ?_⟩
    have d21 := s2.1.dec3
    have d22 := s2.2.1.dec
    have d23 := s2.2.2.1.dec
    have d24 := s2.2.2.2.dec
    have o21 : ok3 77 _ _ := ⟨l, s2.1, m1⟩
    have o22 : okI _ _ := ⟨ms, s2.2.1, m2⟩
    have o23 : okI _ _ := ⟨ts, s2.2.2.1, m3⟩
    have o24 : okI _ _ := ⟨bs, s2.2.2.2, m4⟩
    have z2 := s2
    obtain ⟨⟨c21, w21, rfl, g21⟩, ⟨c22, w22, rfl, g22⟩, ⟨c23, w23, rfl, g23⟩, ⟨c24, w24, rfl, g24⟩⟩ := s2
    repeat' (first | with_reducible refine iteI (fun _ => ?_) (fun _ => ?_) | ((first | unfold AOpsC | unfold AOpsD | skip); simp (maxSteps := 1000000) (disch := (first | omega | assumption | (simp only [List.length_append, List.length_cons, List.length_nil, List.length_set]; omega))) only [st0, AC, ↓skipC, ↓exitC, ↓retC, ↓seqC, ↓blockC, ↓condC, ↓regC, ↓drawC, thenA, ↓drawStep, ↓AOpC, ↓AOpF, ↓AOpE, ↓AEff, ↓contE_at, ↓contC_at, ↓keepC_at, pv, ev, put, upd, dstOk, cv, cvc, binI, setB, Value.oneCell', EndA, resA, resA1, List.mapM_cons, List.mapM_nil, Option.pure_def, Option.bind_eq_bind, noLocV, noLoc1, noLoc, noLocs, plainV, cellsA, newVarA, putCells, condA, lam0, inBlockA, cur, lenA, rowA, avoidsB, avoidB, clearB, Array.toList_append, Op.operands, Call.operands, newSlot,
    ↓reduceIte, reduceCtorEq, Nat.reduceLT, Nat.reduceEqDiff, Nat.reduceAdd, Nat.reduceMul, Nat.reduceLeDiff, Nat.reduceSub, Nat.zero_add, Nat.add_zero, Nat.succ_ne_self, Nat.lt_add_one, Nat.zero_lt_succ, true_and, and_true, true_or, or_true, false_or, or_false, and_self, true_implies, forall_const, Bool.false_eq_true, Bool.true_eq_false, false_implies, implies_true, imp_self, ne_eq, not_false_eq_true, not_true_eq_false, false_and, and_false,
    List.getElem?_toArray, List.getElem?_cons_succ, List.getElem?_cons_zero, Option.bind_some, Option.map_some, Bool.not_true, Bool.not_false, List.getD_cons_zero, List.getD_cons_succ, Option.some.injEq, exists_eq_left', AV.bool.injEq, List.map_cons, List.map_nil, List.all_cons, List.all_nil, Bool.and_self, Bool.and_true, Bool.true_and, List.append_nil, List.cons_append, List.nil_append, List.length_cons, List.length_nil, List.drop_zero, List.take_zero, List.drop_succ_cons, List.take_succ_cons, List.take_nil, List.drop_nil, List.not_mem_nil, List.mem_cons, List.contains_nil, List.contains_cons, Nat.reduceBEq, Nat.reduceBNe, Nat.reduceBneDiff, Nat.reduceBeqDiff, Bool.or_self, Bool.or_true, Bool.true_or, Bool.false_or, Bool.or_false, Bool.and_false, Bool.false_and, KsS_same, KsS_grow, ag_56, ag_60, by_56, by_60, nf_56, nf_60, pl_56, pl_60, ps_56, ps_60, sz_56, sz_60, ze_56, ze_60, Sp14, SDry, D14, skipV, KsS_ext, rep1, rep2, rep3, rep4, rep5, List.flatten_cons, List.flatten_nil, ↓map_parts, partsA, isPtr, fillA, List.size_toArray, ltT, ltF, leT, leF, ltTn, ltFn, leTn, leFn, eqTi, eqFi, wrapId, toNat1, intGet, boolGet, memD, app_get, app_last, app_lst, app_set, app_setL, app_setF, set_ne, set_eq, gt_iff_lt, ge_iff_le, decide_eq_true_eq, len2, len3, get20, get21, drop2, put2, get30, get31, get32, drop3, put3, putI, pairEta, bneTi, bneFi, beqTi, beqFi, bne_eq_false_iff_eq, beq_eq_false_iff_ne, beq_iff_eq, bne_iff_ne, Int.toNat_natCast, Nat.mul_one, List.length_map, Bool.not_eq_true, Bool.not_eq_false, Bool.decide_eq_true, decide_true, decide_false, Bool.not_eq_true', Bool.not_eq_false', decide_eq_false_iff_not, eq_self, Decidable.not_not, ↓q1, ↓q2, ↓q3, ↓q4, ↓p1, ↓p2, ↓p3, ↓p4, d21, d22, d23, d24, o21, o22, o23, o24]))
    unfold SToState
    refine ⟨l, ms, ts, bs, (hr.ext x1).ext x2, ⟨m1, m2, m3, m4⟩, fun H3 v3 a3 b3 c3 s3 x3 => ?_⟩
    have d31 := s3.1.dec3
    have d32 := s3.2.1.dec
    have d33 := s3.2.2.1.dec
    have d34 := s3.2.2.2.dec
    have o31 : ok3 77 _ _ := ⟨l, s3.1, m1⟩
    have o32 : okI _ _ := ⟨ms, s3.2.1, m2⟩
    have o33 : okI _ _ := ⟨ts, s3.2.2.1, m3⟩
    have o34 : okI _ _ := ⟨bs, s3.2.2.2, m4⟩
    have z3 := s3
    obtain ⟨⟨c31, w31, rfl, g31⟩, ⟨c32, w32, rfl, g32⟩, ⟨c33, w33, rfl, g33⟩, ⟨c34, w34, rfl, g34⟩⟩ := s3
    have z2' := z2.ext x3
    repeat' (first | with_reducible refine iteI (fun _ => ?_) (fun _ => ?_) | ((first | unfold AOpsC | unfold AOpsD | skip); simp (maxSteps := 1000000) (disch := (first | omega | assumption | (simp only [List.length_append, List.length_cons, List.length_nil, List.length_set]; omega))) only [st0, AC, ↓skipC, ↓exitC, ↓retC, ↓seqC, ↓blockC, ↓condC, ↓regC, ↓drawC, thenA, ↓drawStep, ↓AOpC, ↓AOpF, ↓AOpE, ↓AEff, ↓contE_at, ↓contC_at, ↓keepC_at, pv, ev, put, upd, dstOk, cv, cvc, binI, setB, Value.oneCell', EndA, resA, resA1, List.mapM_cons, List.mapM_nil, Option.pure_def, Option.bind_eq_bind, noLocV, noLoc1, noLoc, noLocs, plainV, cellsA, newVarA, putCells, condA, lam0, inBlockA, cur, lenA, rowA, avoidsB, avoidB, clearB, Array.toList_append, Op.operands, Call.operands, newSlot,
    ↓reduceIte, reduceCtorEq, Nat.reduceLT, Nat.reduceEqDiff, Nat.reduceAdd, Nat.reduceMul, Nat.reduceLeDiff, Nat.reduceSub, Nat.zero_add, Nat.add_zero, Nat.succ_ne_self, Nat.lt_add_one, Nat.zero_lt_succ, true_and, and_true, true_or, or_true, false_or, or_false, and_self, true_implies, forall_const, Bool.false_eq_true, Bool.true_eq_false, false_implies, implies_true, imp_self, ne_eq, not_false_eq_true, not_true_eq_false, false_and, and_false,
    List.getElem?_toArray, List.getElem?_cons_succ, List.getElem?_cons_zero, Option.bind_some, Option.map_some, Bool.not_true, Bool.not_false, List.getD_cons_zero, List.getD_cons_succ, Option.some.injEq, exists_eq_left', AV.bool.injEq, List.map_cons, List.map_nil, List.all_cons, List.all_nil, Bool.and_self, Bool.and_true, Bool.true_and, List.append_nil, List.cons_append, List.nil_append, List.length_cons, List.length_nil, List.drop_zero, List.take_zero, List.drop_succ_cons, List.take_succ_cons, List.take_nil, List.drop_nil, List.not_mem_nil, List.mem_cons, List.contains_nil, List.contains_cons, Nat.reduceBEq, Nat.reduceBNe, Nat.reduceBneDiff, Nat.reduceBeqDiff, Bool.or_self, Bool.or_true, Bool.true_or, Bool.false_or, Bool.or_false, Bool.and_false, Bool.false_and, KsS_same, KsS_grow, ag_56, ag_60, by_56, by_60, nf_56, nf_60, pl_56, pl_60, ps_56, ps_60, sz_56, sz_60, ze_56, ze_60, Sp14, SDry, D14, skipV, KsS_ext, rep1, rep2, rep3, rep4, rep5, List.flatten_cons, List.flatten_nil, ↓map_parts, partsA, isPtr, fillA, List.size_toArray, ltT, ltF, leT, leF, ltTn, ltFn, leTn, leFn, eqTi, eqFi, wrapId, toNat1, intGet, boolGet, memD, app_get, app_last, app_lst, app_set, app_setL, app_setF, set_ne, set_eq, gt_iff_lt, ge_iff_le, decide_eq_true_eq, len2, len3, get20, get21, drop2, put2, get30, get31, get32, drop3, put3, putI, pairEta, bneTi, bneFi, beqTi, beqFi, bne_eq_false_iff_eq, beq_eq_false_iff_ne, beq_iff_eq, bne_iff_ne, Int.toNat_natCast, Nat.mul_one, List.length_map, Bool.not_eq_true, Bool.not_eq_false, Bool.decide_eq_true, decide_true, decide_false, Bool.not_eq_true', Bool.not_eq_false', decide_eq_false_iff_not, eq_self, Decidable.not_not]))
    unfold SEqState
    refine ⟨l, ms, ts, bs, l, ms, ts, bs, z2', z3, ⟨m1, m2, m3, m4⟩, ?_⟩
    repeat' (first | with_reducible refine iteI (fun _ => ?_) (fun _ => ?_) | ((first | unfold AOpsC | unfold AOpsD | skip); simp (maxSteps := 1000000) (disch := (first | omega | assumption | (simp only [List.length_append, List.length_cons, List.length_nil, List.length_set]; omega))) only [st0, AC, ↓skipC, ↓exitC, ↓retC, ↓seqC, ↓blockC, ↓condC, ↓regC, ↓drawC, thenA, ↓drawStep, ↓AOpC, ↓AOpF, ↓AOpE, ↓AEff, ↓contE_at, ↓contC_at, ↓keepC_at, pv, ev, put, upd, dstOk, cv, cvc, binI, setB, Value.oneCell', EndA, resA, resA1, List.mapM_cons, List.mapM_nil, Option.pure_def, Option.bind_eq_bind, noLocV, noLoc1, noLoc, noLocs, plainV, cellsA, newVarA, putCells, condA, lam0, inBlockA, cur, lenA, rowA, avoidsB, avoidB, clearB, Array.toList_append, Op.operands, Call.operands, newSlot,
    ↓reduceIte, reduceCtorEq, Nat.reduceLT, Nat.reduceEqDiff, Nat.reduceAdd, Nat.reduceMul, Nat.reduceLeDiff, Nat.reduceSub, Nat.zero_add, Nat.add_zero, Nat.succ_ne_self, Nat.lt_add_one, Nat.zero_lt_succ, true_and, and_true, true_or, or_true, false_or, or_false, and_self, true_implies, forall_const, Bool.false_eq_true, Bool.true_eq_false, false_implies, implies_true, imp_self, ne_eq, not_false_eq_true, not_true_eq_false, false_and, and_false,
    List.getElem?_toArray, List.getElem?_cons_succ, List.getElem?_cons_zero, Option.bind_some, Option.map_some, Bool.not_true, Bool.not_false, List.getD_cons_zero, List.getD_cons_succ, Option.some.injEq, exists_eq_left', AV.bool.injEq, List.map_cons, List.map_nil, List.all_cons, List.all_nil, Bool.and_self, Bool.and_true, Bool.true_and, List.append_nil, List.cons_append, List.nil_append, List.length_cons, List.length_nil, List.drop_zero, List.take_zero, List.drop_succ_cons, List.take_succ_cons, List.take_nil, List.drop_nil, List.not_mem_nil, List.mem_cons, List.contains_nil, List.contains_cons, Nat.reduceBEq, Nat.reduceBNe, Nat.reduceBneDiff, Nat.reduceBeqDiff, Bool.or_self, Bool.or_true, Bool.true_or, Bool.false_or, Bool.or_false, Bool.and_false, Bool.false_and, KsS_same, KsS_grow, ag_56, ag_60, by_56, by_60, nf_56, nf_60, pl_56, pl_60, ps_56, ps_60, sz_56, sz_60, ze_56, ze_60, Sp14, SDry, D14, skipV, KsS_ext, rep1, rep2, rep3, rep4, rep5, List.flatten_cons, List.flatten_nil, ↓map_parts, partsA, isPtr, fillA, List.size_toArray, ltT, ltF, leT, leF, ltTn, ltFn, leTn, leFn, eqTi, eqFi, wrapId, toNat1, intGet, boolGet, memD, app_get, app_last, app_lst, app_set, app_setL, app_setF, set_ne, set_eq, gt_iff_lt, ge_iff_le, decide_eq_true_eq, len2, len3, get20, get21, drop2, put2, get30, get31, get32, drop3, put3, putI, pairEta, bneTi, bneFi, beqTi, beqFi, bne_eq_false_iff_eq, beq_eq_false_iff_ne, beq_iff_eq, bne_iff_ne, Int.toNat_natCast, Nat.mul_one, List.length_map, Bool.not_eq_true, Bool.not_eq_false, Bool.decide_eq_true, decide_true, decide_false, Bool.not_eq_true', Bool.not_eq_false', decide_eq_false_iff_not, eq_self, Decidable.not_not]))
    exact hK _
  · exact h.elim

/- the law -/
theorem law_ok {blks : List Blk} {x0 x1 x2 x3 x4 x5 : AV} (s0 : AvSh blks (.int .i64) x0) (s1 : AvSh blks (.rows 104 3 .i64) x1) (s2 : AvSh blks (.rows 3 1 .i64) x2) (s3 : AvSh blks (.rows 3 1 .i64) x3) (s4 : AvSh blks (.rows 3 1 .i64) x4) (s5 : AvSh blks (.int .i64) x5) : AF Try.prog blks.length 14 [.agg [x0, x1, x2, x3, x4], x5] blks fun v _ => v = .bool true := by
  obtain ⟨n0, rfl, _⟩ := s0
  obtain ⟨l, h1, n1⟩ := row3 s1
  obtain ⟨ms, h2, n2⟩ := row1 s2
  obtain ⟨ts, h3, n3⟩ := row1 s3
  obtain ⟨bs, h4, n4⟩ := row1 s4
  obtain ⟨y0, rfl, _⟩ := s5
  exact f14_ok (show SLaw _ _ _ from ⟨l, ms, ts, bs, ⟨h1, h2, h3, h4⟩, ⟨n1, n2, n3, n4⟩, fun _ => rfl⟩)

end Go.Proofs.Ytdcecoddecghdaa
