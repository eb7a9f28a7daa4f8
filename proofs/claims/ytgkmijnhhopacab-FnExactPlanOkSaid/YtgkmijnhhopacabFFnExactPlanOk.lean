/- What the functions that FnExactPlanOk reaches compute, said in the abstract logic, and the law's plain part; no conditions. -/
import Derived.Test.YtgkmijnhhopacabAbT
namespace Go.Proofs.Ytgkmijnhhopacab
open Go
set_option linter.unusedSimpArgs false
set_option linter.unusedVariables false
set_option maxRecDepth 100000
set_option maxHeartbeats 8000000
def D0 : Draws := fun _ => ([], [], [], [])
def noSp : Spec := fun _ _ _ _ => False
theorem noSp_ok {lo : Nat} : Sound Try.prog lo noSp := fun _ _ _ _ h => h.elim

def inB (a b c : Int) : Bool := decide (b ≤ a) && decide (a ≤ c)
def SIn : List AV → List Blk → (AV → List Blk → Prop) → Prop
  | [.int .i64 a, .int .i64 b, .int .i64 c], η, K => K (.bool (inB a b c)) η
  | _, _, _ => False

def SSame3 : List AV → List Blk → (AV → List Blk → Prop) → Prop
  | [.agg [.int .i64 a, .int .i64 b, .int .i64 c]], η, K => K (.agg [.int .i64 a, .int .i64 b, .int .i64 c]) η
  | _, _, _ => False
def borderB (a b c : Int) : Bool := inB a 0 10000 && inB b 0 1000 && inB c 0 250
def SBorder : List AV → List Blk → (AV → List Blk → Prop) → Prop
  | [.agg [.int .i64 a, .int .i64 b, .int .i64 c]], η, K => K (.bool (borderB a b c)) η
  | _, _, _ => False

def SRain : List AV → List Blk → (AV → List Blk → Prop) → Prop
  | [.int .i64 a], η, K => K (.bool (inB a 0 10000)) η
  | _, _, _ => False

def SRate : List AV → List Blk → (AV → List Blk → Prop) → Prop
  | [.int .i64 a], η, K => K (.bool (inB a 0 1000)) η
  | _, _, _ => False

def planB (a b c d e f g h i : Int) : Bool := borderB a b c && inB d 0 10000 && inB e 0 10000 && inB f 0 1000 && inB g 0 1000000 && inB h 0 1000000 && inB i 0 100
def SPlan : List AV → List Blk → (AV → List Blk → Prop) → Prop
  | [.agg [.int .i64 a, .int .i64 b, .int .i64 c, .int .i64 d, .int .i64 e, .int .i64 f, .int .i64 g, .int .i64 h, .int .i64 i]], η, K => K (.bool (planB a b c d e f g h i)) η
  | _, _, _ => False
def SSame9 : List AV → List Blk → (AV → List Blk → Prop) → Prop
  | [.agg [.int .i64 a, .int .i64 b, .int .i64 c, .int .i64 d, .int .i64 e, .int .i64 f, .int .i64 g, .int .i64 h, .int .i64 i]], η, K => K (.agg [.int .i64 a, .int .i64 b, .int .i64 c, .int .i64 d, .int .i64 e, .int .i64 f, .int .i64 g, .int .i64 h, .int .i64 i]) η
  | _, _, _ => False

/- spec.l01In -/
theorem f32_ok {lo : Nat} {args : List AV} {η : List Blk} {K : AV → List Blk → Prop} (h : SIn args η K) : AF Try.prog lo 32 args η K := by
  unfold SIn at h
  split at h
  · refine AF_run noSp_ok D0 [] [.tmp 6] hm Try.func32 rfl (by decide) Try.ntmps32 rfl (by kernel_rfl) (Nat.le_of_ble_eq_true rfl) ?_
    simp (maxSteps := 4000000) only [st0, AC, thenA, AOpsC, AOpsD, AOpC, AOpF, AOp, AEff, pv, ev, put, upd, dstOk, cv, cvc, binI, setB, Value.oneCell', EndA, resA, resA1, List.mapM_cons, List.mapM_nil, Option.pure_def, Option.bind_eq_bind, noLocV, noLoc1, noLoc, noLocs, plainV, cellsA, newVarA, putCells, condA, lam0, inBlockA, cur, lenA, rowA, avoidsB, avoidB, clearB, Array.toList_append, Op.operands, Call.operands, newSlot,
    ↓reduceIte, reduceCtorEq, Nat.reduceLT, Nat.reduceEqDiff, Nat.reduceAdd, Nat.reduceMul, Nat.reduceLeDiff, Nat.reduceSub, Nat.zero_add, Nat.add_zero, Nat.succ_ne_self, Nat.lt_add_one, Nat.zero_lt_succ, true_and, and_true, true_or, or_true, false_or, or_false, and_self, true_implies, forall_const, Bool.false_eq_true, Bool.true_eq_false, false_implies, implies_true, imp_self, ne_eq, not_false_eq_true, not_true_eq_false, false_and, and_false,
    List.getElem?_toArray, List.getElem?_cons_succ, List.getElem?_cons_zero, Option.bind_some, Option.map_some, Bool.not_true, Bool.not_false, List.getD_cons_zero, List.getD_cons_succ, Option.some.injEq, exists_eq_left', AV.bool.injEq, List.map_cons, List.map_nil, List.all_cons, List.all_nil, Bool.and_self, Bool.and_true, Bool.true_and, List.append_nil, List.cons_append, List.nil_append, List.length_cons, List.length_nil, List.drop_zero, List.take_zero, List.drop_succ_cons, List.take_succ_cons, List.take_nil, List.drop_nil, List.not_mem_nil, List.mem_cons, List.contains_nil, List.contains_cons, Nat.reduceBEq, Nat.reduceBNe, Nat.reduceBneDiff, Nat.reduceBeqDiff, Bool.or_self, Bool.or_true, Bool.true_or, Bool.false_or, Bool.or_false, Bool.and_false, Bool.false_and, KsS_same, KsS_grow]
    rename_i a b c
    unfold inB at h
    by_cases h1 : b ≤ a <;> simp_all <;> omega
  · exact h.elim

/- impl.within -/
theorem f37_ok {lo : Nat} {args : List AV} {η : List Blk} {K : AV → List Blk → Prop} (h : SIn args η K) : AF Try.prog lo 37 args η K := by
  unfold SIn at h
  split at h
  · refine AF_run noSp_ok D0 [] [.tmp 6] hm Try.func37 rfl (by decide) Try.ntmps37 rfl (by kernel_rfl) (Nat.le_of_ble_eq_true rfl) ?_
    simp (maxSteps := 4000000) only [st0, AC, thenA, AOpsC, AOpsD, AOpC, AOpF, AOp, AEff, pv, ev, put, upd, dstOk, cv, cvc, binI, setB, Value.oneCell', EndA, resA, resA1, List.mapM_cons, List.mapM_nil, Option.pure_def, Option.bind_eq_bind, noLocV, noLoc1, noLoc, noLocs, plainV, cellsA, newVarA, putCells, condA, lam0, inBlockA, cur, lenA, rowA, avoidsB, avoidB, clearB, Array.toList_append, Op.operands, Call.operands, newSlot,
    ↓reduceIte, reduceCtorEq, Nat.reduceLT, Nat.reduceEqDiff, Nat.reduceAdd, Nat.reduceMul, Nat.reduceLeDiff, Nat.reduceSub, Nat.zero_add, Nat.add_zero, Nat.succ_ne_self, Nat.lt_add_one, Nat.zero_lt_succ, true_and, and_true, true_or, or_true, false_or, or_false, and_self, true_implies, forall_const, Bool.false_eq_true, Bool.true_eq_false, false_implies, implies_true, imp_self, ne_eq, not_false_eq_true, not_true_eq_false, false_and, and_false,
    List.getElem?_toArray, List.getElem?_cons_succ, List.getElem?_cons_zero, Option.bind_some, Option.map_some, Bool.not_true, Bool.not_false, List.getD_cons_zero, List.getD_cons_succ, Option.some.injEq, exists_eq_left', AV.bool.injEq, List.map_cons, List.map_nil, List.all_cons, List.all_nil, Bool.and_self, Bool.and_true, Bool.true_and, List.append_nil, List.cons_append, List.nil_append, List.length_cons, List.length_nil, List.drop_zero, List.take_zero, List.drop_succ_cons, List.take_succ_cons, List.take_nil, List.drop_nil, List.not_mem_nil, List.mem_cons, List.contains_nil, List.contains_cons, Nat.reduceBEq, Nat.reduceBNe, Nat.reduceBneDiff, Nat.reduceBeqDiff, Bool.or_self, Bool.or_true, Bool.true_or, Bool.false_or, Bool.or_false, Bool.and_false, Bool.false_and, KsS_same, KsS_grow]
    rename_i a b c
    unfold inB at h
    by_cases h1 : b ≤ a <;> simp_all <;> omega
  · exact h.elim

/- impl.isRain -/
def Sp35 : Spec := fun g args η K => match g with | 37 => SIn args η K | _ => False
theorem Sp35_ok {lo : Nat} : Sound Try.prog lo Sp35 := by
  intro g args η K h
  unfold Sp35 at h
  split at h
  · exact f37_ok h
  · exact h.elim
theorem f35_ok {lo : Nat} {args : List AV} {η : List Blk} {K : AV → List Blk → Prop} (h : SRain args η K) : AF Try.prog lo 35 args η K := by
  unfold SRain at h
  split at h
  · refine AF_run Sp35_ok D0 [] [.tmp 2] hm Try.func35 rfl (by decide) Try.ntmps35 rfl (by kernel_rfl) (Nat.le_of_ble_eq_true rfl) ?_
    simp (maxSteps := 4000000) only [st0, AC, thenA, AOpsC, AOpsD, AOpC, AOpF, AOp, AEff, pv, ev, put, upd, dstOk, cv, cvc, binI, setB, Value.oneCell', EndA, resA, resA1, List.mapM_cons, List.mapM_nil, Option.pure_def, Option.bind_eq_bind, noLocV, noLoc1, noLoc, noLocs, plainV, cellsA, newVarA, putCells, condA, lam0, inBlockA, cur, lenA, rowA, avoidsB, avoidB, clearB, Array.toList_append, Op.operands, Call.operands, newSlot,
    ↓reduceIte, reduceCtorEq, Nat.reduceLT, Nat.reduceEqDiff, Nat.reduceAdd, Nat.reduceMul, Nat.reduceLeDiff, Nat.reduceSub, Nat.zero_add, Nat.add_zero, Nat.succ_ne_self, Nat.lt_add_one, Nat.zero_lt_succ, true_and, and_true, true_or, or_true, false_or, or_false, and_self, true_implies, forall_const, Bool.false_eq_true, Bool.true_eq_false, false_implies, implies_true, imp_self, ne_eq, not_false_eq_true, not_true_eq_false, false_and, and_false,
    List.getElem?_toArray, List.getElem?_cons_succ, List.getElem?_cons_zero, Option.bind_some, Option.map_some, Bool.not_true, Bool.not_false, List.getD_cons_zero, List.getD_cons_succ, Option.some.injEq, exists_eq_left', AV.bool.injEq, List.map_cons, List.map_nil, List.all_cons, List.all_nil, Bool.and_self, Bool.and_true, Bool.true_and, List.append_nil, List.cons_append, List.nil_append, List.length_cons, List.length_nil, List.drop_zero, List.take_zero, List.drop_succ_cons, List.take_succ_cons, List.take_nil, List.drop_nil, List.not_mem_nil, List.mem_cons, List.contains_nil, List.contains_cons, Nat.reduceBEq, Nat.reduceBNe, Nat.reduceBneDiff, Nat.reduceBeqDiff, Bool.or_self, Bool.or_true, Bool.true_or, Bool.false_or, Bool.or_false, Bool.and_false, Bool.false_and, KsS_same, KsS_grow, Sp35, SIn]
    exact h
  · exact h.elim

/- impl.isRate -/
def Sp36 : Spec := fun g args η K => match g with | 37 => SIn args η K | _ => False
theorem Sp36_ok {lo : Nat} : Sound Try.prog lo Sp36 := by
  intro g args η K h
  unfold Sp36 at h
  split at h
  · exact f37_ok h
  · exact h.elim
theorem f36_ok {lo : Nat} {args : List AV} {η : List Blk} {K : AV → List Blk → Prop} (h : SRate args η K) : AF Try.prog lo 36 args η K := by
  unfold SRate at h
  split at h
  · refine AF_run Sp36_ok D0 [] [.tmp 2] hm Try.func36 rfl (by decide) Try.ntmps36 rfl (by kernel_rfl) (Nat.le_of_ble_eq_true rfl) ?_
    simp (maxSteps := 4000000) only [st0, AC, thenA, AOpsC, AOpsD, AOpC, AOpF, AOp, AEff, pv, ev, put, upd, dstOk, cv, cvc, binI, setB, Value.oneCell', EndA, resA, resA1, List.mapM_cons, List.mapM_nil, Option.pure_def, Option.bind_eq_bind, noLocV, noLoc1, noLoc, noLocs, plainV, cellsA, newVarA, putCells, condA, lam0, inBlockA, cur, lenA, rowA, avoidsB, avoidB, clearB, Array.toList_append, Op.operands, Call.operands, newSlot,
    ↓reduceIte, reduceCtorEq, Nat.reduceLT, Nat.reduceEqDiff, Nat.reduceAdd, Nat.reduceMul, Nat.reduceLeDiff, Nat.reduceSub, Nat.zero_add, Nat.add_zero, Nat.succ_ne_self, Nat.lt_add_one, Nat.zero_lt_succ, true_and, and_true, true_or, or_true, false_or, or_false, and_self, true_implies, forall_const, Bool.false_eq_true, Bool.true_eq_false, false_implies, implies_true, imp_self, ne_eq, not_false_eq_true, not_true_eq_false, false_and, and_false,
    List.getElem?_toArray, List.getElem?_cons_succ, List.getElem?_cons_zero, Option.bind_some, Option.map_some, Bool.not_true, Bool.not_false, List.getD_cons_zero, List.getD_cons_succ, Option.some.injEq, exists_eq_left', AV.bool.injEq, List.map_cons, List.map_nil, List.all_cons, List.all_nil, Bool.and_self, Bool.and_true, Bool.true_and, List.append_nil, List.cons_append, List.nil_append, List.length_cons, List.length_nil, List.drop_zero, List.take_zero, List.drop_succ_cons, List.take_succ_cons, List.take_nil, List.drop_nil, List.not_mem_nil, List.mem_cons, List.contains_nil, List.contains_cons, Nat.reduceBEq, Nat.reduceBNe, Nat.reduceBneDiff, Nat.reduceBeqDiff, Bool.or_self, Bool.or_true, Bool.true_or, Bool.false_or, Bool.or_false, Bool.and_false, Bool.false_and, KsS_same, KsS_grow, Sp36, SIn]
    exact h
  · exact h.elim

/- laws.toBorder -/
theorem f33_ok {lo : Nat} {args : List AV} {η : List Blk} {K : AV → List Blk → Prop} (h : SSame3 args η K) : AF Try.prog lo 33 args η K := by
  unfold SSame3 at h
  split at h
  · refine AF_run noSp_ok D0 [] [.cell 2 27] hm Try.func33 rfl (by decide) Try.ntmps33 rfl (by kernel_rfl) (Nat.le_of_ble_eq_true rfl) ?_
    simp (maxSteps := 4000000) only [st0, AC, thenA, AOpsC, AOpsD, AOpC, AOpF, AOp, AEff, pv, ev, put, upd, dstOk, cv, cvc, binI, setB, Value.oneCell', EndA, resA, resA1, List.mapM_cons, List.mapM_nil, Option.pure_def, Option.bind_eq_bind, noLocV, noLoc1, noLoc, noLocs, plainV, cellsA, newVarA, putCells, condA, lam0, inBlockA, cur, lenA, rowA, avoidsB, avoidB, clearB, Array.toList_append, Op.operands, Call.operands, newSlot,
    ↓reduceIte, reduceCtorEq, Nat.reduceLT, Nat.reduceEqDiff, Nat.reduceAdd, Nat.reduceMul, Nat.reduceLeDiff, Nat.reduceSub, Nat.zero_add, Nat.add_zero, Nat.succ_ne_self, Nat.lt_add_one, Nat.zero_lt_succ, true_and, and_true, true_or, or_true, false_or, or_false, and_self, true_implies, forall_const, Bool.false_eq_true, Bool.true_eq_false, false_implies, implies_true, imp_self, ne_eq, not_false_eq_true, not_true_eq_false, false_and, and_false,
    List.getElem?_toArray, List.getElem?_cons_succ, List.getElem?_cons_zero, Option.bind_some, Option.map_some, Bool.not_true, Bool.not_false, List.getD_cons_zero, List.getD_cons_succ, Option.some.injEq, exists_eq_left', AV.bool.injEq, List.map_cons, List.map_nil, List.all_cons, List.all_nil, Bool.and_self, Bool.and_true, Bool.true_and, List.append_nil, List.cons_append, List.nil_append, List.length_cons, List.length_nil, List.drop_zero, List.take_zero, List.drop_succ_cons, List.take_succ_cons, List.take_nil, List.drop_nil, List.not_mem_nil, List.mem_cons, List.contains_nil, List.contains_cons, Nat.reduceBEq, Nat.reduceBNe, Nat.reduceBneDiff, Nat.reduceBeqDiff, Bool.or_self, Bool.or_true, Bool.true_or, Bool.false_or, Bool.or_false, Bool.and_false, Bool.false_and, KsS_same, KsS_grow, ag_23, ag_27, ag_3, by_23, by_27, by_3, fi_23_0, fi_23_1, fi_23_2, fi_27_0, fi_27_1, fi_27_2, in_3, nf_23, nf_27, pl_23, pl_27, ps_23, ps_27, sz_23, sz_27, sz_3, ze_23, ze_27, ze_3]
    exact h
  · exact h.elim

/- spec.BorderOk -/
def Sp31 : Spec := fun g args η K => match g with | 32 => SIn args η K | _ => False
theorem Sp31_ok {lo : Nat} : Sound Try.prog lo Sp31 := by
  intro g args η K h
  unfold Sp31 at h
  split at h
  · exact f32_ok h
  · exact h.elim
theorem f31_ok {lo : Nat} {args : List AV} {η : List Blk} {K : AV → List Blk → Prop} (h : SBorder args η K) : AF Try.prog lo 31 args η K := by
  unfold SBorder at h
  split at h
  · refine AF_run Sp31_ok D0 [] [.tmp 2] hm Try.func31 rfl (by decide) Try.ntmps31 rfl (by kernel_rfl) (Nat.le_of_ble_eq_true rfl) ?_
    simp (maxSteps := 4000000) only [st0, AC, thenA, AOpsC, AOpsD, AOpC, AOpF, AOp, AEff, pv, ev, put, upd, dstOk, cv, cvc, binI, setB, Value.oneCell', EndA, resA, resA1, List.mapM_cons, List.mapM_nil, Option.pure_def, Option.bind_eq_bind, noLocV, noLoc1, noLoc, noLocs, plainV, cellsA, newVarA, putCells, condA, lam0, inBlockA, cur, lenA, rowA, avoidsB, avoidB, clearB, Array.toList_append, Op.operands, Call.operands, newSlot,
    ↓reduceIte, reduceCtorEq, Nat.reduceLT, Nat.reduceEqDiff, Nat.reduceAdd, Nat.reduceMul, Nat.reduceLeDiff, Nat.reduceSub, Nat.zero_add, Nat.add_zero, Nat.succ_ne_self, Nat.lt_add_one, Nat.zero_lt_succ, true_and, and_true, true_or, or_true, false_or, or_false, and_self, true_implies, forall_const, Bool.false_eq_true, Bool.true_eq_false, false_implies, implies_true, imp_self, ne_eq, not_false_eq_true, not_true_eq_false, false_and, and_false,
    List.getElem?_toArray, List.getElem?_cons_succ, List.getElem?_cons_zero, Option.bind_some, Option.map_some, Bool.not_true, Bool.not_false, List.getD_cons_zero, List.getD_cons_succ, Option.some.injEq, exists_eq_left', AV.bool.injEq, List.map_cons, List.map_nil, List.all_cons, List.all_nil, Bool.and_self, Bool.and_true, Bool.true_and, List.append_nil, List.cons_append, List.nil_append, List.length_cons, List.length_nil, List.drop_zero, List.take_zero, List.drop_succ_cons, List.take_succ_cons, List.take_nil, List.drop_nil, List.not_mem_nil, List.mem_cons, List.contains_nil, List.contains_cons, Nat.reduceBEq, Nat.reduceBNe, Nat.reduceBneDiff, Nat.reduceBeqDiff, Bool.or_self, Bool.or_true, Bool.true_or, Bool.false_or, Bool.or_false, Bool.and_false, Bool.false_and, KsS_same, KsS_grow, ag_27, ag_3, by_27, by_3, fi_27_0, fi_27_1, fi_27_2, in_3, nf_27, pl_27, ps_27, sz_27, sz_3, ze_27, ze_3, Sp31, SIn]
    rename_i a b c
    unfold borderB at h
    cases h1 : inB a 0 10000 <;> cases h2 : inB b 0 1000 <;> simp_all
  · exact h.elim

/- impl.BorderOk -/
def Sp34 : Spec := fun g args η K => match g with | 37 => SIn args η K | _ => False
theorem Sp34_ok {lo : Nat} : Sound Try.prog lo Sp34 := by
  intro g args η K h
  unfold Sp34 at h
  split at h
  · exact f37_ok h
  · exact h.elim
theorem f34_ok {lo : Nat} {args : List AV} {η : List Blk} {K : AV → List Blk → Prop} (h : SBorder args η K) : AF Try.prog lo 34 args η K := by
  unfold SBorder at h
  split at h
  · refine AF_run Sp34_ok D0 [] [.tmp 2] hm Try.func34 rfl (by decide) Try.ntmps34 rfl (by kernel_rfl) (Nat.le_of_ble_eq_true rfl) ?_
    simp (maxSteps := 4000000) only [st0, AC, thenA, AOpsC, AOpsD, AOpC, AOpF, AOp, AEff, pv, ev, put, upd, dstOk, cv, cvc, binI, setB, Value.oneCell', EndA, resA, resA1, List.mapM_cons, List.mapM_nil, Option.pure_def, Option.bind_eq_bind, noLocV, noLoc1, noLoc, noLocs, plainV, cellsA, newVarA, putCells, condA, lam0, inBlockA, cur, lenA, rowA, avoidsB, avoidB, clearB, Array.toList_append, Op.operands, Call.operands, newSlot,
    ↓reduceIte, reduceCtorEq, Nat.reduceLT, Nat.reduceEqDiff, Nat.reduceAdd, Nat.reduceMul, Nat.reduceLeDiff, Nat.reduceSub, Nat.zero_add, Nat.add_zero, Nat.succ_ne_self, Nat.lt_add_one, Nat.zero_lt_succ, true_and, and_true, true_or, or_true, false_or, or_false, and_self, true_implies, forall_const, Bool.false_eq_true, Bool.true_eq_false, false_implies, implies_true, imp_self, ne_eq, not_false_eq_true, not_true_eq_false, false_and, and_false,
    List.getElem?_toArray, List.getElem?_cons_succ, List.getElem?_cons_zero, Option.bind_some, Option.map_some, Bool.not_true, Bool.not_false, List.getD_cons_zero, List.getD_cons_succ, Option.some.injEq, exists_eq_left', AV.bool.injEq, List.map_cons, List.map_nil, List.all_cons, List.all_nil, Bool.and_self, Bool.and_true, Bool.true_and, List.append_nil, List.cons_append, List.nil_append, List.length_cons, List.length_nil, List.drop_zero, List.take_zero, List.drop_succ_cons, List.take_succ_cons, List.take_nil, List.drop_nil, List.not_mem_nil, List.mem_cons, List.contains_nil, List.contains_cons, Nat.reduceBEq, Nat.reduceBNe, Nat.reduceBneDiff, Nat.reduceBeqDiff, Bool.or_self, Bool.or_true, Bool.true_or, Bool.false_or, Bool.or_false, Bool.and_false, Bool.false_and, KsS_same, KsS_grow, ag_27, ag_3, by_27, by_3, fi_27_0, fi_27_1, fi_27_2, in_3, nf_27, pl_27, ps_27, sz_27, sz_3, ze_27, ze_3, Sp34, SIn]
    rename_i a b c
    unfold borderB at h
    cases h1 : inB a 0 10000 <;> cases h2 : inB b 0 1000 <;> simp_all
  · exact h.elim

/- spec.PlanOk -/
def Sp9 : Spec := fun g args η K => match g with | 31 => SBorder args η K | 32 => SIn args η K | _ => False
theorem Sp9_ok {lo : Nat} : Sound Try.prog lo Sp9 := by
  intro g args η K h
  unfold Sp9 at h
  split at h
  · exact f31_ok h
  · exact f32_ok h
  · exact h.elim
theorem f9_ok {lo : Nat} {args : List AV} {η : List Blk} {K : AV → List Blk → Prop} (h : SPlan args η K) : AF Try.prog lo 9 args η K := by
  unfold SPlan at h
  split at h
  · refine AF_run Sp9_ok D0 [] [.tmp 2] hm Try.func9 rfl (by decide) Try.ntmps9 rfl (by kernel_rfl) (Nat.le_of_ble_eq_true rfl) ?_
    simp (maxSteps := 4000000) only [st0, AC, thenA, AOpsC, AOpsD, AOpC, AOpF, AOp, AEff, pv, ev, put, upd, dstOk, cv, cvc, binI, setB, Value.oneCell', EndA, resA, resA1, List.mapM_cons, List.mapM_nil, Option.pure_def, Option.bind_eq_bind, noLocV, noLoc1, noLoc, noLocs, plainV, cellsA, newVarA, putCells, condA, lam0, inBlockA, cur, lenA, rowA, avoidsB, avoidB, clearB, Array.toList_append, Op.operands, Call.operands, newSlot,
    ↓reduceIte, reduceCtorEq, Nat.reduceLT, Nat.reduceEqDiff, Nat.reduceAdd, Nat.reduceMul, Nat.reduceLeDiff, Nat.reduceSub, Nat.zero_add, Nat.add_zero, Nat.succ_ne_self, Nat.lt_add_one, Nat.zero_lt_succ, true_and, and_true, true_or, or_true, false_or, or_false, and_self, true_implies, forall_const, Bool.false_eq_true, Bool.true_eq_false, false_implies, implies_true, imp_self, ne_eq, not_false_eq_true, not_true_eq_false, false_and, and_false,
    List.getElem?_toArray, List.getElem?_cons_succ, List.getElem?_cons_zero, Option.bind_some, Option.map_some, Bool.not_true, Bool.not_false, List.getD_cons_zero, List.getD_cons_succ, Option.some.injEq, exists_eq_left', AV.bool.injEq, List.map_cons, List.map_nil, List.all_cons, List.all_nil, Bool.and_self, Bool.and_true, Bool.true_and, List.append_nil, List.cons_append, List.nil_append, List.length_cons, List.length_nil, List.drop_zero, List.take_zero, List.drop_succ_cons, List.take_succ_cons, List.take_nil, List.drop_nil, List.not_mem_nil, List.mem_cons, List.contains_nil, List.contains_cons, Nat.reduceBEq, Nat.reduceBNe, Nat.reduceBneDiff, Nat.reduceBeqDiff, Bool.or_self, Bool.or_true, Bool.true_or, Bool.false_or, Bool.or_false, Bool.and_false, Bool.false_and, KsS_same, KsS_grow, ag_27, ag_29, ag_3, by_27, by_29, by_3, fi_29_0, fi_29_1, fi_29_2, fi_29_3, fi_29_4, fi_29_5, fi_29_6, in_3, nf_27, nf_29, pl_27, pl_29, ps_27, ps_29, sz_27, sz_29, sz_3, ze_27, ze_29, ze_3, Sp9, SBorder, SIn]
    rename_i a b c d e f g i j
    unfold planB at h
    cases h1 : borderB a b c
    · simp_all
    cases h2 : inB d 0 10000
    · simp_all
    cases h3 : inB e 0 10000
    · simp_all
    cases h4 : inB f 0 1000
    · simp_all
    cases h5 : inB g 0 1000000
    · simp_all
    cases h6 : inB i 0 1000000
    · simp_all
    simp_all
  · exact h.elim

/- impl.PlanOk -/
def Sp11 : Spec := fun g args η K => match g with | 34 => SBorder args η K | 35 => SRain args η K | 36 => SRate args η K | 37 => SIn args η K | _ => False
theorem Sp11_ok {lo : Nat} : Sound Try.prog lo Sp11 := by
  intro g args η K h
  unfold Sp11 at h
  split at h
  · exact f34_ok h
  · exact f35_ok h
  · exact f36_ok h
  · exact f37_ok h
  · exact h.elim
theorem f11_ok {lo : Nat} {args : List AV} {η : List Blk} {K : AV → List Blk → Prop} (h : SPlan args η K) : AF Try.prog lo 11 args η K := by
  unfold SPlan at h
  split at h
  · refine AF_run Sp11_ok D0 [] [.tmp 2] hm Try.func11 rfl (by decide) Try.ntmps11 rfl (by kernel_rfl) (Nat.le_of_ble_eq_true rfl) ?_
    simp (maxSteps := 4000000) only [st0, AC, thenA, AOpsC, AOpsD, AOpC, AOpF, AOp, AEff, pv, ev, put, upd, dstOk, cv, cvc, binI, setB, Value.oneCell', EndA, resA, resA1, List.mapM_cons, List.mapM_nil, Option.pure_def, Option.bind_eq_bind, noLocV, noLoc1, noLoc, noLocs, plainV, cellsA, newVarA, putCells, condA, lam0, inBlockA, cur, lenA, rowA, avoidsB, avoidB, clearB, Array.toList_append, Op.operands, Call.operands, newSlot,
    ↓reduceIte, reduceCtorEq, Nat.reduceLT, Nat.reduceEqDiff, Nat.reduceAdd, Nat.reduceMul, Nat.reduceLeDiff, Nat.reduceSub, Nat.zero_add, Nat.add_zero, Nat.succ_ne_self, Nat.lt_add_one, Nat.zero_lt_succ, true_and, and_true, true_or, or_true, false_or, or_false, and_self, true_implies, forall_const, Bool.false_eq_true, Bool.true_eq_false, false_implies, implies_true, imp_self, ne_eq, not_false_eq_true, not_true_eq_false, false_and, and_false,
    List.getElem?_toArray, List.getElem?_cons_succ, List.getElem?_cons_zero, Option.bind_some, Option.map_some, Bool.not_true, Bool.not_false, List.getD_cons_zero, List.getD_cons_succ, Option.some.injEq, exists_eq_left', AV.bool.injEq, List.map_cons, List.map_nil, List.all_cons, List.all_nil, Bool.and_self, Bool.and_true, Bool.true_and, List.append_nil, List.cons_append, List.nil_append, List.length_cons, List.length_nil, List.drop_zero, List.take_zero, List.drop_succ_cons, List.take_succ_cons, List.take_nil, List.drop_nil, List.not_mem_nil, List.mem_cons, List.contains_nil, List.contains_cons, Nat.reduceBEq, Nat.reduceBNe, Nat.reduceBneDiff, Nat.reduceBeqDiff, Bool.or_self, Bool.or_true, Bool.true_or, Bool.false_or, Bool.or_false, Bool.and_false, Bool.false_and, KsS_same, KsS_grow, ag_27, ag_29, ag_3, by_27, by_29, by_3, fi_29_0, fi_29_1, fi_29_2, fi_29_3, fi_29_4, fi_29_5, fi_29_6, in_3, nf_27, nf_29, pl_27, pl_29, ps_27, ps_29, sz_27, sz_29, sz_3, ze_27, ze_29, ze_3, Sp11, SBorder, SRain, SRate, SIn]
    rename_i a b c d e f g i j
    unfold planB at h
    cases h1 : borderB a b c
    · simp_all
    cases h2 : inB d 0 10000
    · simp_all
    cases h3 : inB e 0 10000
    · simp_all
    cases h4 : inB f 0 1000
    · simp_all
    cases h5 : inB g 0 1000000
    · simp_all
    cases h6 : inB i 0 1000000
    · simp_all
    simp_all
  · exact h.elim

/- laws.toPlan -/
def Sp10 : Spec := fun g args η K => match g with | 33 => SSame3 args η K | _ => False
theorem Sp10_ok {lo : Nat} : Sound Try.prog lo Sp10 := by
  intro g args η K h
  unfold Sp10 at h
  split at h
  · exact f33_ok h
  · exact h.elim
theorem f10_ok {lo : Nat} {args : List AV} {η : List Blk} {K : AV → List Blk → Prop} (h : SSame9 args η K) : AF Try.prog lo 10 args η K := by
  unfold SSame9 at h
  split at h
  · refine AF_run Sp10_ok D0 [] [.cell 2 29] hm Try.func10 rfl (by decide) Try.ntmps10 rfl (by kernel_rfl) (Nat.le_of_ble_eq_true rfl) ?_
    simp (maxSteps := 4000000) only [st0, AC, thenA, AOpsC, AOpsD, AOpC, AOpF, AOp, AEff, pv, ev, put, upd, dstOk, cv, cvc, binI, setB, Value.oneCell', EndA, resA, resA1, List.mapM_cons, List.mapM_nil, Option.pure_def, Option.bind_eq_bind, noLocV, noLoc1, noLoc, noLocs, plainV, cellsA, newVarA, putCells, condA, lam0, inBlockA, cur, lenA, rowA, avoidsB, avoidB, clearB, Array.toList_append, Op.operands, Call.operands, newSlot,
    ↓reduceIte, reduceCtorEq, Nat.reduceLT, Nat.reduceEqDiff, Nat.reduceAdd, Nat.reduceMul, Nat.reduceLeDiff, Nat.reduceSub, Nat.zero_add, Nat.add_zero, Nat.succ_ne_self, Nat.lt_add_one, Nat.zero_lt_succ, true_and, and_true, true_or, or_true, false_or, or_false, and_self, true_implies, forall_const, Bool.false_eq_true, Bool.true_eq_false, false_implies, implies_true, imp_self, ne_eq, not_false_eq_true, not_true_eq_false, false_and, and_false,
    List.getElem?_toArray, List.getElem?_cons_succ, List.getElem?_cons_zero, Option.bind_some, Option.map_some, Bool.not_true, Bool.not_false, List.getD_cons_zero, List.getD_cons_succ, Option.some.injEq, exists_eq_left', AV.bool.injEq, List.map_cons, List.map_nil, List.all_cons, List.all_nil, Bool.and_self, Bool.and_true, Bool.true_and, List.append_nil, List.cons_append, List.nil_append, List.length_cons, List.length_nil, List.drop_zero, List.take_zero, List.drop_succ_cons, List.take_succ_cons, List.take_nil, List.drop_nil, List.not_mem_nil, List.mem_cons, List.contains_nil, List.contains_cons, Nat.reduceBEq, Nat.reduceBNe, Nat.reduceBneDiff, Nat.reduceBeqDiff, Bool.or_self, Bool.or_true, Bool.true_or, Bool.false_or, Bool.or_false, Bool.and_false, Bool.false_and, KsS_same, KsS_grow, ag_23, ag_25, ag_27, ag_29, ag_3, by_23, by_25, by_27, by_29, by_3, fi_25_0, fi_25_1, fi_25_2, fi_25_3, fi_25_4, fi_25_5, fi_25_6, fi_29_0, fi_29_1, fi_29_2, fi_29_3, fi_29_4, fi_29_5, fi_29_6, in_3, nf_23, nf_25, nf_27, nf_29, pl_23, pl_25, pl_27, pl_29, ps_23, ps_25, ps_27, ps_29, sz_23, sz_25, sz_27, sz_29, sz_3, ze_23, ze_25, ze_27, ze_29, ze_3, Sp10, SSame3]
    exact h
  · exact h.elim

def SLaw : List AV → List Blk → (AV → List Blk → Prop) → Prop
  | [.agg [.int .i64 a, .int .i64 b, .int .i64 c, .int .i64 d, .int .i64 e, .int .i64 f, .int .i64 g, .int .i64 h, .int .i64 i]], η, K => K (.bool true) η
  | _, _, _ => False

/- laws.FnExactPlanOk -/
def Sp3 : Spec := fun g args η K => match g with | 9 => SPlan args η K | 10 => SSame9 args η K | 11 => SPlan args η K | _ => False
theorem Sp3_ok {lo : Nat} : Sound Try.prog lo Sp3 := by
  intro g args η K h
  unfold Sp3 at h
  split at h
  · exact f9_ok h
  · exact f10_ok h
  · exact f11_ok h
  · exact h.elim
theorem f3_ok {lo : Nat} {args : List AV} {η : List Blk} {K : AV → List Blk → Prop} (h : SLaw args η K) : AF Try.prog lo 3 args η K := by
  unfold SLaw at h
  split at h
  · refine AF_run Sp3_ok D0 [] [.tmp 2] hm Try.func3 rfl (by decide) Try.ntmps3 rfl (by kernel_rfl) (Nat.le_of_ble_eq_true rfl) ?_
    simp (maxSteps := 4000000) only [st0, AC, thenA, AOpsC, AOpsD, AOpC, AOpF, AOp, AEff, pv, ev, put, upd, dstOk, cv, cvc, binI, setB, Value.oneCell', EndA, resA, resA1, List.mapM_cons, List.mapM_nil, Option.pure_def, Option.bind_eq_bind, noLocV, noLoc1, noLoc, noLocs, plainV, cellsA, newVarA, putCells, condA, lam0, inBlockA, cur, lenA, rowA, avoidsB, avoidB, clearB, Array.toList_append, Op.operands, Call.operands, newSlot,
    ↓reduceIte, reduceCtorEq, Nat.reduceLT, Nat.reduceEqDiff, Nat.reduceAdd, Nat.reduceMul, Nat.reduceLeDiff, Nat.reduceSub, Nat.zero_add, Nat.add_zero, Nat.succ_ne_self, Nat.lt_add_one, Nat.zero_lt_succ, true_and, and_true, true_or, or_true, false_or, or_false, and_self, true_implies, forall_const, Bool.false_eq_true, Bool.true_eq_false, false_implies, implies_true, imp_self, ne_eq, not_false_eq_true, not_true_eq_false, false_and, and_false,
    List.getElem?_toArray, List.getElem?_cons_succ, List.getElem?_cons_zero, Option.bind_some, Option.map_some, Bool.not_true, Bool.not_false, List.getD_cons_zero, List.getD_cons_succ, Option.some.injEq, exists_eq_left', AV.bool.injEq, List.map_cons, List.map_nil, List.all_cons, List.all_nil, Bool.and_self, Bool.and_true, Bool.true_and, List.append_nil, List.cons_append, List.nil_append, List.length_cons, List.length_nil, List.drop_zero, List.take_zero, List.drop_succ_cons, List.take_succ_cons, List.take_nil, List.drop_nil, List.not_mem_nil, List.mem_cons, List.contains_nil, List.contains_cons, Nat.reduceBEq, Nat.reduceBNe, Nat.reduceBneDiff, Nat.reduceBeqDiff, Bool.or_self, Bool.or_true, Bool.true_or, Bool.false_or, Bool.or_false, Bool.and_false, Bool.false_and, KsS_same, KsS_grow, ag_25, bo_4, by_25, nf_25, pl_25, ps_25, sz_25, ze_25, Sp3, SPlan, SSame9]
    simp_all
  · exact h.elim

/- the law -/
theorem law_ok {blks : List Blk} {x0 x1 x2 x3 x4 x5 x6 x7 x8 : AV} (s0 : AvSh blks (.int .i64) x0) (s1 : AvSh blks (.int .i64) x1) (s2 : AvSh blks (.int .i64) x2) (s3 : AvSh blks (.int .i64) x3) (s4 : AvSh blks (.int .i64) x4) (s5 : AvSh blks (.int .i64) x5) (s6 : AvSh blks (.int .i64) x6) (s7 : AvSh blks (.int .i64) x7) (s8 : AvSh blks (.int .i64) x8) : AF Try.prog blks.length 3 [.agg [x0, x1, x2, x3, x4, x5, x6, x7, x8]] blks fun v _ => v = .bool true := by
  obtain ⟨a0, rfl, _⟩ := s0
  obtain ⟨a1, rfl, _⟩ := s1
  obtain ⟨a2, rfl, _⟩ := s2
  obtain ⟨a3, rfl, _⟩ := s3
  obtain ⟨a4, rfl, _⟩ := s4
  obtain ⟨a5, rfl, _⟩ := s5
  obtain ⟨a6, rfl, _⟩ := s6
  obtain ⟨a7, rfl, _⟩ := s7
  obtain ⟨a8, rfl, _⟩ := s8
  exact f3_ok (show SLaw _ _ _ from rfl)

end Go.Proofs.Ytgkmijnhhopacab
