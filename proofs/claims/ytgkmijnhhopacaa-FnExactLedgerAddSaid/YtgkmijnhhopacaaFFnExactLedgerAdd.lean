/- What the functions that FnExactLedgerAdd reaches compute, said in the abstract logic, and the law's plain part; no conditions. -/
import Derived.Test.YtgkmijnhhopacaaAbT
namespace Go.Proofs.Ytgkmijnhhopacaa
open Go
set_option linter.unusedSimpArgs false
set_option linter.unusedVariables false
set_option maxRecDepth 100000
def D0 : Draws := fun _ => ([], [], [], [])
def noSp : Spec := fun _ _ _ _ => False
theorem noSp_ok {lo : Nat} : Sound Try.prog lo noSp := fun _ _ _ _ h => h.elim

def SSame4 : List AV → List Blk → (AV → List Blk → Prop) → Prop
  | [.agg [.int .i64 a, .int .i64 b, .int .i64 c, .int .i64 d]], η, K => K (.agg [.int .i64 a, .int .i64 b, .int .i64 c, .int .i64 d]) η
  | _, _, _ => False
def w64 (n : Int) : Int := IntKind.i64.wrap n
def SAdd : List AV → List Blk → (AV → List Blk → Prop) → Prop
  | [.agg [.int .i64 a, .int .i64 b, .int .i64 c, .int .i64 d], .agg [.int .i64 a', .int .i64 b', .int .i64 c', .int .i64 d']], η, K => K (.agg [.int .i64 (w64 (a + a')), .int .i64 (w64 (b + b')), .int .i64 (w64 (c + c')), .int .i64 (w64 (d + d'))]) η
  | _, _, _ => False
def SEqL : List AV → List Blk → (AV → List Blk → Prop) → Prop
  | [.agg [.int .i64 a, .int .i64 b, .int .i64 c, .int .i64 d], .agg [.int .i64 a', .int .i64 b', .int .i64 c', .int .i64 d']], η, K => K (.bool (decide (a = a') && decide (b = b') && decide (c = c') && decide (d = d'))) η
  | _, _, _ => False

/- laws.toLedger -/
theorem f19_ok {lo : Nat} {args : List AV} {η : List Blk} {K : AV → List Blk → Prop} (h : SSame4 args η K) : AF Try.prog lo 19 args η K := by
  unfold SSame4 at h
  split at h
  · refine AF_run noSp_ok D0 [] [.cell 2 36] hm Try.func19 rfl (by decide) Try.ntmps19 rfl (by kernel_rfl) (Nat.le_of_ble_eq_true rfl) ?_
    simp only [st0, AC, thenA, AOpsC, AOpsD, AOpC, AOpF, AOp, AEff, pv, ev, put, upd, dstOk, cv, cvc, binI, setB, Value.oneCell', EndA, resA, resA1, List.mapM_cons, List.mapM_nil, Option.pure_def, Option.bind_eq_bind, noLocV, noLoc1, noLoc, noLocs, plainV, cellsA, newVarA, putCells, condA, lam0, inBlockA, cur, lenA, rowA, avoidsB, avoidB, clearB, Array.toList_append, Op.operands, Call.operands, newSlot,
    ↓reduceIte, reduceCtorEq, Nat.reduceLT, Nat.reduceEqDiff, Nat.reduceAdd, Nat.reduceMul, Nat.reduceLeDiff, Nat.reduceSub, Nat.zero_add, Nat.add_zero, Nat.succ_ne_self, Nat.lt_add_one, Nat.zero_lt_succ, true_and, and_true, true_or, or_true, false_or, or_false, and_self, true_implies, forall_const, Bool.false_eq_true, Bool.true_eq_false, false_implies, implies_true, imp_self, ne_eq, not_false_eq_true, not_true_eq_false, false_and, and_false,
    List.getElem?_toArray, List.getElem?_cons_succ, List.getElem?_cons_zero, Option.bind_some, Option.map_some, Bool.not_true, Bool.not_false, List.getD_cons_zero, List.getD_cons_succ, Option.some.injEq, exists_eq_left', AV.bool.injEq, List.map_cons, List.map_nil, List.all_cons, List.all_nil, Bool.and_self, Bool.and_true, Bool.true_and, List.append_nil, List.cons_append, List.nil_append, List.length_cons, List.length_nil, List.drop_zero, List.take_zero, List.drop_succ_cons, List.take_succ_cons, List.take_nil, List.drop_nil, List.not_mem_nil, List.mem_cons, List.contains_nil, List.contains_cons, Nat.reduceBEq, Nat.reduceBNe, Nat.reduceBneDiff, Nat.reduceBeqDiff, Bool.or_self, Bool.or_true, Bool.true_or, Bool.false_or, Bool.or_false, Bool.and_false, Bool.false_and, KsS_same, KsS_grow, ag_3, ag_35, ag_36, by_3, by_35, by_36, fi_35_0, fi_35_1, fi_35_2, fi_35_3, fi_36_0, fi_36_1, fi_36_2, fi_36_3, in_3, nf_35, nf_36, pl_35, pl_36, ps_35, ps_36, sz_3, sz_35, sz_36, ze_3, ze_35, ze_36]
    exact h
  · exact h.elim

/- spec.LedgerAdd -/
theorem f18_ok {lo : Nat} {args : List AV} {η : List Blk} {K : AV → List Blk → Prop} (h : SAdd args η K) : AF Try.prog lo 18 args η K := by
  unfold SAdd at h
  split at h
  · refine AF_run noSp_ok D0 [] [.cell 4 36] hm Try.func18 rfl (by decide) Try.ntmps18 rfl (by kernel_rfl) (Nat.le_of_ble_eq_true rfl) ?_
    simp only [st0, AC, thenA, AOpsC, AOpsD, AOpC, AOpF, AOp, AEff, pv, ev, put, upd, dstOk, cv, cvc, binI, setB, Value.oneCell', EndA, resA, resA1, List.mapM_cons, List.mapM_nil, Option.pure_def, Option.bind_eq_bind, noLocV, noLoc1, noLoc, noLocs, plainV, cellsA, newVarA, putCells, condA, lam0, inBlockA, cur, lenA, rowA, avoidsB, avoidB, clearB, Array.toList_append, Op.operands, Call.operands, newSlot,
    ↓reduceIte, reduceCtorEq, Nat.reduceLT, Nat.reduceEqDiff, Nat.reduceAdd, Nat.reduceMul, Nat.reduceLeDiff, Nat.reduceSub, Nat.zero_add, Nat.add_zero, Nat.succ_ne_self, Nat.lt_add_one, Nat.zero_lt_succ, true_and, and_true, true_or, or_true, false_or, or_false, and_self, true_implies, forall_const, Bool.false_eq_true, Bool.true_eq_false, false_implies, implies_true, imp_self, ne_eq, not_false_eq_true, not_true_eq_false, false_and, and_false,
    List.getElem?_toArray, List.getElem?_cons_succ, List.getElem?_cons_zero, Option.bind_some, Option.map_some, Bool.not_true, Bool.not_false, List.getD_cons_zero, List.getD_cons_succ, Option.some.injEq, exists_eq_left', AV.bool.injEq, List.map_cons, List.map_nil, List.all_cons, List.all_nil, Bool.and_self, Bool.and_true, Bool.true_and, List.append_nil, List.cons_append, List.nil_append, List.length_cons, List.length_nil, List.drop_zero, List.take_zero, List.drop_succ_cons, List.take_succ_cons, List.take_nil, List.drop_nil, List.not_mem_nil, List.mem_cons, List.contains_nil, List.contains_cons, Nat.reduceBEq, Nat.reduceBNe, Nat.reduceBneDiff, Nat.reduceBeqDiff, Bool.or_self, Bool.or_true, Bool.true_or, Bool.false_or, Bool.or_false, Bool.and_false, Bool.false_and, KsS_same, KsS_grow, ag_3, ag_36, by_3, by_36, fi_36_0, fi_36_1, fi_36_2, fi_36_3, in_3, nf_36, pl_36, ps_36, sz_3, sz_36, ze_3, ze_36, fillA, Option.map_some]
    exact h
  · exact h.elim

/- impl.LedgerAdd -/
theorem f20_ok {lo : Nat} {args : List AV} {η : List Blk} {K : AV → List Blk → Prop} (h : SAdd args η K) : AF Try.prog lo 20 args η K := by
  unfold SAdd at h
  split at h
  · refine AF_run noSp_ok D0 [] [.cell 4 36] hm Try.func20 rfl (by decide) Try.ntmps20 rfl (by kernel_rfl) (Nat.le_of_ble_eq_true rfl) ?_
    simp only [st0, AC, thenA, AOpsC, AOpsD, AOpC, AOpF, AOp, AEff, pv, ev, put, upd, dstOk, cv, cvc, binI, setB, Value.oneCell', EndA, resA, resA1, List.mapM_cons, List.mapM_nil, Option.pure_def, Option.bind_eq_bind, noLocV, noLoc1, noLoc, noLocs, plainV, cellsA, newVarA, putCells, condA, lam0, inBlockA, cur, lenA, rowA, avoidsB, avoidB, clearB, Array.toList_append, Op.operands, Call.operands, newSlot,
    ↓reduceIte, reduceCtorEq, Nat.reduceLT, Nat.reduceEqDiff, Nat.reduceAdd, Nat.reduceMul, Nat.reduceLeDiff, Nat.reduceSub, Nat.zero_add, Nat.add_zero, Nat.succ_ne_self, Nat.lt_add_one, Nat.zero_lt_succ, true_and, and_true, true_or, or_true, false_or, or_false, and_self, true_implies, forall_const, Bool.false_eq_true, Bool.true_eq_false, false_implies, implies_true, imp_self, ne_eq, not_false_eq_true, not_true_eq_false, false_and, and_false,
    List.getElem?_toArray, List.getElem?_cons_succ, List.getElem?_cons_zero, Option.bind_some, Option.map_some, Bool.not_true, Bool.not_false, List.getD_cons_zero, List.getD_cons_succ, Option.some.injEq, exists_eq_left', AV.bool.injEq, List.map_cons, List.map_nil, List.all_cons, List.all_nil, Bool.and_self, Bool.and_true, Bool.true_and, List.append_nil, List.cons_append, List.nil_append, List.length_cons, List.length_nil, List.drop_zero, List.take_zero, List.drop_succ_cons, List.take_succ_cons, List.take_nil, List.drop_nil, List.not_mem_nil, List.mem_cons, List.contains_nil, List.contains_cons, Nat.reduceBEq, Nat.reduceBNe, Nat.reduceBneDiff, Nat.reduceBeqDiff, Bool.or_self, Bool.or_true, Bool.true_or, Bool.false_or, Bool.or_false, Bool.and_false, Bool.false_and, KsS_same, KsS_grow, ag_3, ag_36, by_3, by_36, fi_36_0, fi_36_1, fi_36_2, fi_36_3, in_3, nf_36, pl_36, ps_36, sz_3, sz_36, ze_3, ze_36, fillA, Option.map_some]
    exact h
  · exact h.elim

/- laws.eqLedger -/
theorem f21_ok {lo : Nat} {args : List AV} {η : List Blk} {K : AV → List Blk → Prop} (h : SEqL args η K) : AF Try.prog lo 21 args η K := by
  unfold SEqL at h
  split at h
  · refine AF_run noSp_ok D0 [] [.tmp 4] hm Try.func21 rfl (by decide) Try.ntmps21 rfl (by kernel_rfl) (Nat.le_of_ble_eq_true rfl) ?_
    simp only [st0, AC, thenA, AOpsC, AOpsD, AOpC, AOpF, AOp, AEff, pv, ev, put, upd, dstOk, cv, cvc, binI, setB, Value.oneCell', EndA, resA, resA1, List.mapM_cons, List.mapM_nil, Option.pure_def, Option.bind_eq_bind, noLocV, noLoc1, noLoc, noLocs, plainV, cellsA, newVarA, putCells, condA, lam0, inBlockA, cur, lenA, rowA, avoidsB, avoidB, clearB, Array.toList_append, Op.operands, Call.operands, newSlot,
    ↓reduceIte, reduceCtorEq, Nat.reduceLT, Nat.reduceEqDiff, Nat.reduceAdd, Nat.reduceMul, Nat.reduceLeDiff, Nat.reduceSub, Nat.zero_add, Nat.add_zero, Nat.succ_ne_self, Nat.lt_add_one, Nat.zero_lt_succ, true_and, and_true, true_or, or_true, false_or, or_false, and_self, true_implies, forall_const, Bool.false_eq_true, Bool.true_eq_false, false_implies, implies_true, imp_self, ne_eq, not_false_eq_true, not_true_eq_false, false_and, and_false,
    List.getElem?_toArray, List.getElem?_cons_succ, List.getElem?_cons_zero, Option.bind_some, Option.map_some, Bool.not_true, Bool.not_false, List.getD_cons_zero, List.getD_cons_succ, Option.some.injEq, exists_eq_left', AV.bool.injEq, List.map_cons, List.map_nil, List.all_cons, List.all_nil, Bool.and_self, Bool.and_true, Bool.true_and, List.append_nil, List.cons_append, List.nil_append, List.length_cons, List.length_nil, List.drop_zero, List.take_zero, List.drop_succ_cons, List.take_succ_cons, List.take_nil, List.drop_nil, List.not_mem_nil, List.mem_cons, List.contains_nil, List.contains_cons, Nat.reduceBEq, Nat.reduceBNe, Nat.reduceBneDiff, Nat.reduceBeqDiff, Bool.or_self, Bool.or_true, Bool.true_or, Bool.false_or, Bool.or_false, Bool.and_false, Bool.false_and, KsS_same, KsS_grow, ag_3, ag_36, by_3, by_36, fi_36_0, fi_36_1, fi_36_2, fi_36_3, in_3, nf_36, pl_36, ps_36, sz_3, sz_36, ze_3, ze_36]
    rename_i a b c d a' b' c' d'
    by_cases h1 : a = a' <;> by_cases h2 : b = b' <;> by_cases h3 : c = c' <;> by_cases h4 : d = d' <;> simp_all
  · exact h.elim

def SLaw : List AV → List Blk → (AV → List Blk → Prop) → Prop
  | [.agg [.int .i64 _, .int .i64 _, .int .i64 _, .int .i64 _], .agg [.int .i64 _, .int .i64 _, .int .i64 _, .int .i64 _]], η, K => K (.bool true) η
  | _, _, _ => False

/- laws.FnExactLedgerAdd -/
def Sp7 : Spec := fun g args η K => match g with | 18 => SAdd args η K | 19 => SSame4 args η K | 20 => SAdd args η K | 21 => SEqL args η K | _ => False
theorem Sp7_ok {lo : Nat} : Sound Try.prog lo Sp7 := by
  intro g args η K h
  unfold Sp7 at h
  split at h
  · exact f18_ok h
  · exact f19_ok h
  · exact f20_ok h
  · exact f21_ok h
  · exact h.elim
def D7 : Draws := fun id => match id with | 1 => ([0, 1, 0, 7, 15, 0, 63], [1], [(0, 5), (1, 5), (2, 5), (3, 5), (4, 5)], [5, 0, 2, 1, 3, 4, 6]) | 2 => ([0, 1, 0, 7, 15, 0, 63], [1], [(0, 6), (1, 6), (2, 6), (3, 6), (4, 6)], [5, 0, 2, 1, 3, 4, 6]) | _ => ([], [], [], [])
theorem f7_ok {lo : Nat} {args : List AV} {η : List Blk} {K : AV → List Blk → Prop} (h : SLaw args η K) : AF Try.prog lo 7 args η K := by
  unfold SLaw at h
  split at h
  · refine AF_run Sp7_ok D7 [] [.tmp 4] hm Try.func7 rfl (by decide) Try.ntmps7 rfl (by kernel_rfl) (Nat.le_of_ble_eq_true rfl) ?_
    simp only [st0, AC, thenA, AOpsC, AOpsD, AOpC, AOpF, AOp, AEff, pv, ev, put, upd, dstOk, cv, cvc, binI, setB, Value.oneCell', EndA, resA, resA1, List.mapM_cons, List.mapM_nil, Option.pure_def, Option.bind_eq_bind, noLocV, noLoc1, noLoc, noLocs, plainV, cellsA, newVarA, putCells, condA, lam0, inBlockA, cur, lenA, rowA, avoidsB, avoidB, clearB, Array.toList_append, Op.operands, Call.operands, newSlot,
    ↓reduceIte, reduceCtorEq, Nat.reduceLT, Nat.reduceEqDiff, Nat.reduceAdd, Nat.reduceMul, Nat.reduceLeDiff, Nat.reduceSub, Nat.zero_add, Nat.add_zero, Nat.succ_ne_self, Nat.lt_add_one, Nat.zero_lt_succ, true_and, and_true, true_or, or_true, false_or, or_false, and_self, true_implies, forall_const, Bool.false_eq_true, Bool.true_eq_false, false_implies, implies_true, imp_self, ne_eq, not_false_eq_true, not_true_eq_false, false_and, and_false,
    List.getElem?_toArray, List.getElem?_cons_succ, List.getElem?_cons_zero, Option.bind_some, Option.map_some, Bool.not_true, Bool.not_false, List.getD_cons_zero, List.getD_cons_succ, Option.some.injEq, exists_eq_left', AV.bool.injEq, List.map_cons, List.map_nil, List.all_cons, List.all_nil, Bool.and_self, Bool.and_true, Bool.true_and, List.append_nil, List.cons_append, List.nil_append, List.length_cons, List.length_nil, List.drop_zero, List.take_zero, List.drop_succ_cons, List.take_succ_cons, List.take_nil, List.drop_nil, List.not_mem_nil, List.mem_cons, List.contains_nil, List.contains_cons, Nat.reduceBEq, Nat.reduceBNe, Nat.reduceBneDiff, Nat.reduceBeqDiff, Bool.or_self, Bool.or_true, Bool.true_or, Bool.false_or, Bool.or_false, Bool.and_false, Bool.false_and, KsS_same, KsS_grow, ag_35, ag_36, by_35, by_36, nf_35, nf_36, pl_35, pl_36, ps_35, ps_36, sz_35, sz_36, ze_35, ze_36, Sp7, SAdd, SSame4, SEqL, D7]
    simp_all
  · exact h.elim

/- the law -/
theorem law_ok {blks : List Blk} {x0 x1 x2 x3 x4 x5 x6 x7 : AV} (s0 : AvSh blks (.int .i64) x0) (s1 : AvSh blks (.int .i64) x1) (s2 : AvSh blks (.int .i64) x2) (s3 : AvSh blks (.int .i64) x3) (s4 : AvSh blks (.int .i64) x4) (s5 : AvSh blks (.int .i64) x5) (s6 : AvSh blks (.int .i64) x6) (s7 : AvSh blks (.int .i64) x7) : AF Try.prog blks.length 7 [.agg [x0, x1, x2, x3], .agg [x4, x5, x6, x7]] blks fun v _ => v = .bool true := by
  obtain ⟨a0, rfl, _⟩ := s0
  obtain ⟨a1, rfl, _⟩ := s1
  obtain ⟨a2, rfl, _⟩ := s2
  obtain ⟨a3, rfl, _⟩ := s3
  obtain ⟨a4, rfl, _⟩ := s4
  obtain ⟨a5, rfl, _⟩ := s5
  obtain ⟨a6, rfl, _⟩ := s6
  obtain ⟨a7, rfl, _⟩ := s7
  exact f7_ok (show SLaw _ _ _ from rfl)

end Go.Proofs.Ytgkmijnhhopacaa
