/- What the functions that FnExactBorderOk reaches compute, said in the abstract logic, and the law's plain part; no conditions. -/
import Derived.Test.YtgkmijnhhopacaaAbT
namespace Go.Proofs.Ytgkmijnhhopacaa
open Go
set_option linter.unusedSimpArgs false
set_option linter.unusedVariables false
set_option maxRecDepth 100000
def D0 : Draws := fun _ => ([], [], [])
def noSp : Spec := fun _ _ _ _ => False
theorem noSp_ok {lo : Nat} : Sound Try.prog lo noSp := fun _ _ _ _ h => h.elim

def inB (a b c : Int) : Bool := decide (b ≤ a) && decide (a ≤ c)
def SIn : List AV → List Blk → (AV → List Blk → Prop) → Prop
  | [.int .i64 a, .int .i64 b, .int .i64 c], η, K => K (.bool (inB a b c)) η
  | _, _, _ => False
def SSame3 : List AV → List Blk → (AV → List Blk → Prop) → Prop
  | [.agg [.int .i64 a, .int .i64 b, .int .i64 c]], η, K => K (.agg [.int .i64 a, .int .i64 b, .int .i64 c]) η
  | _, _, _ => False
def borderB (a b c : Int) : Bool := inB a 0 10000 && inB b 0 1000 && inB c 0 250
def SBorder : List AV → List Blk → (AV → List Blk → Prop) → Prop
  | [.agg [.int .i64 a, .int .i64 b, .int .i64 c]], η, K => K (.bool (borderB a b c)) η
  | _, _, _ => False

/- spec.l01In -/
theorem f24_ok {lo : Nat} {args : List AV} {η : List Blk} {K : AV → List Blk → Prop} (h : SIn args η K) : AF Try.prog lo 24 args η K := by
  unfold SIn at h
  split at h
  · refine AF_run noSp_ok D0 [] [.tmp 6] hm Try.func24 rfl (by decide) Try.ntmps24 rfl (by kernel_rfl) (Nat.le_of_ble_eq_true rfl) ?_
    simp only [st0, AC, thenA, AOpsC, AOpsD, AOpC, AOpF, AOp, AEff, pv, ev, put, upd, dstOk, cv, cvc, binI, setB, Value.oneCell', EndA, resA, resA1, List.mapM_cons, List.mapM_nil, Option.pure_def, Option.bind_eq_bind, noLocV, noLoc1, noLoc, noLocs, plainV, cellsA, newVarA, putCells, condA, lam0, inBlockA, cur, lenA, rowA,
    ↓reduceIte, reduceCtorEq, Nat.reduceLT, Nat.reduceEqDiff, Nat.reduceAdd, Nat.reduceMul, Nat.reduceLeDiff, Nat.reduceSub, Nat.zero_add, Nat.add_zero, Nat.succ_ne_self, Nat.lt_add_one, Nat.zero_lt_succ, true_and, and_true, true_or, or_true, false_or, or_false, and_self, true_implies, forall_const, Bool.false_eq_true, Bool.true_eq_false, false_implies, implies_true, imp_self, ne_eq, not_false_eq_true, not_true_eq_false, false_and, and_false,
    List.getElem?_toArray, List.getElem?_cons_succ, List.getElem?_cons_zero, Option.bind_some, Option.map_some, Bool.not_true, Bool.not_false, List.getD_cons_zero, List.getD_cons_succ, Option.some.injEq, exists_eq_left', AV.bool.injEq, List.map_cons, List.map_nil, List.all_cons, List.all_nil, Bool.and_self, Bool.and_true, Bool.true_and, List.append_nil, List.cons_append, List.nil_append, List.length_cons, List.length_nil, List.drop_zero, List.take_zero, List.drop_succ_cons, List.take_succ_cons, List.take_nil, List.drop_nil, List.not_mem_nil, List.mem_cons, List.contains_nil]
    rename_i a b c
    unfold inB at h
    by_cases h1 : b ≤ a <;> simp_all <;> omega
  · exact h.elim

/- impl.within -/
theorem f25_ok {lo : Nat} {args : List AV} {η : List Blk} {K : AV → List Blk → Prop} (h : SIn args η K) : AF Try.prog lo 25 args η K := by
  unfold SIn at h
  split at h
  · refine AF_run noSp_ok D0 [] [.tmp 6] hm Try.func25 rfl (by decide) Try.ntmps25 rfl (by kernel_rfl) (Nat.le_of_ble_eq_true rfl) ?_
    simp only [st0, AC, thenA, AOpsC, AOpsD, AOpC, AOpF, AOp, AEff, pv, ev, put, upd, dstOk, cv, cvc, binI, setB, Value.oneCell', EndA, resA, resA1, List.mapM_cons, List.mapM_nil, Option.pure_def, Option.bind_eq_bind, noLocV, noLoc1, noLoc, noLocs, plainV, cellsA, newVarA, putCells, condA, lam0, inBlockA, cur, lenA, rowA,
    ↓reduceIte, reduceCtorEq, Nat.reduceLT, Nat.reduceEqDiff, Nat.reduceAdd, Nat.reduceMul, Nat.reduceLeDiff, Nat.reduceSub, Nat.zero_add, Nat.add_zero, Nat.succ_ne_self, Nat.lt_add_one, Nat.zero_lt_succ, true_and, and_true, true_or, or_true, false_or, or_false, and_self, true_implies, forall_const, Bool.false_eq_true, Bool.true_eq_false, false_implies, implies_true, imp_self, ne_eq, not_false_eq_true, not_true_eq_false, false_and, and_false,
    List.getElem?_toArray, List.getElem?_cons_succ, List.getElem?_cons_zero, Option.bind_some, Option.map_some, Bool.not_true, Bool.not_false, List.getD_cons_zero, List.getD_cons_succ, Option.some.injEq, exists_eq_left', AV.bool.injEq, List.map_cons, List.map_nil, List.all_cons, List.all_nil, Bool.and_self, Bool.and_true, Bool.true_and, List.append_nil, List.cons_append, List.nil_append, List.length_cons, List.length_nil, List.drop_zero, List.take_zero, List.drop_succ_cons, List.take_succ_cons, List.take_nil, List.drop_nil, List.not_mem_nil, List.mem_cons, List.contains_nil]
    rename_i a b c
    unfold inB at h
    by_cases h1 : b ≤ a <;> simp_all <;> omega
  · exact h.elim

/- laws.toBorder -/
theorem f12_ok {lo : Nat} {args : List AV} {η : List Blk} {K : AV → List Blk → Prop} (h : SSame3 args η K) : AF Try.prog lo 12 args η K := by
  unfold SSame3 at h
  split at h
  · refine AF_run noSp_ok D0 [] [.cell 2 27] hm Try.func12 rfl (by decide) Try.ntmps12 rfl (by kernel_rfl) (Nat.le_of_ble_eq_true rfl) ?_
    simp only [st0, AC, thenA, AOpsC, AOpsD, AOpC, AOpF, AOp, AEff, pv, ev, put, upd, dstOk, cv, cvc, binI, setB, Value.oneCell', EndA, resA, resA1, List.mapM_cons, List.mapM_nil, Option.pure_def, Option.bind_eq_bind, noLocV, noLoc1, noLoc, noLocs, plainV, cellsA, newVarA, putCells, condA, lam0, inBlockA, cur, lenA, rowA,
    ↓reduceIte, reduceCtorEq, Nat.reduceLT, Nat.reduceEqDiff, Nat.reduceAdd, Nat.reduceMul, Nat.reduceLeDiff, Nat.reduceSub, Nat.zero_add, Nat.add_zero, Nat.succ_ne_self, Nat.lt_add_one, Nat.zero_lt_succ, true_and, and_true, true_or, or_true, false_or, or_false, and_self, true_implies, forall_const, Bool.false_eq_true, Bool.true_eq_false, false_implies, implies_true, imp_self, ne_eq, not_false_eq_true, not_true_eq_false, false_and, and_false,
    List.getElem?_toArray, List.getElem?_cons_succ, List.getElem?_cons_zero, Option.bind_some, Option.map_some, Bool.not_true, Bool.not_false, List.getD_cons_zero, List.getD_cons_succ, Option.some.injEq, exists_eq_left', AV.bool.injEq, List.map_cons, List.map_nil, List.all_cons, List.all_nil, Bool.and_self, Bool.and_true, Bool.true_and, List.append_nil, List.cons_append, List.nil_append, List.length_cons, List.length_nil, List.drop_zero, List.take_zero, List.drop_succ_cons, List.take_succ_cons, List.take_nil, List.drop_nil, List.not_mem_nil, List.mem_cons, List.contains_nil, ag_25, ag_27, ag_3, by_25, by_27, by_3, fi_25_0, fi_25_1, fi_25_2, fi_27_0, fi_27_1, fi_27_2, in_3, nf_25, nf_27, pl_25, pl_27, ps_25, ps_27, sz_25, sz_27, sz_3, ze_25, ze_27, ze_3]
    exact h
  · exact h.elim

/- spec.BorderOk -/
def Sp11 : Spec := fun g args η K => match g with | 24 => SIn args η K | _ => False
theorem Sp11_ok {lo : Nat} : Sound Try.prog lo Sp11 := by
  intro g args η K h
  unfold Sp11 at h
  split at h
  · exact f24_ok h
  · exact h.elim
theorem f11_ok {lo : Nat} {args : List AV} {η : List Blk} {K : AV → List Blk → Prop} (h : SBorder args η K) : AF Try.prog lo 11 args η K := by
  unfold SBorder at h
  split at h
  · refine AF_run Sp11_ok D0 [] [.tmp 2] hm Try.func11 rfl (by decide) Try.ntmps11 rfl (by kernel_rfl) (Nat.le_of_ble_eq_true rfl) ?_
    simp only [st0, AC, thenA, AOpsC, AOpsD, AOpC, AOpF, AOp, AEff, pv, ev, put, upd, dstOk, cv, cvc, binI, setB, Value.oneCell', EndA, resA, resA1, List.mapM_cons, List.mapM_nil, Option.pure_def, Option.bind_eq_bind, noLocV, noLoc1, noLoc, noLocs, plainV, cellsA, newVarA, putCells, condA, lam0, inBlockA, cur, lenA, rowA,
    ↓reduceIte, reduceCtorEq, Nat.reduceLT, Nat.reduceEqDiff, Nat.reduceAdd, Nat.reduceMul, Nat.reduceLeDiff, Nat.reduceSub, Nat.zero_add, Nat.add_zero, Nat.succ_ne_self, Nat.lt_add_one, Nat.zero_lt_succ, true_and, and_true, true_or, or_true, false_or, or_false, and_self, true_implies, forall_const, Bool.false_eq_true, Bool.true_eq_false, false_implies, implies_true, imp_self, ne_eq, not_false_eq_true, not_true_eq_false, false_and, and_false,
    List.getElem?_toArray, List.getElem?_cons_succ, List.getElem?_cons_zero, Option.bind_some, Option.map_some, Bool.not_true, Bool.not_false, List.getD_cons_zero, List.getD_cons_succ, Option.some.injEq, exists_eq_left', AV.bool.injEq, List.map_cons, List.map_nil, List.all_cons, List.all_nil, Bool.and_self, Bool.and_true, Bool.true_and, List.append_nil, List.cons_append, List.nil_append, List.length_cons, List.length_nil, List.drop_zero, List.take_zero, List.drop_succ_cons, List.take_succ_cons, List.take_nil, List.drop_nil, List.not_mem_nil, List.mem_cons, List.contains_nil, ag_27, ag_3, by_27, by_3, fi_27_0, fi_27_1, fi_27_2, in_3, nf_27, pl_27, ps_27, sz_27, sz_3, ze_27, ze_3, Sp11, SIn]
    rename_i a b c
    unfold borderB at h
    cases h1 : inB a 0 10000 <;> cases h2 : inB b 0 1000 <;> simp_all
  · exact h.elim

/- impl.BorderOk -/
def Sp13 : Spec := fun g args η K => match g with | 25 => SIn args η K | _ => False
theorem Sp13_ok {lo : Nat} : Sound Try.prog lo Sp13 := by
  intro g args η K h
  unfold Sp13 at h
  split at h
  · exact f25_ok h
  · exact h.elim
theorem f13_ok {lo : Nat} {args : List AV} {η : List Blk} {K : AV → List Blk → Prop} (h : SBorder args η K) : AF Try.prog lo 13 args η K := by
  unfold SBorder at h
  split at h
  · refine AF_run Sp13_ok D0 [] [.tmp 2] hm Try.func13 rfl (by decide) Try.ntmps13 rfl (by kernel_rfl) (Nat.le_of_ble_eq_true rfl) ?_
    simp only [st0, AC, thenA, AOpsC, AOpsD, AOpC, AOpF, AOp, AEff, pv, ev, put, upd, dstOk, cv, cvc, binI, setB, Value.oneCell', EndA, resA, resA1, List.mapM_cons, List.mapM_nil, Option.pure_def, Option.bind_eq_bind, noLocV, noLoc1, noLoc, noLocs, plainV, cellsA, newVarA, putCells, condA, lam0, inBlockA, cur, lenA, rowA,
    ↓reduceIte, reduceCtorEq, Nat.reduceLT, Nat.reduceEqDiff, Nat.reduceAdd, Nat.reduceMul, Nat.reduceLeDiff, Nat.reduceSub, Nat.zero_add, Nat.add_zero, Nat.succ_ne_self, Nat.lt_add_one, Nat.zero_lt_succ, true_and, and_true, true_or, or_true, false_or, or_false, and_self, true_implies, forall_const, Bool.false_eq_true, Bool.true_eq_false, false_implies, implies_true, imp_self, ne_eq, not_false_eq_true, not_true_eq_false, false_and, and_false,
    List.getElem?_toArray, List.getElem?_cons_succ, List.getElem?_cons_zero, Option.bind_some, Option.map_some, Bool.not_true, Bool.not_false, List.getD_cons_zero, List.getD_cons_succ, Option.some.injEq, exists_eq_left', AV.bool.injEq, List.map_cons, List.map_nil, List.all_cons, List.all_nil, Bool.and_self, Bool.and_true, Bool.true_and, List.append_nil, List.cons_append, List.nil_append, List.length_cons, List.length_nil, List.drop_zero, List.take_zero, List.drop_succ_cons, List.take_succ_cons, List.take_nil, List.drop_nil, List.not_mem_nil, List.mem_cons, List.contains_nil, ag_27, ag_3, by_27, by_3, fi_27_0, fi_27_1, fi_27_2, in_3, nf_27, pl_27, ps_27, sz_27, sz_3, ze_27, ze_3, Sp13, SIn]
    rename_i a b c
    unfold borderB at h
    cases h1 : inB a 0 10000 <;> cases h2 : inB b 0 1000 <;> simp_all
  · exact h.elim

def SLaw : List AV → List Blk → (AV → List Blk → Prop) → Prop
  | [.agg [.int .i64 a, .int .i64 b, .int .i64 c]], η, K => K (.bool true) η
  | _, _, _ => False

/- laws.FnExactBorderOk -/
def Sp4 : Spec := fun g args η K => match g with | 11 => SBorder args η K | 12 => SSame3 args η K | 13 => SBorder args η K | _ => False
theorem Sp4_ok {lo : Nat} : Sound Try.prog lo Sp4 := by
  intro g args η K h
  unfold Sp4 at h
  split at h
  · exact f11_ok h
  · exact f12_ok h
  · exact f13_ok h
  · exact h.elim
theorem f4_ok {lo : Nat} {args : List AV} {η : List Blk} {K : AV → List Blk → Prop} (h : SLaw args η K) : AF Try.prog lo 4 args η K := by
  unfold SLaw at h
  split at h
  · refine AF_run Sp4_ok D0 [] [.tmp 2] hm Try.func4 rfl (by decide) Try.ntmps4 rfl (by kernel_rfl) (Nat.le_of_ble_eq_true rfl) ?_
    simp only [st0, AC, thenA, AOpsC, AOpsD, AOpC, AOpF, AOp, AEff, pv, ev, put, upd, dstOk, cv, cvc, binI, setB, Value.oneCell', EndA, resA, resA1, List.mapM_cons, List.mapM_nil, Option.pure_def, Option.bind_eq_bind, noLocV, noLoc1, noLoc, noLocs, plainV, cellsA, newVarA, putCells, condA, lam0, inBlockA, cur, lenA, rowA,
    ↓reduceIte, reduceCtorEq, Nat.reduceLT, Nat.reduceEqDiff, Nat.reduceAdd, Nat.reduceMul, Nat.reduceLeDiff, Nat.reduceSub, Nat.zero_add, Nat.add_zero, Nat.succ_ne_self, Nat.lt_add_one, Nat.zero_lt_succ, true_and, and_true, true_or, or_true, false_or, or_false, and_self, true_implies, forall_const, Bool.false_eq_true, Bool.true_eq_false, false_implies, implies_true, imp_self, ne_eq, not_false_eq_true, not_true_eq_false, false_and, and_false,
    List.getElem?_toArray, List.getElem?_cons_succ, List.getElem?_cons_zero, Option.bind_some, Option.map_some, Bool.not_true, Bool.not_false, List.getD_cons_zero, List.getD_cons_succ, Option.some.injEq, exists_eq_left', AV.bool.injEq, List.map_cons, List.map_nil, List.all_cons, List.all_nil, Bool.and_self, Bool.and_true, Bool.true_and, List.append_nil, List.cons_append, List.nil_append, List.length_cons, List.length_nil, List.drop_zero, List.take_zero, List.drop_succ_cons, List.take_succ_cons, List.take_nil, List.drop_nil, List.not_mem_nil, List.mem_cons, List.contains_nil, ag_25, bo_4, by_25, nf_25, pl_25, ps_25, sz_25, ze_25, Sp4, SBorder, SSame3]
    simp_all
  · exact h.elim

/- the law -/
theorem law_ok {blks : List Blk} {x0 x1 x2 : AV} (s0 : AvSh blks (.int .i64) x0) (s1 : AvSh blks (.int .i64) x1) (s2 : AvSh blks (.int .i64) x2) : AF Try.prog blks.length 4 [.agg [x0, x1, x2]] blks fun v _ => v = .bool true := by
  obtain ⟨a, rfl, _⟩ := s0
  obtain ⟨b, rfl, _⟩ := s1
  obtain ⟨c, rfl, _⟩ := s2
  exact f4_ok (show SLaw _ _ _ from rfl)

end Go.Proofs.Ytgkmijnhhopacaa
