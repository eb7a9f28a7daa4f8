/- What functions of the program compute, said in the abstract logic; no conditions. -/
import Derived.Test.YtdcecoddecghdaaGState

namespace Go.Proofs.Ytdcecoddecghdaa
open Go
set_option linter.unusedSimpArgs false
set_option linter.unusedVariables false
set_option maxRecDepth 100000
set_option maxHeartbeats 8000000

def SHasI : List AV → List Blk → (AV → List Blk → Prop) → Prop
  | [.agg [.int .i64 r, v], .int .i64 i], η, K => ok3 77 η v ∧ K (.bool (inB i 0 ((dec3 77 η v).length - 1))) η
  | _, _, _ => False
def surfI (l : List Id3) (ms bs : List Int) (i : Nat) : Int := bs.getD (l.getD i (0, 0, 0)).1.toNat 0 + ms.getD i 0 * 2 ^ (l.getD i (0, 0, 0)).2.1.toNat
def SSurf : List AV → List Blk → (AV → List Blk → Prop) → Prop
  | [.agg [.int .i64 r, v, a, b, c], .int .i64 i], η, K => ((ok3 77 η v ∧ okI η a ∧ okI η b ∧ okI η c) ∧ okB r (dec3 77 η v) (decI η a) (decI η b) (decI η c) = true ∧ 0 ≤ i ∧ i < (dec3 77 η v).length) ∧ K (.int .i64 (surfI (dec3 77 η v) (decI η a) (decI η c) i.toNat)) η
  | _, _, _ => False
def atB (r : Int) (l : List Id3) (ms ts bs : List Int) (i : Int) : Bool := okB r l ms ts bs && inB i 0 (l.length - 1)
def surfOf (r : Int) (l : List Id3) (ms ts bs : List Int) (i : Int) : Int := if atB r l ms ts bs i = true then surfI l ms bs i.toNat else 0
def shareAt (r : Int) (l : List Id3) (ms ts bs : List Int) (i : Int) : Int := if atB r l ms ts bs i = true ∧ ¬ ms.getD i.toNat 0 = 0 then (1000 * ts.getD i.toNat 0).tdiv (ms.getD i.toNat 0) else 0

def SSurfOf : List AV → List Blk → (AV → List Blk → Prop) → Prop
  | [.agg [.int .i64 r, v, a, b, c], .int .i64 i], η, K => (ok3 77 η v ∧ okI η a ∧ okI η b ∧ okI η c) ∧ K (.int .i64 (surfOf r (dec3 77 η v) (decI η a) (decI η b) (decI η c) i)) η
  | _, _, _ => False

def SShareAt : List AV → List Blk → (AV → List Blk → Prop) → Prop
  | [.agg [.int .i64 r, v, a, b, c], .int .i64 i], η, K => (ok3 77 η v ∧ okI η a ∧ okI η b ∧ okI η c) ∧ K (.int .i64 (shareAt r (dec3 77 η v) (decI η a) (decI η b) (decI η c) i)) η
  | _, _, _ => False

/- (impl.Mesh).has -/
def Sp90 (lo : Nat) : Spec := fun g args η K => match g with | 58 => SIn args η K | _ => False
theorem Sp90_ok {lo : Nat} : Sound Try.prog lo (Sp90 lo) := by
  intro g args η K h
  unfold Sp90 at h
  split at h
  · exact f58_ok h
  · exact h.elim
theorem f90_ok {lo : Nat} {args : List AV} {η : List Blk} {K : AV → List Blk → Prop} (h : SHasI args η K) : AF Try.prog lo 90 args η K := by
  unfold SHasI at h
  split at h
  · obtain ⟨⟨l, hr, hl⟩, hK⟩ := h
    rw [hr.dec3] at hK
    obtain ⟨b, ver, rfl, hb⟩ := hr
    refine AF_run Sp90_ok D0 [] [.tmp 4] hm Try.func90 rfl (by decide) Try.ntmps90 rfl (by kernel_rfl) (Nat.le_of_ble_eq_true rfl) ?_
    intro hlo
    repeat' (first | with_reducible refine iteI (fun _ => ?_) (fun _ => ?_) | ((first | unfold AOpsC | unfold AOpsD | skip); simp (maxSteps := 1000000) (disch := (first | omega | assumption | (simp only [List.length_append, List.length_cons, List.length_nil, List.length_set]; omega))) only [st0, AC, ↓skipC, ↓exitC, ↓retC, ↓seqC, ↓blockC, ↓condC, ↓regC, ↓drawC, thenA, ↓drawStep, ↓AOpC, ↓AOpF, ↓AOpE, ↓AEff, ↓contE_at, ↓contC_at, ↓keepC_at, pv, ev, put, upd, dstOk, cv, cvc, binI, setB, Value.oneCell', EndA, resA, resA1, List.mapM_cons, List.mapM_nil, Option.pure_def, Option.bind_eq_bind, noLocV, noLoc1, noLoc, noLocs, plainV, cellsA, newVarA, putCells, condA, lam0, inBlockA, cur, lenA, rowA, avoidsB, avoidB, clearB, Array.toList_append, Op.operands, Call.operands, newSlot,
    ↓reduceIte, reduceCtorEq, Nat.reduceLT, Nat.reduceEqDiff, Nat.reduceAdd, Nat.reduceMul, Nat.reduceLeDiff, Nat.reduceSub, Nat.zero_add, Nat.add_zero, Nat.succ_ne_self, Nat.lt_add_one, Nat.zero_lt_succ, true_and, and_true, true_or, or_true, false_or, or_false, and_self, true_implies, forall_const, Bool.false_eq_true, Bool.true_eq_false, false_implies, implies_true, imp_self, ne_eq, not_false_eq_true, not_true_eq_false, false_and, and_false,
    List.getElem?_toArray, List.getElem?_cons_succ, List.getElem?_cons_zero, Option.bind_some, Option.map_some, Bool.not_true, Bool.not_false, List.getD_cons_zero, List.getD_cons_succ, Option.some.injEq, exists_eq_left', AV.bool.injEq, List.map_cons, List.map_nil, List.all_cons, List.all_nil, Bool.and_self, Bool.and_true, Bool.true_and, List.append_nil, List.cons_append, List.nil_append, List.length_cons, List.length_nil, List.drop_zero, List.take_zero, List.drop_succ_cons, List.take_succ_cons, List.take_nil, List.drop_nil, List.not_mem_nil, List.mem_cons, List.contains_nil, List.contains_cons, Nat.reduceBEq, Nat.reduceBNe, Nat.reduceBneDiff, Nat.reduceBeqDiff, Bool.or_self, Bool.or_true, Bool.true_or, Bool.false_or, Bool.or_false, Bool.and_false, Bool.false_and, KsS_same, KsS_grow, ag_34, ag_36, ag_77, by_34, by_36, by_77, el_34, fi_36_1, nf_36, nf_77, pl_36, pl_77, ps_36, ps_77, sz_34, sz_36, sz_77, ze_34, ze_36, ze_77, Sp90, SIn, skipV, KsS_ext, rep1, rep2, rep3, rep4, rep5, List.flatten_cons, List.flatten_nil, ↓map_parts, partsA, isPtr, fillA, List.size_toArray, ltT, ltF, leT, leF, ltTn, ltFn, leTn, leFn, eqTi, eqFi, wrapId, toNat1, intGet, boolGet, memD, app_get, app_last, app_lst, app_set, app_setL, app_setF, set_ne, set_eq, gt_iff_lt, ge_iff_le, decide_eq_true_eq, len2, len3, get20, get21, drop2, put2, get30, get31, get32, drop3, put3, putI, pairEta, bneTi, bneFi, beqTi, beqFi, bne_eq_false_iff_eq, beq_eq_false_iff_ne, beq_iff_eq, bne_iff_ne, Int.toNat_natCast, Nat.mul_one, List.length_map, Bool.not_eq_true, Bool.not_eq_false, Bool.decide_eq_true, decide_true, decide_false, Bool.not_eq_true', Bool.not_eq_false', decide_eq_false_iff_not, eq_self, Decidable.not_not, hb]))
    exact hK
  · exact h.elim

/- spec.l09Surface -/
def D91 : Draws := fun id => match id with | 2 => ([0, 1, 0, 4, 15, 31, 0, 64, 0, 448, 960, 0, 2048, 6144, 16320, 32767, 65535], [], [], [0, 1, 2, 3, 4, 5, 6, 7, 8, 9, 10, 11, 12, 13, 14, 15, 16]) | _ => ([], [], [], [])
theorem f91_ok {lo : Nat} {args : List AV} {η : List Blk} {K : AV → List Blk → Prop} (h : SSurf args η K) : AF Try.prog lo 91 args η K := by
  unfold SSurf at h
  split at h
  · obtain ⟨⟨⟨⟨l, hr, hl⟩, ⟨ms, ha, hla⟩, ⟨ts, hb, hlb⟩, ⟨bs, hc, hlc⟩⟩, e1, i0, i1⟩, hK⟩ := h
    rename_i r _ _ _ _ i
    rw [hr.dec3] at i1 e1
    rw [ha.dec, hb.dec, hc.dec] at e1
    have d1 := hr.dec3
    have d2 := ha.dec
    have d3 := hb.dec
    have d4 := hc.dec
    have o1 : ok3 77 _ _ := ⟨l, hr, hl⟩
    have o2 : okI _ _ := ⟨ms, ha, hla⟩
    have o3 : okI _ _ := ⟨ts, hb, hlb⟩
    have o4 : okI _ _ := ⟨bs, hc, hlc⟩
    simp only [d1, d2, d3, d4] at hK
    have hr' := hr
    have ha' := ha
    have hb' := hb
    have hc' := hc
    obtain ⟨b0, v0, rfl, hb0⟩ := hr'
    obtain ⟨b1, v1, rfl, hb1⟩ := ha'
    obtain ⟨b2, v2, rfl, hb2⟩ := hb'
    obtain ⟨b3, v3, rfl, hb3⟩ := hc'
    obtain ⟨j, rfl⟩ : ∃ j : Nat, i = j := ⟨i.toNat, by omega⟩
    rw [Int.toNat_natCast] at hK
    obtain ⟨k1, k2, k3, k4, k5, k6, k7, k8⟩ := okT e1
    have j1 : j < l.length := by omega
    have m1 := cells_at k7 (i := j) (by omega)
    have x1 := mesh_root k1 j1
    have x2 := levs_at (mesh_levs k1) j1
    have x3 := bed_at k6 (i := (l.getD j (0, 0, 0)).1.toNat) (by omega)
    unfold surfI at hK
    refine AF_run noSp_ok D91 [] [.tmp 4] hm Try.func91 rfl (by decide) Try.ntmps91 rfl (by kernel_rfl) (Nat.le_of_ble_eq_true rfl) ?_
    intro hlo
    rcases lv5 x2 with x4 | x4 | x4 | x4 | x4
    all_goals
      rw [x4] at hK
      simp only [Int.reduceToNat, Nat.min_eq_left, Int.reducePow, IntKind.bits, Int.reduceMul, Int.reduceSub, Int.reduceAdd, Int.reduceFDiv, wrapU, Int.one_mul] at hK
      repeat' (first | with_reducible refine iteI (fun _ => ?_) (fun _ => ?_) | ((first | unfold AOpsC | unfold AOpsD | skip); simp (maxSteps := 1000000) (disch := (first | omega | assumption | (simp only [List.length_append, List.length_cons, List.length_nil, List.length_set]; omega))) only [st0, AC, ↓skipC, ↓exitC, ↓retC, ↓seqC, ↓blockC, ↓condC, ↓regC, ↓drawC, thenA, ↓drawStep, ↓AOpC, ↓AOpF, ↓AOpE, ↓AEff, ↓contE_at, ↓contC_at, ↓keepC_at, pv, ev, put, upd, dstOk, cv, cvc, binI, setB, Value.oneCell', EndA, resA, resA1, List.mapM_cons, List.mapM_nil, Option.pure_def, Option.bind_eq_bind, noLocV, noLoc1, noLoc, noLocs, plainV, cellsA, newVarA, putCells, condA, lam0, inBlockA, cur, lenA, rowA, avoidsB, avoidB, clearB, Array.toList_append, Op.operands, Call.operands, newSlot,
    ↓reduceIte, reduceCtorEq, Nat.reduceLT, Nat.reduceEqDiff, Nat.reduceAdd, Nat.reduceMul, Nat.reduceLeDiff, Nat.reduceSub, Nat.zero_add, Nat.add_zero, Nat.succ_ne_self, Nat.lt_add_one, Nat.zero_lt_succ, true_and, and_true, true_or, or_true, false_or, or_false, and_self, true_implies, forall_const, Bool.false_eq_true, Bool.true_eq_false, false_implies, implies_true, imp_self, ne_eq, not_false_eq_true, not_true_eq_false, false_and, and_false,
    List.getElem?_toArray, List.getElem?_cons_succ, List.getElem?_cons_zero, Option.bind_some, Option.map_some, Bool.not_true, Bool.not_false, List.getD_cons_zero, List.getD_cons_succ, Option.some.injEq, exists_eq_left', AV.bool.injEq, List.map_cons, List.map_nil, List.all_cons, List.all_nil, Bool.and_self, Bool.and_true, Bool.true_and, List.append_nil, List.cons_append, List.nil_append, List.length_cons, List.length_nil, List.drop_zero, List.take_zero, List.drop_succ_cons, List.take_succ_cons, List.take_nil, List.drop_nil, List.not_mem_nil, List.mem_cons, List.contains_nil, List.contains_cons, Nat.reduceBEq, Nat.reduceBNe, Nat.reduceBneDiff, Nat.reduceBeqDiff, Bool.or_self, Bool.or_true, Bool.true_or, Bool.false_or, Bool.or_false, Bool.and_false, Bool.false_and, KsS_same, KsS_grow, ag_24, ag_3, ag_34, ag_60, ag_77, by_24, by_3, by_34, by_60, by_77, el_24, el_34, fi_36_1, fi_60_0, fi_60_1, fi_60_3, fi_77_0, fi_77_1, in_102, in_3, nf_60, nf_77, pl_60, pl_77, ps_60, ps_77, sz_24, sz_3, sz_34, sz_60, sz_77, ze_24, ze_3, ze_34, ze_60, ze_77, D91, skipV, KsS_ext, rep1, rep2, rep3, rep4, rep5, List.flatten_cons, List.flatten_nil, ↓map_parts, partsA, isPtr, fillA, List.size_toArray, ltT, ltF, leT, leF, ltTn, ltFn, leTn, leFn, eqTi, eqFi, wrapId, toNat1, intGet, boolGet, memD, app_get, app_last, app_lst, app_set, app_setL, app_setF, set_ne, set_eq, gt_iff_lt, ge_iff_le, decide_eq_true_eq, len2, len3, get20, get21, drop2, put2, get30, get31, get32, drop3, put3, putI, pairEta, bneTi, bneFi, beqTi, beqFi, bne_eq_false_iff_eq, beq_eq_false_iff_ne, beq_iff_eq, bne_iff_ne, Int.toNat_natCast, Nat.mul_one, List.length_map, Bool.not_eq_true, Bool.not_eq_false, Bool.decide_eq_true, decide_true, decide_false, Bool.not_eq_true', Bool.not_eq_false', decide_eq_false_iff_not, eq_self, Decidable.not_not, hb0, hb1, hb2, hb3, d1, d2, d3, d4, o1, o2, o3, o4, x4, Int.reduceToNat, Nat.min_eq_left, Int.reducePow, IntKind.bits, Int.reduceMul, Int.reduceSub, Int.reduceAdd, Int.reduceFDiv, wrapU, Int.one_mul]))
      exact hK
  · exact h.elim

/- (impl.State).surface -/
def D92 : Draws := fun id => match id with | 2 => ([0, 1, 0, 4, 15, 31, 0, 64, 0, 448, 960, 0, 2048, 8128, 16383, 32767], [], [], [0, 1, 2, 3, 4, 5, 6, 7, 8, 9, 10, 11, 12, 13, 14, 15]) | _ => ([], [], [], [])
theorem f92_ok {lo : Nat} {args : List AV} {η : List Blk} {K : AV → List Blk → Prop} (h : SSurf args η K) : AF Try.prog lo 92 args η K := by
  unfold SSurf at h
  split at h
  · obtain ⟨⟨⟨⟨l, hr, hl⟩, ⟨ms, ha, hla⟩, ⟨ts, hb, hlb⟩, ⟨bs, hc, hlc⟩⟩, e1, i0, i1⟩, hK⟩ := h
    rename_i r _ _ _ _ i
    rw [hr.dec3] at i1 e1
    rw [ha.dec, hb.dec, hc.dec] at e1
    have d1 := hr.dec3
    have d2 := ha.dec
    have d3 := hb.dec
    have d4 := hc.dec
    have o1 : ok3 77 _ _ := ⟨l, hr, hl⟩
    have o2 : okI _ _ := ⟨ms, ha, hla⟩
    have o3 : okI _ _ := ⟨ts, hb, hlb⟩
    have o4 : okI _ _ := ⟨bs, hc, hlc⟩
    simp only [d1, d2, d3, d4] at hK
    have hr' := hr
    have ha' := ha
    have hb' := hb
    have hc' := hc
    obtain ⟨b0, v0, rfl, hb0⟩ := hr'
    obtain ⟨b1, v1, rfl, hb1⟩ := ha'
    obtain ⟨b2, v2, rfl, hb2⟩ := hb'
    obtain ⟨b3, v3, rfl, hb3⟩ := hc'
    obtain ⟨j, rfl⟩ : ∃ j : Nat, i = j := ⟨i.toNat, by omega⟩
    rw [Int.toNat_natCast] at hK
    obtain ⟨k1, k2, k3, k4, k5, k6, k7, k8⟩ := okT e1
    have j1 : j < l.length := by omega
    have m1 := cells_at k7 (i := j) (by omega)
    have x1 := mesh_root k1 j1
    have x2 := levs_at (mesh_levs k1) j1
    have x3 := bed_at k6 (i := (l.getD j (0, 0, 0)).1.toNat) (by omega)
    unfold surfI at hK
    refine AF_run noSp_ok D92 [] [.tmp 4] hm Try.func92 rfl (by decide) Try.ntmps92 rfl (by kernel_rfl) (Nat.le_of_ble_eq_true rfl) ?_
    intro hlo
    rcases lv5 x2 with x4 | x4 | x4 | x4 | x4
    all_goals
      rw [x4] at hK
      simp only [Int.reduceToNat, Nat.min_eq_left, Int.reducePow, IntKind.bits, Int.reduceMul, Int.reduceSub, Int.reduceAdd, Int.reduceFDiv, wrapU, Int.one_mul] at hK
      repeat' (first | with_reducible refine iteI (fun _ => ?_) (fun _ => ?_) | ((first | unfold AOpsC | unfold AOpsD | skip); simp (maxSteps := 1000000) (disch := (first | omega | assumption | (simp only [List.length_append, List.length_cons, List.length_nil, List.length_set]; omega))) only [st0, AC, ↓skipC, ↓exitC, ↓retC, ↓seqC, ↓blockC, ↓condC, ↓regC, ↓drawC, thenA, ↓drawStep, ↓AOpC, ↓AOpF, ↓AOpE, ↓AEff, ↓contE_at, ↓contC_at, ↓keepC_at, pv, ev, put, upd, dstOk, cv, cvc, binI, setB, Value.oneCell', EndA, resA, resA1, List.mapM_cons, List.mapM_nil, Option.pure_def, Option.bind_eq_bind, noLocV, noLoc1, noLoc, noLocs, plainV, cellsA, newVarA, putCells, condA, lam0, inBlockA, cur, lenA, rowA, avoidsB, avoidB, clearB, Array.toList_append, Op.operands, Call.operands, newSlot,
    ↓reduceIte, reduceCtorEq, Nat.reduceLT, Nat.reduceEqDiff, Nat.reduceAdd, Nat.reduceMul, Nat.reduceLeDiff, Nat.reduceSub, Nat.zero_add, Nat.add_zero, Nat.succ_ne_self, Nat.lt_add_one, Nat.zero_lt_succ, true_and, and_true, true_or, or_true, false_or, or_false, and_self, true_implies, forall_const, Bool.false_eq_true, Bool.true_eq_false, false_implies, implies_true, imp_self, ne_eq, not_false_eq_true, not_true_eq_false, false_and, and_false,
    List.getElem?_toArray, List.getElem?_cons_succ, List.getElem?_cons_zero, Option.bind_some, Option.map_some, Bool.not_true, Bool.not_false, List.getD_cons_zero, List.getD_cons_succ, Option.some.injEq, exists_eq_left', AV.bool.injEq, List.map_cons, List.map_nil, List.all_cons, List.all_nil, Bool.and_self, Bool.and_true, Bool.true_and, List.append_nil, List.cons_append, List.nil_append, List.length_cons, List.length_nil, List.drop_zero, List.take_zero, List.drop_succ_cons, List.take_succ_cons, List.take_nil, List.drop_nil, List.not_mem_nil, List.mem_cons, List.contains_nil, List.contains_cons, Nat.reduceBEq, Nat.reduceBNe, Nat.reduceBneDiff, Nat.reduceBeqDiff, Bool.or_self, Bool.or_true, Bool.true_or, Bool.false_or, Bool.or_false, Bool.and_false, Bool.false_and, KsS_same, KsS_grow, ag_24, ag_3, ag_34, ag_60, ag_77, by_24, by_3, by_34, by_60, by_77, el_24, el_34, fi_36_1, fi_60_0, fi_60_1, fi_60_3, fi_77_0, fi_77_1, in_3, nf_60, nf_77, pl_60, pl_77, ps_60, ps_77, sz_24, sz_3, sz_34, sz_60, sz_77, ze_24, ze_3, ze_34, ze_60, ze_77, D92, skipV, KsS_ext, rep1, rep2, rep3, rep4, rep5, List.flatten_cons, List.flatten_nil, ↓map_parts, partsA, isPtr, fillA, List.size_toArray, ltT, ltF, leT, leF, ltTn, ltFn, leTn, leFn, eqTi, eqFi, wrapId, toNat1, intGet, boolGet, memD, app_get, app_last, app_lst, app_set, app_setL, app_setF, set_ne, set_eq, gt_iff_lt, ge_iff_le, decide_eq_true_eq, len2, len3, get20, get21, drop2, put2, get30, get31, get32, drop3, put3, putI, pairEta, bneTi, bneFi, beqTi, beqFi, bne_eq_false_iff_eq, beq_eq_false_iff_ne, beq_iff_eq, bne_iff_ne, Int.toNat_natCast, Nat.mul_one, List.length_map, Bool.not_eq_true, Bool.not_eq_false, Bool.decide_eq_true, decide_true, decide_false, Bool.not_eq_true', Bool.not_eq_false', decide_eq_false_iff_not, eq_self, Decidable.not_not, hb0, hb1, hb2, hb3, d1, d2, d3, d4, o1, o2, o3, o4, x4, Int.reduceToNat, Nat.min_eq_left, Int.reducePow, IntKind.bits, Int.reduceMul, Int.reduceSub, Int.reduceAdd, Int.reduceFDiv, wrapU, Int.one_mul]))
      exact hK
  · exact h.elim

/- spec.SurfaceOf -/
def Sp50 (lo : Nat) : Spec := fun g args η K => match g with | 60 => SIn args η K | 87 => SOk args η K | 91 => SSurf args η K | _ => False
theorem Sp50_ok {lo : Nat} : Sound Try.prog lo (Sp50 lo) := by
  intro g args η K h
  unfold Sp50 at h
  split at h
  · exact f60_ok h
  · exact f87_ok h
  · exact f91_ok h
  · exact h.elim
theorem f50_ok {lo : Nat} {args : List AV} {η : List Blk} {K : AV → List Blk → Prop} (h : SSurfOf args η K) : AF Try.prog lo 50 args η K := by
  unfold SSurfOf at h
  split at h
  · obtain ⟨⟨⟨l, hr, hl⟩, ⟨ms, ha, hla⟩, ⟨ts, hb, hlb⟩, ⟨bs, hc, hlc⟩⟩, hK⟩ := h
    rename_i r _ _ _ _ i
    have d1 := hr.dec3
    have d2 := ha.dec
    have d3 := hb.dec
    have d4 := hc.dec
    have o1 : ok3 77 _ _ := ⟨l, hr, hl⟩
    have o2 : okI _ _ := ⟨ms, ha, hla⟩
    have o3 : okI _ _ := ⟨ts, hb, hlb⟩
    have o4 : okI _ _ := ⟨bs, hc, hlc⟩
    simp only [d1, d2, d3, d4] at hK
    have hr' := hr
    have ha' := ha
    have hb' := hb
    have hc' := hc
    obtain ⟨b0, v0, rfl, hb0⟩ := hr'
    obtain ⟨b1, v1, rfl, hb1⟩ := ha'
    obtain ⟨b2, v2, rfl, hb2⟩ := hb'
    obtain ⟨b3, v3, rfl, hb3⟩ := hc'
    refine AF_run Sp50_ok D0 [] [.tmp 4] hm Try.func50 rfl (by decide) Try.ntmps50 rfl (by kernel_rfl) (Nat.le_of_ble_eq_true rfl) ?_
    intro hlo
    cases e1 : okB r l ms ts bs
    · repeat' (first | with_reducible refine iteI (fun _ => ?_) (fun _ => ?_) | ((first | unfold AOpsC | unfold AOpsD | skip); simp (maxSteps := 1000000) (disch := (first | omega | assumption | (simp only [List.length_append, List.length_cons, List.length_nil, List.length_set]; omega))) only [st0, AC, ↓skipC, ↓exitC, ↓retC, ↓seqC, ↓blockC, ↓condC, ↓regC, ↓drawC, thenA, ↓drawStep, ↓AOpC, ↓AOpF, ↓AOpE, ↓AEff, ↓contE_at, ↓contC_at, ↓keepC_at, pv, ev, put, upd, dstOk, cv, cvc, binI, setB, Value.oneCell', EndA, resA, resA1, List.mapM_cons, List.mapM_nil, Option.pure_def, Option.bind_eq_bind, noLocV, noLoc1, noLoc, noLocs, plainV, cellsA, newVarA, putCells, condA, lam0, inBlockA, cur, lenA, rowA, avoidsB, avoidB, clearB, Array.toList_append, Op.operands, Call.operands, newSlot,
    ↓reduceIte, reduceCtorEq, Nat.reduceLT, Nat.reduceEqDiff, Nat.reduceAdd, Nat.reduceMul, Nat.reduceLeDiff, Nat.reduceSub, Nat.zero_add, Nat.add_zero, Nat.succ_ne_self, Nat.lt_add_one, Nat.zero_lt_succ, true_and, and_true, true_or, or_true, false_or, or_false, and_self, true_implies, forall_const, Bool.false_eq_true, Bool.true_eq_false, false_implies, implies_true, imp_self, ne_eq, not_false_eq_true, not_true_eq_false, false_and, and_false,
    List.getElem?_toArray, List.getElem?_cons_succ, List.getElem?_cons_zero, Option.bind_some, Option.map_some, Bool.not_true, Bool.not_false, List.getD_cons_zero, List.getD_cons_succ, Option.some.injEq, exists_eq_left', AV.bool.injEq, List.map_cons, List.map_nil, List.all_cons, List.all_nil, Bool.and_self, Bool.and_true, Bool.true_and, List.append_nil, List.cons_append, List.nil_append, List.length_cons, List.length_nil, List.drop_zero, List.take_zero, List.drop_succ_cons, List.take_succ_cons, List.take_nil, List.drop_nil, List.not_mem_nil, List.mem_cons, List.contains_nil, List.contains_cons, Nat.reduceBEq, Nat.reduceBNe, Nat.reduceBneDiff, Nat.reduceBeqDiff, Bool.or_self, Bool.or_true, Bool.true_or, Bool.false_or, Bool.or_false, Bool.and_false, Bool.false_and, KsS_same, KsS_grow, ag_24, ag_3, ag_60, by_24, by_3, by_60, el_24, fi_60_1, in_3, nf_60, pl_60, ps_60, sz_24, sz_3, sz_60, ze_24, ze_3, ze_60, Sp50, SIn, SOk, SSurf, skipV, KsS_ext, rep1, rep2, rep3, rep4, rep5, List.flatten_cons, List.flatten_nil, ↓map_parts, partsA, isPtr, fillA, List.size_toArray, ltT, ltF, leT, leF, ltTn, ltFn, leTn, leFn, eqTi, eqFi, wrapId, toNat1, intGet, boolGet, memD, app_get, app_last, app_lst, app_set, app_setL, app_setF, set_ne, set_eq, gt_iff_lt, ge_iff_le, decide_eq_true_eq, len2, len3, get20, get21, drop2, put2, get30, get31, get32, drop3, put3, putI, pairEta, bneTi, bneFi, beqTi, beqFi, bne_eq_false_iff_eq, beq_eq_false_iff_ne, beq_iff_eq, bne_iff_ne, Int.toNat_natCast, Nat.mul_one, List.length_map, Bool.not_eq_true, Bool.not_eq_false, Bool.decide_eq_true, decide_true, decide_false, Bool.not_eq_true', Bool.not_eq_false', decide_eq_false_iff_not, eq_self, Decidable.not_not, hb0, hb1, hb2, hb3, d1, d2, d3, d4, o1, o2, o3, o4, e1]))
      exact KI hK (by simp [surfOf, atB, e1])
    obtain ⟨k1, k2, k3, k4, k5, k6, k7, k8⟩ := okT e1
    by_cases e2 : 0 ≤ i ∧ i < l.length
    · have e3 : inB i 0 ((l.length : Int) - 1) = true := by simp [inB]; omega
      have e3' : inB i 0 ((ms.length : Int) - 1) = true := by rw [k3]; exact e3
      repeat' (first | with_reducible refine iteI (fun _ => ?_) (fun _ => ?_) | ((first | unfold AOpsC | unfold AOpsD | skip); simp (maxSteps := 1000000) (disch := (first | omega | assumption | (simp only [List.length_append, List.length_cons, List.length_nil, List.length_set]; omega))) only [st0, AC, ↓skipC, ↓exitC, ↓retC, ↓seqC, ↓blockC, ↓condC, ↓regC, ↓drawC, thenA, ↓drawStep, ↓AOpC, ↓AOpF, ↓AOpE, ↓AEff, ↓contE_at, ↓contC_at, ↓keepC_at, pv, ev, put, upd, dstOk, cv, cvc, binI, setB, Value.oneCell', EndA, resA, resA1, List.mapM_cons, List.mapM_nil, Option.pure_def, Option.bind_eq_bind, noLocV, noLoc1, noLoc, noLocs, plainV, cellsA, newVarA, putCells, condA, lam0, inBlockA, cur, lenA, rowA, avoidsB, avoidB, clearB, Array.toList_append, Op.operands, Call.operands, newSlot,
    ↓reduceIte, reduceCtorEq, Nat.reduceLT, Nat.reduceEqDiff, Nat.reduceAdd, Nat.reduceMul, Nat.reduceLeDiff, Nat.reduceSub, Nat.zero_add, Nat.add_zero, Nat.succ_ne_self, Nat.lt_add_one, Nat.zero_lt_succ, true_and, and_true, true_or, or_true, false_or, or_false, and_self, true_implies, forall_const, Bool.false_eq_true, Bool.true_eq_false, false_implies, implies_true, imp_self, ne_eq, not_false_eq_true, not_true_eq_false, false_and, and_false,
    List.getElem?_toArray, List.getElem?_cons_succ, List.getElem?_cons_zero, Option.bind_some, Option.map_some, Bool.not_true, Bool.not_false, List.getD_cons_zero, List.getD_cons_succ, Option.some.injEq, exists_eq_left', AV.bool.injEq, List.map_cons, List.map_nil, List.all_cons, List.all_nil, Bool.and_self, Bool.and_true, Bool.true_and, List.append_nil, List.cons_append, List.nil_append, List.length_cons, List.length_nil, List.drop_zero, List.take_zero, List.drop_succ_cons, List.take_succ_cons, List.take_nil, List.drop_nil, List.not_mem_nil, List.mem_cons, List.contains_nil, List.contains_cons, Nat.reduceBEq, Nat.reduceBNe, Nat.reduceBneDiff, Nat.reduceBeqDiff, Bool.or_self, Bool.or_true, Bool.true_or, Bool.false_or, Bool.or_false, Bool.and_false, Bool.false_and, KsS_same, KsS_grow, ag_24, ag_3, ag_60, by_24, by_3, by_60, el_24, fi_60_1, in_3, nf_60, pl_60, ps_60, sz_24, sz_3, sz_60, ze_24, ze_3, ze_60, Sp50, SIn, SOk, SSurf, skipV, KsS_ext, rep1, rep2, rep3, rep4, rep5, List.flatten_cons, List.flatten_nil, ↓map_parts, partsA, isPtr, fillA, List.size_toArray, ltT, ltF, leT, leF, ltTn, ltFn, leTn, leFn, eqTi, eqFi, wrapId, toNat1, intGet, boolGet, memD, app_get, app_last, app_lst, app_set, app_setL, app_setF, set_ne, set_eq, gt_iff_lt, ge_iff_le, decide_eq_true_eq, len2, len3, get20, get21, drop2, put2, get30, get31, get32, drop3, put3, putI, pairEta, bneTi, bneFi, beqTi, beqFi, bne_eq_false_iff_eq, beq_eq_false_iff_ne, beq_iff_eq, bne_iff_ne, Int.toNat_natCast, Nat.mul_one, List.length_map, Bool.not_eq_true, Bool.not_eq_false, Bool.decide_eq_true, decide_true, decide_false, Bool.not_eq_true', Bool.not_eq_false', decide_eq_false_iff_not, eq_self, Decidable.not_not, hb0, hb1, hb2, hb3, d1, d2, d3, d4, o1, o2, o3, o4, e1, e3, e3']))
      exact KI hK (by simp [surfOf, atB, e1, e3])
    · have e3 : inB i 0 ((l.length : Int) - 1) = false := by simp [inB]; omega
      have e3' : inB i 0 ((ms.length : Int) - 1) = false := by rw [k3]; exact e3
      repeat' (first | with_reducible refine iteI (fun _ => ?_) (fun _ => ?_) | ((first | unfold AOpsC | unfold AOpsD | skip); simp (maxSteps := 1000000) (disch := (first | omega | assumption | (simp only [List.length_append, List.length_cons, List.length_nil, List.length_set]; omega))) only [st0, AC, ↓skipC, ↓exitC, ↓retC, ↓seqC, ↓blockC, ↓condC, ↓regC, ↓drawC, thenA, ↓drawStep, ↓AOpC, ↓AOpF, ↓AOpE, ↓AEff, ↓contE_at, ↓contC_at, ↓keepC_at, pv, ev, put, upd, dstOk, cv, cvc, binI, setB, Value.oneCell', EndA, resA, resA1, List.mapM_cons, List.mapM_nil, Option.pure_def, Option.bind_eq_bind, noLocV, noLoc1, noLoc, noLocs, plainV, cellsA, newVarA, putCells, condA, lam0, inBlockA, cur, lenA, rowA, avoidsB, avoidB, clearB, Array.toList_append, Op.operands, Call.operands, newSlot,
    ↓reduceIte, reduceCtorEq, Nat.reduceLT, Nat.reduceEqDiff, Nat.reduceAdd, Nat.reduceMul, Nat.reduceLeDiff, Nat.reduceSub, Nat.zero_add, Nat.add_zero, Nat.succ_ne_self, Nat.lt_add_one, Nat.zero_lt_succ, true_and, and_true, true_or, or_true, false_or, or_false, and_self, true_implies, forall_const, Bool.false_eq_true, Bool.true_eq_false, false_implies, implies_true, imp_self, ne_eq, not_false_eq_true, not_true_eq_false, false_and, and_false,
    List.getElem?_toArray, List.getElem?_cons_succ, List.getElem?_cons_zero, Option.bind_some, Option.map_some, Bool.not_true, Bool.not_false, List.getD_cons_zero, List.getD_cons_succ, Option.some.injEq, exists_eq_left', AV.bool.injEq, List.map_cons, List.map_nil, List.all_cons, List.all_nil, Bool.and_self, Bool.and_true, Bool.true_and, List.append_nil, List.cons_append, List.nil_append, List.length_cons, List.length_nil, List.drop_zero, List.take_zero, List.drop_succ_cons, List.take_succ_cons, List.take_nil, List.drop_nil, List.not_mem_nil, List.mem_cons, List.contains_nil, List.contains_cons, Nat.reduceBEq, Nat.reduceBNe, Nat.reduceBneDiff, Nat.reduceBeqDiff, Bool.or_self, Bool.or_true, Bool.true_or, Bool.false_or, Bool.or_false, Bool.and_false, Bool.false_and, KsS_same, KsS_grow, ag_24, ag_3, ag_60, by_24, by_3, by_60, el_24, fi_60_1, in_3, nf_60, pl_60, ps_60, sz_24, sz_3, sz_60, ze_24, ze_3, ze_60, Sp50, SIn, SOk, SSurf, skipV, KsS_ext, rep1, rep2, rep3, rep4, rep5, List.flatten_cons, List.flatten_nil, ↓map_parts, partsA, isPtr, fillA, List.size_toArray, ltT, ltF, leT, leF, ltTn, ltFn, leTn, leFn, eqTi, eqFi, wrapId, toNat1, intGet, boolGet, memD, app_get, app_last, app_lst, app_set, app_setL, app_setF, set_ne, set_eq, gt_iff_lt, ge_iff_le, decide_eq_true_eq, len2, len3, get20, get21, drop2, put2, get30, get31, get32, drop3, put3, putI, pairEta, bneTi, bneFi, beqTi, beqFi, bne_eq_false_iff_eq, beq_eq_false_iff_ne, beq_iff_eq, bne_iff_ne, Int.toNat_natCast, Nat.mul_one, List.length_map, Bool.not_eq_true, Bool.not_eq_false, Bool.decide_eq_true, decide_true, decide_false, Bool.not_eq_true', Bool.not_eq_false', decide_eq_false_iff_not, eq_self, Decidable.not_not, hb0, hb1, hb2, hb3, d1, d2, d3, d4, o1, o2, o3, o4, e1, e3, e3']))
      exact KI hK (by simp [surfOf, atB, e1, e3])
  · exact h.elim

/- impl.SurfaceOf -/
def Sp51 (lo : Nat) : Spec := fun g args η K => match g with | 89 => SOk args η K | 90 => SHasI args η K | 92 => SSurf args η K | _ => False
theorem Sp51_ok {lo : Nat} : Sound Try.prog lo (Sp51 lo) := by
  intro g args η K h
  unfold Sp51 at h
  split at h
  · exact f89_ok h
  · exact f90_ok h
  · exact f92_ok h
  · exact h.elim
theorem f51_ok {lo : Nat} {args : List AV} {η : List Blk} {K : AV → List Blk → Prop} (h : SSurfOf args η K) : AF Try.prog lo 51 args η K := by
  unfold SSurfOf at h
  split at h
  · obtain ⟨⟨⟨l, hr, hl⟩, ⟨ms, ha, hla⟩, ⟨ts, hb, hlb⟩, ⟨bs, hc, hlc⟩⟩, hK⟩ := h
    rename_i r _ _ _ _ i
    have d1 := hr.dec3
    have d2 := ha.dec
    have d3 := hb.dec
    have d4 := hc.dec
    have o1 : ok3 77 _ _ := ⟨l, hr, hl⟩
    have o2 : okI _ _ := ⟨ms, ha, hla⟩
    have o3 : okI _ _ := ⟨ts, hb, hlb⟩
    have o4 : okI _ _ := ⟨bs, hc, hlc⟩
    simp only [d1, d2, d3, d4] at hK
    have hr' := hr
    have ha' := ha
    have hb' := hb
    have hc' := hc
    obtain ⟨b0, v0, rfl, hb0⟩ := hr'
    obtain ⟨b1, v1, rfl, hb1⟩ := ha'
    obtain ⟨b2, v2, rfl, hb2⟩ := hb'
    obtain ⟨b3, v3, rfl, hb3⟩ := hc'
    refine AF_run Sp51_ok D0 [] [.tmp 4] hm Try.func51 rfl (by decide) Try.ntmps51 rfl (by kernel_rfl) (Nat.le_of_ble_eq_true rfl) ?_
    intro hlo
    cases e1 : okB r l ms ts bs
    · repeat' (first | with_reducible refine iteI (fun _ => ?_) (fun _ => ?_) | ((first | unfold AOpsC | unfold AOpsD | skip); simp (maxSteps := 1000000) (disch := (first | omega | assumption | (simp only [List.length_append, List.length_cons, List.length_nil, List.length_set]; omega))) only [st0, AC, ↓skipC, ↓exitC, ↓retC, ↓seqC, ↓blockC, ↓condC, ↓regC, ↓drawC, thenA, ↓drawStep, ↓AOpC, ↓AOpF, ↓AOpE, ↓AEff, ↓contE_at, ↓contC_at, ↓keepC_at, pv, ev, put, upd, dstOk, cv, cvc, binI, setB, Value.oneCell', EndA, resA, resA1, List.mapM_cons, List.mapM_nil, Option.pure_def, Option.bind_eq_bind, noLocV, noLoc1, noLoc, noLocs, plainV, cellsA, newVarA, putCells, condA, lam0, inBlockA, cur, lenA, rowA, avoidsB, avoidB, clearB, Array.toList_append, Op.operands, Call.operands, newSlot,
    ↓reduceIte, reduceCtorEq, Nat.reduceLT, Nat.reduceEqDiff, Nat.reduceAdd, Nat.reduceMul, Nat.reduceLeDiff, Nat.reduceSub, Nat.zero_add, Nat.add_zero, Nat.succ_ne_self, Nat.lt_add_one, Nat.zero_lt_succ, true_and, and_true, true_or, or_true, false_or, or_false, and_self, true_implies, forall_const, Bool.false_eq_true, Bool.true_eq_false, false_implies, implies_true, imp_self, ne_eq, not_false_eq_true, not_true_eq_false, false_and, and_false,
    List.getElem?_toArray, List.getElem?_cons_succ, List.getElem?_cons_zero, Option.bind_some, Option.map_some, Bool.not_true, Bool.not_false, List.getD_cons_zero, List.getD_cons_succ, Option.some.injEq, exists_eq_left', AV.bool.injEq, List.map_cons, List.map_nil, List.all_cons, List.all_nil, Bool.and_self, Bool.and_true, Bool.true_and, List.append_nil, List.cons_append, List.nil_append, List.length_cons, List.length_nil, List.drop_zero, List.take_zero, List.drop_succ_cons, List.take_succ_cons, List.take_nil, List.drop_nil, List.not_mem_nil, List.mem_cons, List.contains_nil, List.contains_cons, Nat.reduceBEq, Nat.reduceBNe, Nat.reduceBneDiff, Nat.reduceBeqDiff, Bool.or_self, Bool.or_true, Bool.true_or, Bool.false_or, Bool.or_false, Bool.and_false, Bool.false_and, KsS_same, KsS_grow, ag_36, ag_60, by_36, by_60, fi_60_0, nf_36, nf_60, pl_36, pl_60, ps_36, ps_60, sz_36, sz_60, ze_36, ze_60, Sp51, SOk, SHasI, SSurf, skipV, KsS_ext, rep1, rep2, rep3, rep4, rep5, List.flatten_cons, List.flatten_nil, ↓map_parts, partsA, isPtr, fillA, List.size_toArray, ltT, ltF, leT, leF, ltTn, ltFn, leTn, leFn, eqTi, eqFi, wrapId, toNat1, intGet, boolGet, memD, app_get, app_last, app_lst, app_set, app_setL, app_setF, set_ne, set_eq, gt_iff_lt, ge_iff_le, decide_eq_true_eq, len2, len3, get20, get21, drop2, put2, get30, get31, get32, drop3, put3, putI, pairEta, bneTi, bneFi, beqTi, beqFi, bne_eq_false_iff_eq, beq_eq_false_iff_ne, beq_iff_eq, bne_iff_ne, Int.toNat_natCast, Nat.mul_one, List.length_map, Bool.not_eq_true, Bool.not_eq_false, Bool.decide_eq_true, decide_true, decide_false, Bool.not_eq_true', Bool.not_eq_false', decide_eq_false_iff_not, eq_self, Decidable.not_not, hb0, hb1, hb2, hb3, d1, d2, d3, d4, o1, o2, o3, o4, e1]))
      exact KI hK (by simp [surfOf, atB, e1])
    obtain ⟨k1, k2, k3, k4, k5, k6, k7, k8⟩ := okT e1
    by_cases e2 : 0 ≤ i ∧ i < l.length
    · have e3 : inB i 0 ((l.length : Int) - 1) = true := by simp [inB]; omega
      have e3' : inB i 0 ((ms.length : Int) - 1) = true := by rw [k3]; exact e3
      repeat' (first | with_reducible refine iteI (fun _ => ?_) (fun _ => ?_) | ((first | unfold AOpsC | unfold AOpsD | skip); simp (maxSteps := 1000000) (disch := (first | omega | assumption | (simp only [List.length_append, List.length_cons, List.length_nil, List.length_set]; omega))) only [st0, AC, ↓skipC, ↓exitC, ↓retC, ↓seqC, ↓blockC, ↓condC, ↓regC, ↓drawC, thenA, ↓drawStep, ↓AOpC, ↓AOpF, ↓AOpE, ↓AEff, ↓contE_at, ↓contC_at, ↓keepC_at, pv, ev, put, upd, dstOk, cv, cvc, binI, setB, Value.oneCell', EndA, resA, resA1, List.mapM_cons, List.mapM_nil, Option.pure_def, Option.bind_eq_bind, noLocV, noLoc1, noLoc, noLocs, plainV, cellsA, newVarA, putCells, condA, lam0, inBlockA, cur, lenA, rowA, avoidsB, avoidB, clearB, Array.toList_append, Op.operands, Call.operands, newSlot,
    ↓reduceIte, reduceCtorEq, Nat.reduceLT, Nat.reduceEqDiff, Nat.reduceAdd, Nat.reduceMul, Nat.reduceLeDiff, Nat.reduceSub, Nat.zero_add, Nat.add_zero, Nat.succ_ne_self, Nat.lt_add_one, Nat.zero_lt_succ, true_and, and_true, true_or, or_true, false_or, or_false, and_self, true_implies, forall_const, Bool.false_eq_true, Bool.true_eq_false, false_implies, implies_true, imp_self, ne_eq, not_false_eq_true, not_true_eq_false, false_and, and_false,
    List.getElem?_toArray, List.getElem?_cons_succ, List.getElem?_cons_zero, Option.bind_some, Option.map_some, Bool.not_true, Bool.not_false, List.getD_cons_zero, List.getD_cons_succ, Option.some.injEq, exists_eq_left', AV.bool.injEq, List.map_cons, List.map_nil, List.all_cons, List.all_nil, Bool.and_self, Bool.and_true, Bool.true_and, List.append_nil, List.cons_append, List.nil_append, List.length_cons, List.length_nil, List.drop_zero, List.take_zero, List.drop_succ_cons, List.take_succ_cons, List.take_nil, List.drop_nil, List.not_mem_nil, List.mem_cons, List.contains_nil, List.contains_cons, Nat.reduceBEq, Nat.reduceBNe, Nat.reduceBneDiff, Nat.reduceBeqDiff, Bool.or_self, Bool.or_true, Bool.true_or, Bool.false_or, Bool.or_false, Bool.and_false, Bool.false_and, KsS_same, KsS_grow, ag_36, ag_60, by_36, by_60, fi_60_0, nf_36, nf_60, pl_36, pl_60, ps_36, ps_60, sz_36, sz_60, ze_36, ze_60, Sp51, SOk, SHasI, SSurf, skipV, KsS_ext, rep1, rep2, rep3, rep4, rep5, List.flatten_cons, List.flatten_nil, ↓map_parts, partsA, isPtr, fillA, List.size_toArray, ltT, ltF, leT, leF, ltTn, ltFn, leTn, leFn, eqTi, eqFi, wrapId, toNat1, intGet, boolGet, memD, app_get, app_last, app_lst, app_set, app_setL, app_setF, set_ne, set_eq, gt_iff_lt, ge_iff_le, decide_eq_true_eq, len2, len3, get20, get21, drop2, put2, get30, get31, get32, drop3, put3, putI, pairEta, bneTi, bneFi, beqTi, beqFi, bne_eq_false_iff_eq, beq_eq_false_iff_ne, beq_iff_eq, bne_iff_ne, Int.toNat_natCast, Nat.mul_one, List.length_map, Bool.not_eq_true, Bool.not_eq_false, Bool.decide_eq_true, decide_true, decide_false, Bool.not_eq_true', Bool.not_eq_false', decide_eq_false_iff_not, eq_self, Decidable.not_not, hb0, hb1, hb2, hb3, d1, d2, d3, d4, o1, o2, o3, o4, e1, e3, e3']))
      exact KI hK (by simp [surfOf, atB, e1, e3])
    · have e3 : inB i 0 ((l.length : Int) - 1) = false := by simp [inB]; omega
      have e3' : inB i 0 ((ms.length : Int) - 1) = false := by rw [k3]; exact e3
      repeat' (first | with_reducible refine iteI (fun _ => ?_) (fun _ => ?_) | ((first | unfold AOpsC | unfold AOpsD | skip); simp (maxSteps := 1000000) (disch := (first | omega | assumption | (simp only [List.length_append, List.length_cons, List.length_nil, List.length_set]; omega))) only [st0, AC, ↓skipC, ↓exitC, ↓retC, ↓seqC, ↓blockC, ↓condC, ↓regC, ↓drawC, thenA, ↓drawStep, ↓AOpC, ↓AOpF, ↓AOpE, ↓AEff, ↓contE_at, ↓contC_at, ↓keepC_at, pv, ev, put, upd, dstOk, cv, cvc, binI, setB, Value.oneCell', EndA, resA, resA1, List.mapM_cons, List.mapM_nil, Option.pure_def, Option.bind_eq_bind, noLocV, noLoc1, noLoc, noLocs, plainV, cellsA, newVarA, putCells, condA, lam0, inBlockA, cur, lenA, rowA, avoidsB, avoidB, clearB, Array.toList_append, Op.operands, Call.operands, newSlot,
    ↓reduceIte, reduceCtorEq, Nat.reduceLT, Nat.reduceEqDiff, Nat.reduceAdd, Nat.reduceMul, Nat.reduceLeDiff, Nat.reduceSub, Nat.zero_add, Nat.add_zero, Nat.succ_ne_self, Nat.lt_add_one, Nat.zero_lt_succ, true_and, and_true, true_or, or_true, false_or, or_false, and_self, true_implies, forall_const, Bool.false_eq_true, Bool.true_eq_false, false_implies, implies_true, imp_self, ne_eq, not_false_eq_true, not_true_eq_false, false_and, and_false,
    List.getElem?_toArray, List.getElem?_cons_succ, List.getElem?_cons_zero, Option.bind_some, Option.map_some, Bool.not_true, Bool.not_false, List.getD_cons_zero, List.getD_cons_succ, Option.some.injEq, exists_eq_left', AV.bool.injEq, List.map_cons, List.map_nil, List.all_cons, List.all_nil, Bool.and_self, Bool.and_true, Bool.true_and, List.append_nil, List.cons_append, List.nil_append, List.length_cons, List.length_nil, List.drop_zero, List.take_zero, List.drop_succ_cons, List.take_succ_cons, List.take_nil, List.drop_nil, List.not_mem_nil, List.mem_cons, List.contains_nil, List.contains_cons, Nat.reduceBEq, Nat.reduceBNe, Nat.reduceBneDiff, Nat.reduceBeqDiff, Bool.or_self, Bool.or_true, Bool.true_or, Bool.false_or, Bool.or_false, Bool.and_false, Bool.false_and, KsS_same, KsS_grow, ag_36, ag_60, by_36, by_60, fi_60_0, nf_36, nf_60, pl_36, pl_60, ps_36, ps_60, sz_36, sz_60, ze_36, ze_60, Sp51, SOk, SHasI, SSurf, skipV, KsS_ext, rep1, rep2, rep3, rep4, rep5, List.flatten_cons, List.flatten_nil, ↓map_parts, partsA, isPtr, fillA, List.size_toArray, ltT, ltF, leT, leF, ltTn, ltFn, leTn, leFn, eqTi, eqFi, wrapId, toNat1, intGet, boolGet, memD, app_get, app_last, app_lst, app_set, app_setL, app_setF, set_ne, set_eq, gt_iff_lt, ge_iff_le, decide_eq_true_eq, len2, len3, get20, get21, drop2, put2, get30, get31, get32, drop3, put3, putI, pairEta, bneTi, bneFi, beqTi, beqFi, bne_eq_false_iff_eq, beq_eq_false_iff_ne, beq_iff_eq, bne_iff_ne, Int.toNat_natCast, Nat.mul_one, List.length_map, Bool.not_eq_true, Bool.not_eq_false, Bool.decide_eq_true, decide_true, decide_false, Bool.not_eq_true', Bool.not_eq_false', decide_eq_false_iff_not, eq_self, Decidable.not_not, hb0, hb1, hb2, hb3, d1, d2, d3, d4, o1, o2, o3, o4, e1, e3, e3']))
      exact KI hK (by simp [surfOf, atB, e1, e3])
  · exact h.elim

/- spec.ShareAt -/
def Sp44 (lo : Nat) : Spec := fun g args η K => match g with | 60 => SIn args η K | 87 => SOk args η K | _ => False
theorem Sp44_ok {lo : Nat} : Sound Try.prog lo (Sp44 lo) := by
  intro g args η K h
  unfold Sp44 at h
  split at h
  · exact f60_ok h
  · exact f87_ok h
  · exact h.elim
def D44 : Draws := fun id => match id with | 3 => ([0, 1, 0, 7, 15, 31, 0, 64, 0, 448, 960, 2047, 4095], [], [], [0, 1, 2, 3, 4, 5, 6, 7, 8, 9, 10, 11, 12]) | _ => ([], [], [], [])
theorem f44_ok {lo : Nat} {args : List AV} {η : List Blk} {K : AV → List Blk → Prop} (h : SShareAt args η K) : AF Try.prog lo 44 args η K := by
  unfold SShareAt at h
  split at h
  · obtain ⟨⟨⟨l, hr, hl⟩, ⟨ms, ha, hla⟩, ⟨ts, hb, hlb⟩, ⟨bs, hc, hlc⟩⟩, hK⟩ := h
    rename_i r _ _ _ _ i
    have d1 := hr.dec3
    have d2 := ha.dec
    have d3 := hb.dec
    have d4 := hc.dec
    have o1 : ok3 77 _ _ := ⟨l, hr, hl⟩
    have o2 : okI _ _ := ⟨ms, ha, hla⟩
    have o3 : okI _ _ := ⟨ts, hb, hlb⟩
    have o4 : okI _ _ := ⟨bs, hc, hlc⟩
    simp only [d1, d2, d3, d4] at hK
    have hr' := hr
    have ha' := ha
    have hb' := hb
    have hc' := hc
    obtain ⟨b0, v0, rfl, hb0⟩ := hr'
    obtain ⟨b1, v1, rfl, hb1⟩ := ha'
    obtain ⟨b2, v2, rfl, hb2⟩ := hb'
    obtain ⟨b3, v3, rfl, hb3⟩ := hc'
    refine AF_run Sp44_ok D44 [] [.tmp 4] hm Try.func44 rfl (by decide) Try.ntmps44 rfl (by kernel_rfl) (Nat.le_of_ble_eq_true rfl) ?_
    intro hlo
    cases e1 : okB r l ms ts bs
    · repeat' (first | with_reducible refine iteI (fun _ => ?_) (fun _ => ?_) | ((first | unfold AOpsC | unfold AOpsD | skip); simp (maxSteps := 1000000) (disch := (first | omega | assumption | (simp only [List.length_append, List.length_cons, List.length_nil, List.length_set]; omega))) only [st0, AC, ↓skipC, ↓exitC, ↓retC, ↓seqC, ↓blockC, ↓condC, ↓regC, ↓drawC, thenA, ↓drawStep, ↓AOpC, ↓AOpF, ↓AOpE, ↓AEff, ↓contE_at, ↓contC_at, ↓keepC_at, pv, ev, put, upd, dstOk, cv, cvc, binI, setB, Value.oneCell', EndA, resA, resA1, List.mapM_cons, List.mapM_nil, Option.pure_def, Option.bind_eq_bind, noLocV, noLoc1, noLoc, noLocs, plainV, cellsA, newVarA, putCells, condA, lam0, inBlockA, cur, lenA, rowA, avoidsB, avoidB, clearB, Array.toList_append, Op.operands, Call.operands, newSlot,
    ↓reduceIte, reduceCtorEq, Nat.reduceLT, Nat.reduceEqDiff, Nat.reduceAdd, Nat.reduceMul, Nat.reduceLeDiff, Nat.reduceSub, Nat.zero_add, Nat.add_zero, Nat.succ_ne_self, Nat.lt_add_one, Nat.zero_lt_succ, true_and, and_true, true_or, or_true, false_or, or_false, and_self, true_implies, forall_const, Bool.false_eq_true, Bool.true_eq_false, false_implies, implies_true, imp_self, ne_eq, not_false_eq_true, not_true_eq_false, false_and, and_false,
    List.getElem?_toArray, List.getElem?_cons_succ, List.getElem?_cons_zero, Option.bind_some, Option.map_some, Bool.not_true, Bool.not_false, List.getD_cons_zero, List.getD_cons_succ, Option.some.injEq, exists_eq_left', AV.bool.injEq, List.map_cons, List.map_nil, List.all_cons, List.all_nil, Bool.and_self, Bool.and_true, Bool.true_and, List.append_nil, List.cons_append, List.nil_append, List.length_cons, List.length_nil, List.drop_zero, List.take_zero, List.drop_succ_cons, List.take_succ_cons, List.take_nil, List.drop_nil, List.not_mem_nil, List.mem_cons, List.contains_nil, List.contains_cons, Nat.reduceBEq, Nat.reduceBNe, Nat.reduceBneDiff, Nat.reduceBeqDiff, Bool.or_self, Bool.or_true, Bool.true_or, Bool.false_or, Bool.or_false, Bool.and_false, Bool.false_and, KsS_same, KsS_grow, ag_24, ag_3, ag_60, by_24, by_3, by_60, el_24, fi_60_1, fi_60_2, in_3, nf_60, pl_60, ps_60, sz_24, sz_3, sz_60, ze_24, ze_3, ze_60, Sp44, SIn, SOk, D44, skipV, KsS_ext, rep1, rep2, rep3, rep4, rep5, List.flatten_cons, List.flatten_nil, ↓map_parts, partsA, isPtr, fillA, List.size_toArray, ltT, ltF, leT, leF, ltTn, ltFn, leTn, leFn, eqTi, eqFi, wrapId, toNat1, intGet, boolGet, memD, app_get, app_last, app_lst, app_set, app_setL, app_setF, set_ne, set_eq, gt_iff_lt, ge_iff_le, decide_eq_true_eq, len2, len3, get20, get21, drop2, put2, get30, get31, get32, drop3, put3, putI, pairEta, bneTi, bneFi, beqTi, beqFi, bne_eq_false_iff_eq, beq_eq_false_iff_ne, beq_iff_eq, bne_iff_ne, Int.toNat_natCast, Nat.mul_one, List.length_map, Bool.not_eq_true, Bool.not_eq_false, Bool.decide_eq_true, decide_true, decide_false, Bool.not_eq_true', Bool.not_eq_false', decide_eq_false_iff_not, eq_self, Decidable.not_not, hb0, hb1, hb2, hb3, d1, d2, d3, d4, o1, o2, o3, o4, e1]))
      exact KI hK (by simp [shareAt, atB, e1])
    obtain ⟨k1, k2, k3, k4, k5, k6, k7, k8⟩ := okT e1
    by_cases e2 : 0 ≤ i ∧ i < l.length
    · have e3 : inB i 0 ((l.length : Int) - 1) = true := by simp [inB]; omega
      have e3' : inB i 0 ((ms.length : Int) - 1) = true := by rw [k3]; exact e3
      obtain ⟨j, rfl⟩ : ∃ j : Nat, i = j := ⟨i.toNat, by omega⟩
      have m1 := cells_at k7 (i := j) (by omega)
      by_cases e4 : ms.getD j 0 = 0
      · repeat' (first | with_reducible refine iteI (fun _ => ?_) (fun _ => ?_) | ((first | unfold AOpsC | unfold AOpsD | skip); simp (maxSteps := 1000000) (disch := (first | omega | assumption | (simp only [List.length_append, List.length_cons, List.length_nil, List.length_set]; omega))) only [st0, AC, ↓skipC, ↓exitC, ↓retC, ↓seqC, ↓blockC, ↓condC, ↓regC, ↓drawC, thenA, ↓drawStep, ↓AOpC, ↓AOpF, ↓AOpE, ↓AEff, ↓contE_at, ↓contC_at, ↓keepC_at, pv, ev, put, upd, dstOk, cv, cvc, binI, setB, Value.oneCell', EndA, resA, resA1, List.mapM_cons, List.mapM_nil, Option.pure_def, Option.bind_eq_bind, noLocV, noLoc1, noLoc, noLocs, plainV, cellsA, newVarA, putCells, condA, lam0, inBlockA, cur, lenA, rowA, avoidsB, avoidB, clearB, Array.toList_append, Op.operands, Call.operands, newSlot,
    ↓reduceIte, reduceCtorEq, Nat.reduceLT, Nat.reduceEqDiff, Nat.reduceAdd, Nat.reduceMul, Nat.reduceLeDiff, Nat.reduceSub, Nat.zero_add, Nat.add_zero, Nat.succ_ne_self, Nat.lt_add_one, Nat.zero_lt_succ, true_and, and_true, true_or, or_true, false_or, or_false, and_self, true_implies, forall_const, Bool.false_eq_true, Bool.true_eq_false, false_implies, implies_true, imp_self, ne_eq, not_false_eq_true, not_true_eq_false, false_and, and_false,
    List.getElem?_toArray, List.getElem?_cons_succ, List.getElem?_cons_zero, Option.bind_some, Option.map_some, Bool.not_true, Bool.not_false, List.getD_cons_zero, List.getD_cons_succ, Option.some.injEq, exists_eq_left', AV.bool.injEq, List.map_cons, List.map_nil, List.all_cons, List.all_nil, Bool.and_self, Bool.and_true, Bool.true_and, List.append_nil, List.cons_append, List.nil_append, List.length_cons, List.length_nil, List.drop_zero, List.take_zero, List.drop_succ_cons, List.take_succ_cons, List.take_nil, List.drop_nil, List.not_mem_nil, List.mem_cons, List.contains_nil, List.contains_cons, Nat.reduceBEq, Nat.reduceBNe, Nat.reduceBneDiff, Nat.reduceBeqDiff, Bool.or_self, Bool.or_true, Bool.true_or, Bool.false_or, Bool.or_false, Bool.and_false, Bool.false_and, KsS_same, KsS_grow, ag_24, ag_3, ag_60, by_24, by_3, by_60, el_24, fi_60_1, fi_60_2, in_3, nf_60, pl_60, ps_60, sz_24, sz_3, sz_60, ze_24, ze_3, ze_60, Sp44, SIn, SOk, D44, skipV, KsS_ext, rep1, rep2, rep3, rep4, rep5, List.flatten_cons, List.flatten_nil, ↓map_parts, partsA, isPtr, fillA, List.size_toArray, ltT, ltF, leT, leF, ltTn, ltFn, leTn, leFn, eqTi, eqFi, wrapId, toNat1, intGet, boolGet, memD, app_get, app_last, app_lst, app_set, app_setL, app_setF, set_ne, set_eq, gt_iff_lt, ge_iff_le, decide_eq_true_eq, len2, len3, get20, get21, drop2, put2, get30, get31, get32, drop3, put3, putI, pairEta, bneTi, bneFi, beqTi, beqFi, bne_eq_false_iff_eq, beq_eq_false_iff_ne, beq_iff_eq, bne_iff_ne, Int.toNat_natCast, Nat.mul_one, List.length_map, Bool.not_eq_true, Bool.not_eq_false, Bool.decide_eq_true, decide_true, decide_false, Bool.not_eq_true', Bool.not_eq_false', decide_eq_false_iff_not, eq_self, Decidable.not_not, hb0, hb1, hb2, hb3, d1, d2, d3, d4, o1, o2, o3, o4, e1, e3, e3', e4]))
        exact KI hK (by rw [shareAt, if_neg (fun hh => hh.2 (by rw [Int.toNat_natCast]; exact e4))])
      · have q1 : 0 ≤ (1000 * ts.getD j 0).tdiv (ms.getD j 0) := Int.tdiv_nonneg (by omega) (by omega)
        have q2 : (1000 * ts.getD j 0).tdiv (ms.getD j 0) ≤ 1000 * ts.getD j 0 := Int.tdiv_le_self _ (by omega)
        repeat' (first | with_reducible refine iteI (fun _ => ?_) (fun _ => ?_) | ((first | unfold AOpsC | unfold AOpsD | skip); simp (maxSteps := 1000000) (disch := (first | omega | assumption | (simp only [List.length_append, List.length_cons, List.length_nil, List.length_set]; omega))) only [st0, AC, ↓skipC, ↓exitC, ↓retC, ↓seqC, ↓blockC, ↓condC, ↓regC, ↓drawC, thenA, ↓drawStep, ↓AOpC, ↓AOpF, ↓AOpE, ↓AEff, ↓contE_at, ↓contC_at, ↓keepC_at, pv, ev, put, upd, dstOk, cv, cvc, binI, setB, Value.oneCell', EndA, resA, resA1, List.mapM_cons, List.mapM_nil, Option.pure_def, Option.bind_eq_bind, noLocV, noLoc1, noLoc, noLocs, plainV, cellsA, newVarA, putCells, condA, lam0, inBlockA, cur, lenA, rowA, avoidsB, avoidB, clearB, Array.toList_append, Op.operands, Call.operands, newSlot,
    ↓reduceIte, reduceCtorEq, Nat.reduceLT, Nat.reduceEqDiff, Nat.reduceAdd, Nat.reduceMul, Nat.reduceLeDiff, Nat.reduceSub, Nat.zero_add, Nat.add_zero, Nat.succ_ne_self, Nat.lt_add_one, Nat.zero_lt_succ, true_and, and_true, true_or, or_true, false_or, or_false, and_self, true_implies, forall_const, Bool.false_eq_true, Bool.true_eq_false, false_implies, implies_true, imp_self, ne_eq, not_false_eq_true, not_true_eq_false, false_and, and_false,
    List.getElem?_toArray, List.getElem?_cons_succ, List.getElem?_cons_zero, Option.bind_some, Option.map_some, Bool.not_true, Bool.not_false, List.getD_cons_zero, List.getD_cons_succ, Option.some.injEq, exists_eq_left', AV.bool.injEq, List.map_cons, List.map_nil, List.all_cons, List.all_nil, Bool.and_self, Bool.and_true, Bool.true_and, List.append_nil, List.cons_append, List.nil_append, List.length_cons, List.length_nil, List.drop_zero, List.take_zero, List.drop_succ_cons, List.take_succ_cons, List.take_nil, List.drop_nil, List.not_mem_nil, List.mem_cons, List.contains_nil, List.contains_cons, Nat.reduceBEq, Nat.reduceBNe, Nat.reduceBneDiff, Nat.reduceBeqDiff, Bool.or_self, Bool.or_true, Bool.true_or, Bool.false_or, Bool.or_false, Bool.and_false, Bool.false_and, KsS_same, KsS_grow, ag_24, ag_3, ag_60, by_24, by_3, by_60, el_24, fi_60_1, fi_60_2, in_3, nf_60, pl_60, ps_60, sz_24, sz_3, sz_60, ze_24, ze_3, ze_60, Sp44, SIn, SOk, D44, skipV, KsS_ext, rep1, rep2, rep3, rep4, rep5, List.flatten_cons, List.flatten_nil, ↓map_parts, partsA, isPtr, fillA, List.size_toArray, ltT, ltF, leT, leF, ltTn, ltFn, leTn, leFn, eqTi, eqFi, wrapId, toNat1, intGet, boolGet, memD, app_get, app_last, app_lst, app_set, app_setL, app_setF, set_ne, set_eq, gt_iff_lt, ge_iff_le, decide_eq_true_eq, len2, len3, get20, get21, drop2, put2, get30, get31, get32, drop3, put3, putI, pairEta, bneTi, bneFi, beqTi, beqFi, bne_eq_false_iff_eq, beq_eq_false_iff_ne, beq_iff_eq, bne_iff_ne, Int.toNat_natCast, Nat.mul_one, List.length_map, Bool.not_eq_true, Bool.not_eq_false, Bool.decide_eq_true, decide_true, decide_false, Bool.not_eq_true', Bool.not_eq_false', decide_eq_false_iff_not, eq_self, Decidable.not_not, hb0, hb1, hb2, hb3, d1, d2, d3, d4, o1, o2, o3, o4, e1, e3, e3', e4]))
        exact KI hK (by rw [shareAt, Int.toNat_natCast, if_pos ⟨by simp [atB, e1, e3], e4⟩])
    · have e3 : inB i 0 ((l.length : Int) - 1) = false := by simp [inB]; omega
      have e3' : inB i 0 ((ms.length : Int) - 1) = false := by rw [k3]; exact e3
      repeat' (first | with_reducible refine iteI (fun _ => ?_) (fun _ => ?_) | ((first | unfold AOpsC | unfold AOpsD | skip); simp (maxSteps := 1000000) (disch := (first | omega | assumption | (simp only [List.length_append, List.length_cons, List.length_nil, List.length_set]; omega))) only [st0, AC, ↓skipC, ↓exitC, ↓retC, ↓seqC, ↓blockC, ↓condC, ↓regC, ↓drawC, thenA, ↓drawStep, ↓AOpC, ↓AOpF, ↓AOpE, ↓AEff, ↓contE_at, ↓contC_at, ↓keepC_at, pv, ev, put, upd, dstOk, cv, cvc, binI, setB, Value.oneCell', EndA, resA, resA1, List.mapM_cons, List.mapM_nil, Option.pure_def, Option.bind_eq_bind, noLocV, noLoc1, noLoc, noLocs, plainV, cellsA, newVarA, putCells, condA, lam0, inBlockA, cur, lenA, rowA, avoidsB, avoidB, clearB, Array.toList_append, Op.operands, Call.operands, newSlot,
    ↓reduceIte, reduceCtorEq, Nat.reduceLT, Nat.reduceEqDiff, Nat.reduceAdd, Nat.reduceMul, Nat.reduceLeDiff, Nat.reduceSub, Nat.zero_add, Nat.add_zero, Nat.succ_ne_self, Nat.lt_add_one, Nat.zero_lt_succ, true_and, and_true, true_or, or_true, false_or, or_false, and_self, true_implies, forall_const, Bool.false_eq_true, Bool.true_eq_false, false_implies, implies_true, imp_self, ne_eq, not_false_eq_true, not_true_eq_false, false_and, and_false,
    List.getElem?_toArray, List.getElem?_cons_succ, List.getElem?_cons_zero, Option.bind_some, Option.map_some, Bool.not_true, Bool.not_false, List.getD_cons_zero, List.getD_cons_succ, Option.some.injEq, exists_eq_left', AV.bool.injEq, List.map_cons, List.map_nil, List.all_cons, List.all_nil, Bool.and_self, Bool.and_true, Bool.true_and, List.append_nil, List.cons_append, List.nil_append, List.length_cons, List.length_nil, List.drop_zero, List.take_zero, List.drop_succ_cons, List.take_succ_cons, List.take_nil, List.drop_nil, List.not_mem_nil, List.mem_cons, List.contains_nil, List.contains_cons, Nat.reduceBEq, Nat.reduceBNe, Nat.reduceBneDiff, Nat.reduceBeqDiff, Bool.or_self, Bool.or_true, Bool.true_or, Bool.false_or, Bool.or_false, Bool.and_false, Bool.false_and, KsS_same, KsS_grow, ag_24, ag_3, ag_60, by_24, by_3, by_60, el_24, fi_60_1, fi_60_2, in_3, nf_60, pl_60, ps_60, sz_24, sz_3, sz_60, ze_24, ze_3, ze_60, Sp44, SIn, SOk, D44, skipV, KsS_ext, rep1, rep2, rep3, rep4, rep5, List.flatten_cons, List.flatten_nil, ↓map_parts, partsA, isPtr, fillA, List.size_toArray, ltT, ltF, leT, leF, ltTn, ltFn, leTn, leFn, eqTi, eqFi, wrapId, toNat1, intGet, boolGet, memD, app_get, app_last, app_lst, app_set, app_setL, app_setF, set_ne, set_eq, gt_iff_lt, ge_iff_le, decide_eq_true_eq, len2, len3, get20, get21, drop2, put2, get30, get31, get32, drop3, put3, putI, pairEta, bneTi, bneFi, beqTi, beqFi, bne_eq_false_iff_eq, beq_eq_false_iff_ne, beq_iff_eq, bne_iff_ne, Int.toNat_natCast, Nat.mul_one, List.length_map, Bool.not_eq_true, Bool.not_eq_false, Bool.decide_eq_true, decide_true, decide_false, Bool.not_eq_true', Bool.not_eq_false', decide_eq_false_iff_not, eq_self, Decidable.not_not, hb0, hb1, hb2, hb3, d1, d2, d3, d4, o1, o2, o3, o4, e1, e3, e3']))
      exact KI hK (by simp [shareAt, atB, e1, e3])
  · exact h.elim

/- impl.ShareAt -/
def Sp46 (lo : Nat) : Spec := fun g args η K => match g with | 89 => SOk args η K | 90 => SHasI args η K | _ => False
theorem Sp46_ok {lo : Nat} : Sound Try.prog lo (Sp46 lo) := by
  intro g args η K h
  unfold Sp46 at h
  split at h
  · exact f89_ok h
  · exact f90_ok h
  · exact h.elim
def D46 : Draws := fun id => match id with | 3 => ([0, 1, 0, 7, 15, 31, 0, 64, 0, 448, 960, 2047, 4095], [], [], [0, 1, 2, 3, 4, 5, 6, 7, 8, 9, 10, 11, 12]) | _ => ([], [], [], [])
theorem f46_ok {lo : Nat} {args : List AV} {η : List Blk} {K : AV → List Blk → Prop} (h : SShareAt args η K) : AF Try.prog lo 46 args η K := by
  unfold SShareAt at h
  split at h
  · obtain ⟨⟨⟨l, hr, hl⟩, ⟨ms, ha, hla⟩, ⟨ts, hb, hlb⟩, ⟨bs, hc, hlc⟩⟩, hK⟩ := h
    rename_i r _ _ _ _ i
    have d1 := hr.dec3
    have d2 := ha.dec
    have d3 := hb.dec
    have d4 := hc.dec
    have o1 : ok3 77 _ _ := ⟨l, hr, hl⟩
    have o2 : okI _ _ := ⟨ms, ha, hla⟩
    have o3 : okI _ _ := ⟨ts, hb, hlb⟩
    have o4 : okI _ _ := ⟨bs, hc, hlc⟩
    simp only [d1, d2, d3, d4] at hK
    have hr' := hr
    have ha' := ha
    have hb' := hb
    have hc' := hc
    obtain ⟨b0, v0, rfl, hb0⟩ := hr'
    obtain ⟨b1, v1, rfl, hb1⟩ := ha'
    obtain ⟨b2, v2, rfl, hb2⟩ := hb'
    obtain ⟨b3, v3, rfl, hb3⟩ := hc'
    refine AF_run Sp46_ok D46 [] [.tmp 4] hm Try.func46 rfl (by decide) Try.ntmps46 rfl (by kernel_rfl) (Nat.le_of_ble_eq_true rfl) ?_
    intro hlo
    cases e1 : okB r l ms ts bs
    · repeat' (first | with_reducible refine iteI (fun _ => ?_) (fun _ => ?_) | ((first | unfold AOpsC | unfold AOpsD | skip); simp (maxSteps := 1000000) (disch := (first | omega | assumption | (simp only [List.length_append, List.length_cons, List.length_nil, List.length_set]; omega))) only [st0, AC, ↓skipC, ↓exitC, ↓retC, ↓seqC, ↓blockC, ↓condC, ↓regC, ↓drawC, thenA, ↓drawStep, ↓AOpC, ↓AOpF, ↓AOpE, ↓AEff, ↓contE_at, ↓contC_at, ↓keepC_at, pv, ev, put, upd, dstOk, cv, cvc, binI, setB, Value.oneCell', EndA, resA, resA1, List.mapM_cons, List.mapM_nil, Option.pure_def, Option.bind_eq_bind, noLocV, noLoc1, noLoc, noLocs, plainV, cellsA, newVarA, putCells, condA, lam0, inBlockA, cur, lenA, rowA, avoidsB, avoidB, clearB, Array.toList_append, Op.operands, Call.operands, newSlot,
    ↓reduceIte, reduceCtorEq, Nat.reduceLT, Nat.reduceEqDiff, Nat.reduceAdd, Nat.reduceMul, Nat.reduceLeDiff, Nat.reduceSub, Nat.zero_add, Nat.add_zero, Nat.succ_ne_self, Nat.lt_add_one, Nat.zero_lt_succ, true_and, and_true, true_or, or_true, false_or, or_false, and_self, true_implies, forall_const, Bool.false_eq_true, Bool.true_eq_false, false_implies, implies_true, imp_self, ne_eq, not_false_eq_true, not_true_eq_false, false_and, and_false,
    List.getElem?_toArray, List.getElem?_cons_succ, List.getElem?_cons_zero, Option.bind_some, Option.map_some, Bool.not_true, Bool.not_false, List.getD_cons_zero, List.getD_cons_succ, Option.some.injEq, exists_eq_left', AV.bool.injEq, List.map_cons, List.map_nil, List.all_cons, List.all_nil, Bool.and_self, Bool.and_true, Bool.true_and, List.append_nil, List.cons_append, List.nil_append, List.length_cons, List.length_nil, List.drop_zero, List.take_zero, List.drop_succ_cons, List.take_succ_cons, List.take_nil, List.drop_nil, List.not_mem_nil, List.mem_cons, List.contains_nil, List.contains_cons, Nat.reduceBEq, Nat.reduceBNe, Nat.reduceBneDiff, Nat.reduceBeqDiff, Bool.or_self, Bool.or_true, Bool.true_or, Bool.false_or, Bool.or_false, Bool.and_false, Bool.false_and, KsS_same, KsS_grow, ag_24, ag_3, ag_36, ag_60, by_24, by_3, by_36, by_60, el_24, fi_60_0, fi_60_1, fi_60_2, in_3, nf_36, nf_60, pl_36, pl_60, ps_36, ps_60, sz_24, sz_3, sz_36, sz_60, ze_24, ze_3, ze_36, ze_60, Sp46, SOk, SHasI, D46, skipV, KsS_ext, rep1, rep2, rep3, rep4, rep5, List.flatten_cons, List.flatten_nil, ↓map_parts, partsA, isPtr, fillA, List.size_toArray, ltT, ltF, leT, leF, ltTn, ltFn, leTn, leFn, eqTi, eqFi, wrapId, toNat1, intGet, boolGet, memD, app_get, app_last, app_lst, app_set, app_setL, app_setF, set_ne, set_eq, gt_iff_lt, ge_iff_le, decide_eq_true_eq, len2, len3, get20, get21, drop2, put2, get30, get31, get32, drop3, put3, putI, pairEta, bneTi, bneFi, beqTi, beqFi, bne_eq_false_iff_eq, beq_eq_false_iff_ne, beq_iff_eq, bne_iff_ne, Int.toNat_natCast, Nat.mul_one, List.length_map, Bool.not_eq_true, Bool.not_eq_false, Bool.decide_eq_true, decide_true, decide_false, Bool.not_eq_true', Bool.not_eq_false', decide_eq_false_iff_not, eq_self, Decidable.not_not, hb0, hb1, hb2, hb3, d1, d2, d3, d4, o1, o2, o3, o4, e1]))
      exact KI hK (by simp [shareAt, atB, e1])
    obtain ⟨k1, k2, k3, k4, k5, k6, k7, k8⟩ := okT e1
    by_cases e2 : 0 ≤ i ∧ i < l.length
    · have e3 : inB i 0 ((l.length : Int) - 1) = true := by simp [inB]; omega
      have e3' : inB i 0 ((ms.length : Int) - 1) = true := by rw [k3]; exact e3
      obtain ⟨j, rfl⟩ : ∃ j : Nat, i = j := ⟨i.toNat, by omega⟩
      have m1 := cells_at k7 (i := j) (by omega)
      by_cases e4 : ms.getD j 0 = 0
      · repeat' (first | with_reducible refine iteI (fun _ => ?_) (fun _ => ?_) | ((first | unfold AOpsC | unfold AOpsD | skip); simp (maxSteps := 1000000) (disch := (first | omega | assumption | (simp only [List.length_append, List.length_cons, List.length_nil, List.length_set]; omega))) only [st0, AC, ↓skipC, ↓exitC, ↓retC, ↓seqC, ↓blockC, ↓condC, ↓regC, ↓drawC, thenA, ↓drawStep, ↓AOpC, ↓AOpF, ↓AOpE, ↓AEff, ↓contE_at, ↓contC_at, ↓keepC_at, pv, ev, put, upd, dstOk, cv, cvc, binI, setB, Value.oneCell', EndA, resA, resA1, List.mapM_cons, List.mapM_nil, Option.pure_def, Option.bind_eq_bind, noLocV, noLoc1, noLoc, noLocs, plainV, cellsA, newVarA, putCells, condA, lam0, inBlockA, cur, lenA, rowA, avoidsB, avoidB, clearB, Array.toList_append, Op.operands, Call.operands, newSlot,
    ↓reduceIte, reduceCtorEq, Nat.reduceLT, Nat.reduceEqDiff, Nat.reduceAdd, Nat.reduceMul, Nat.reduceLeDiff, Nat.reduceSub, Nat.zero_add, Nat.add_zero, Nat.succ_ne_self, Nat.lt_add_one, Nat.zero_lt_succ, true_and, and_true, true_or, or_true, false_or, or_false, and_self, true_implies, forall_const, Bool.false_eq_true, Bool.true_eq_false, false_implies, implies_true, imp_self, ne_eq, not_false_eq_true, not_true_eq_false, false_and, and_false,
    List.getElem?_toArray, List.getElem?_cons_succ, List.getElem?_cons_zero, Option.bind_some, Option.map_some, Bool.not_true, Bool.not_false, List.getD_cons_zero, List.getD_cons_succ, Option.some.injEq, exists_eq_left', AV.bool.injEq, List.map_cons, List.map_nil, List.all_cons, List.all_nil, Bool.and_self, Bool.and_true, Bool.true_and, List.append_nil, List.cons_append, List.nil_append, List.length_cons, List.length_nil, List.drop_zero, List.take_zero, List.drop_succ_cons, List.take_succ_cons, List.take_nil, List.drop_nil, List.not_mem_nil, List.mem_cons, List.contains_nil, List.contains_cons, Nat.reduceBEq, Nat.reduceBNe, Nat.reduceBneDiff, Nat.reduceBeqDiff, Bool.or_self, Bool.or_true, Bool.true_or, Bool.false_or, Bool.or_false, Bool.and_false, Bool.false_and, KsS_same, KsS_grow, ag_24, ag_3, ag_36, ag_60, by_24, by_3, by_36, by_60, el_24, fi_60_0, fi_60_1, fi_60_2, in_3, nf_36, nf_60, pl_36, pl_60, ps_36, ps_60, sz_24, sz_3, sz_36, sz_60, ze_24, ze_3, ze_36, ze_60, Sp46, SOk, SHasI, D46, skipV, KsS_ext, rep1, rep2, rep3, rep4, rep5, List.flatten_cons, List.flatten_nil, ↓map_parts, partsA, isPtr, fillA, List.size_toArray, ltT, ltF, leT, leF, ltTn, ltFn, leTn, leFn, eqTi, eqFi, wrapId, toNat1, intGet, boolGet, memD, app_get, app_last, app_lst, app_set, app_setL, app_setF, set_ne, set_eq, gt_iff_lt, ge_iff_le, decide_eq_true_eq, len2, len3, get20, get21, drop2, put2, get30, get31, get32, drop3, put3, putI, pairEta, bneTi, bneFi, beqTi, beqFi, bne_eq_false_iff_eq, beq_eq_false_iff_ne, beq_iff_eq, bne_iff_ne, Int.toNat_natCast, Nat.mul_one, List.length_map, Bool.not_eq_true, Bool.not_eq_false, Bool.decide_eq_true, decide_true, decide_false, Bool.not_eq_true', Bool.not_eq_false', decide_eq_false_iff_not, eq_self, Decidable.not_not, hb0, hb1, hb2, hb3, d1, d2, d3, d4, o1, o2, o3, o4, e1, e3, e3', e4]))
        exact KI hK (by rw [shareAt, if_neg (fun hh => hh.2 (by rw [Int.toNat_natCast]; exact e4))])
      · have q1 : 0 ≤ (1000 * ts.getD j 0).tdiv (ms.getD j 0) := Int.tdiv_nonneg (by omega) (by omega)
        have q2 : (1000 * ts.getD j 0).tdiv (ms.getD j 0) ≤ 1000 * ts.getD j 0 := Int.tdiv_le_self _ (by omega)
        repeat' (first | with_reducible refine iteI (fun _ => ?_) (fun _ => ?_) | ((first | unfold AOpsC | unfold AOpsD | skip); simp (maxSteps := 1000000) (disch := (first | omega | assumption | (simp only [List.length_append, List.length_cons, List.length_nil, List.length_set]; omega))) only [st0, AC, ↓skipC, ↓exitC, ↓retC, ↓seqC, ↓blockC, ↓condC, ↓regC, ↓drawC, thenA, ↓drawStep, ↓AOpC, ↓AOpF, ↓AOpE, ↓AEff, ↓contE_at, ↓contC_at, ↓keepC_at, pv, ev, put, upd, dstOk, cv, cvc, binI, setB, Value.oneCell', EndA, resA, resA1, List.mapM_cons, List.mapM_nil, Option.pure_def, Option.bind_eq_bind, noLocV, noLoc1, noLoc, noLocs, plainV, cellsA, newVarA, putCells, condA, lam0, inBlockA, cur, lenA, rowA, avoidsB, avoidB, clearB, Array.toList_append, Op.operands, Call.operands, newSlot,
    ↓reduceIte, reduceCtorEq, Nat.reduceLT, Nat.reduceEqDiff, Nat.reduceAdd, Nat.reduceMul, Nat.reduceLeDiff, Nat.reduceSub, Nat.zero_add, Nat.add_zero, Nat.succ_ne_self, Nat.lt_add_one, Nat.zero_lt_succ, true_and, and_true, true_or, or_true, false_or, or_false, and_self, true_implies, forall_const, Bool.false_eq_true, Bool.true_eq_false, false_implies, implies_true, imp_self, ne_eq, not_false_eq_true, not_true_eq_false, false_and, and_false,
    List.getElem?_toArray, List.getElem?_cons_succ, List.getElem?_cons_zero, Option.bind_some, Option.map_some, Bool.not_true, Bool.not_false, List.getD_cons_zero, List.getD_cons_succ, Option.some.injEq, exists_eq_left', AV.bool.injEq, List.map_cons, List.map_nil, List.all_cons, List.all_nil, Bool.and_self, Bool.and_true, Bool.true_and, List.append_nil, List.cons_append, List.nil_append, List.length_cons, List.length_nil, List.drop_zero, List.take_zero, List.drop_succ_cons, List.take_succ_cons, List.take_nil, List.drop_nil, List.not_mem_nil, List.mem_cons, List.contains_nil, List.contains_cons, Nat.reduceBEq, Nat.reduceBNe, Nat.reduceBneDiff, Nat.reduceBeqDiff, Bool.or_self, Bool.or_true, Bool.true_or, Bool.false_or, Bool.or_false, Bool.and_false, Bool.false_and, KsS_same, KsS_grow, ag_24, ag_3, ag_36, ag_60, by_24, by_3, by_36, by_60, el_24, fi_60_0, fi_60_1, fi_60_2, in_3, nf_36, nf_60, pl_36, pl_60, ps_36, ps_60, sz_24, sz_3, sz_36, sz_60, ze_24, ze_3, ze_36, ze_60, Sp46, SOk, SHasI, D46, skipV, KsS_ext, rep1, rep2, rep3, rep4, rep5, List.flatten_cons, List.flatten_nil, ↓map_parts, partsA, isPtr, fillA, List.size_toArray, ltT, ltF, leT, leF, ltTn, ltFn, leTn, leFn, eqTi, eqFi, wrapId, toNat1, intGet, boolGet, memD, app_get, app_last, app_lst, app_set, app_setL, app_setF, set_ne, set_eq, gt_iff_lt, ge_iff_le, decide_eq_true_eq, len2, len3, get20, get21, drop2, put2, get30, get31, get32, drop3, put3, putI, pairEta, bneTi, bneFi, beqTi, beqFi, bne_eq_false_iff_eq, beq_eq_false_iff_ne, beq_iff_eq, bne_iff_ne, Int.toNat_natCast, Nat.mul_one, List.length_map, Bool.not_eq_true, Bool.not_eq_false, Bool.decide_eq_true, decide_true, decide_false, Bool.not_eq_true', Bool.not_eq_false', decide_eq_false_iff_not, eq_self, Decidable.not_not, hb0, hb1, hb2, hb3, d1, d2, d3, d4, o1, o2, o3, o4, e1, e3, e3', e4]))
        exact KI hK (by rw [shareAt, Int.toNat_natCast, if_pos ⟨by simp [atB, e1, e3], e4⟩])
    · have e3 : inB i 0 ((l.length : Int) - 1) = false := by simp [inB]; omega
      have e3' : inB i 0 ((ms.length : Int) - 1) = false := by rw [k3]; exact e3
      repeat' (first | with_reducible refine iteI (fun _ => ?_) (fun _ => ?_) | ((first | unfold AOpsC | unfold AOpsD | skip); simp (maxSteps := 1000000) (disch := (first | omega | assumption | (simp only [List.length_append, List.length_cons, List.length_nil, List.length_set]; omega))) only [st0, AC, ↓skipC, ↓exitC, ↓retC, ↓seqC, ↓blockC, ↓condC, ↓regC, ↓drawC, thenA, ↓drawStep, ↓AOpC, ↓AOpF, ↓AOpE, ↓AEff, ↓contE_at, ↓contC_at, ↓keepC_at, pv, ev, put, upd, dstOk, cv, cvc, binI, setB, Value.oneCell', EndA, resA, resA1, List.mapM_cons, List.mapM_nil, Option.pure_def, Option.bind_eq_bind, noLocV, noLoc1, noLoc, noLocs, plainV, cellsA, newVarA, putCells, condA, lam0, inBlockA, cur, lenA, rowA, avoidsB, avoidB, clearB, Array.toList_append, Op.operands, Call.operands, newSlot,
    ↓reduceIte, reduceCtorEq, Nat.reduceLT, Nat.reduceEqDiff, Nat.reduceAdd, Nat.reduceMul, Nat.reduceLeDiff, Nat.reduceSub, Nat.zero_add, Nat.add_zero, Nat.succ_ne_self, Nat.lt_add_one, Nat.zero_lt_succ, true_and, and_true, true_or, or_true, false_or, or_false, and_self, true_implies, forall_const, Bool.false_eq_true, Bool.true_eq_false, false_implies, implies_true, imp_self, ne_eq, not_false_eq_true, not_true_eq_false, false_and, and_false,
    List.getElem?_toArray, List.getElem?_cons_succ, List.getElem?_cons_zero, Option.bind_some, Option.map_some, Bool.not_true, Bool.not_false, List.getD_cons_zero, List.getD_cons_succ, Option.some.injEq, exists_eq_left', AV.bool.injEq, List.map_cons, List.map_nil, List.all_cons, List.all_nil, Bool.and_self, Bool.and_true, Bool.true_and, List.append_nil, List.cons_append, List.nil_append, List.length_cons, List.length_nil, List.drop_zero, List.take_zero, List.drop_succ_cons, List.take_succ_cons, List.take_nil, List.drop_nil, List.not_mem_nil, List.mem_cons, List.contains_nil, List.contains_cons, Nat.reduceBEq, Nat.reduceBNe, Nat.reduceBneDiff, Nat.reduceBeqDiff, Bool.or_self, Bool.or_true, Bool.true_or, Bool.false_or, Bool.or_false, Bool.and_false, Bool.false_and, KsS_same, KsS_grow, ag_24, ag_3, ag_36, ag_60, by_24, by_3, by_36, by_60, el_24, fi_60_0, fi_60_1, fi_60_2, in_3, nf_36, nf_60, pl_36, pl_60, ps_36, ps_60, sz_24, sz_3, sz_36, sz_60, ze_24, ze_3, ze_36, ze_60, Sp46, SOk, SHasI, D46, skipV, KsS_ext, rep1, rep2, rep3, rep4, rep5, List.flatten_cons, List.flatten_nil, ↓map_parts, partsA, isPtr, fillA, List.size_toArray, ltT, ltF, leT, leF, ltTn, ltFn, leTn, leFn, eqTi, eqFi, wrapId, toNat1, intGet, boolGet, memD, app_get, app_last, app_lst, app_set, app_setL, app_setF, set_ne, set_eq, gt_iff_lt, ge_iff_le, decide_eq_true_eq, len2, len3, get20, get21, drop2, put2, get30, get31, get32, drop3, put3, putI, pairEta, bneTi, bneFi, beqTi, beqFi, bne_eq_false_iff_eq, beq_eq_false_iff_ne, beq_iff_eq, bne_iff_ne, Int.toNat_natCast, Nat.mul_one, List.length_map, Bool.not_eq_true, Bool.not_eq_false, Bool.decide_eq_true, decide_true, decide_false, Bool.not_eq_true', Bool.not_eq_false', decide_eq_false_iff_not, eq_self, Decidable.not_not, hb0, hb1, hb2, hb3, d1, d2, d3, d4, o1, o2, o3, o4, e1, e3, e3']))
      exact KI hK (by simp [shareAt, atB, e1, e3])
  · exact h.elim

end Go.Proofs.Ytdcecoddecghdaa
