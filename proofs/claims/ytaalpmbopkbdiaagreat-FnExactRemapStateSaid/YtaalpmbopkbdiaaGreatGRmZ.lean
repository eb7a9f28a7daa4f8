/- What functions of the program compute, said in the abstract logic; no conditions. -/
import Derived.Test.YtaalpmbopkbdiaaGreatGResS
import Derived.Test.YtaalpmbopkbdiaaGreatGIds

namespace Go.Proofs.YtaalpmbopkbdiaaGreat
open Go
set_option linter.unusedSimpArgs false
set_option linter.unusedVariables false
set_option maxRecDepth 100000
set_option maxHeartbeats 8000000
attribute [local go_sem] st0 AC thenA andC locLoadB KsSW_same KsSW_grow oldLoadB noBlkB KsSL_same KsOS_same KsOS_grow pv ev put upd dstOk cv cvc binI setB Value.oneCell' EndA resA resA1 List.mapM_cons List.mapM_nil Option.pure_def Option.bind_eq_bind noLocV noLoc1 noLoc noLocs plainV cellsA newVarA putCells condA lam0 inBlockA cur lenA rowA writeA dstA appendC appendZ mapPut mapGet avoidsB avoidB clearB Array.toList_append Op.operands Call.operands newSlot Nat.zero_add Nat.add_zero Nat.succ_ne_self Nat.lt_add_one Nat.zero_lt_succ true_and and_true true_or or_true false_or or_false and_self true_implies forall_const Bool.false_eq_true Bool.true_eq_false false_implies implies_true imp_self ne_eq not_false_eq_true not_true_eq_false false_and and_false List.getElem?_toArray List.getElem?_cons_succ List.getElem?_cons_zero Option.bind_some Option.map_some Bool.not_true Bool.not_false List.getD_cons_zero List.getD_cons_succ Option.some.injEq exists_eq_left' AV.bool.injEq List.map_cons List.map_nil List.all_cons List.all_nil Bool.and_self Bool.and_true Bool.true_and List.append_nil List.cons_append List.nil_append List.length_cons List.length_nil List.drop_zero List.take_zero List.drop_succ_cons List.take_succ_cons List.take_nil List.drop_nil List.not_mem_nil List.mem_cons List.contains_nil List.contains_cons Bool.or_self Bool.or_true Bool.true_or Bool.false_or Bool.or_false Bool.and_false Bool.false_and KsS_same KsS_grow skipV KsS_ext KsSW_ext KsOS_ext rep1 rep2 rep3 rep4 rep5 List.flatten_cons List.flatten_nil partsA isPtr fillA List.size_toArray ltT ltF leT leF ltTn ltFn leTn leFn eqTi eqFi wrapId toNat1 intGet boolGet memD app_get app_last app_lst app_set app_setL app_setF set_ne set_eq gt_iff_lt ge_iff_le decide_eq_true_eq len2 len3 get20 get21 drop2 put2 get30 get31 get32 drop3 put3 putI pairEta bneTi bneFi beqTi beqFi bne_eq_false_iff_eq beq_eq_false_iff_ne beq_iff_eq bne_iff_ne Int.toNat_natCast Nat.mul_one List.length_map Bool.not_eq_true Bool.not_eq_false Bool.decide_eq_true decide_true decide_false Bool.not_eq_true' Bool.not_eq_false' decide_eq_false_iff_not eq_self Decidable.not_not
attribute [local go_sem ↓] skipC exitC retC seqC blockC condC regC drawC drawStep AOpC AOpF AOpE AEff contE_at contC_at keepC_at keepW_at keepO_at keepL_at map_parts
attribute [local go_sem] reduceCtorEq Nat.reduceLT Nat.reduceEqDiff Nat.reduceAdd Nat.reduceMul Nat.reduceLeDiff Nat.reduceSub Nat.reduceBEq Nat.reduceBNe Nat.reduceBneDiff Nat.reduceBeqDiff
attribute [local go_sem ↓] reduceIte
attribute [local go_sem] ag_25 ag_3 ag_30 ag_32 ag_34 ag_69 by_25 by_3 by_30 by_32 by_34 by_69 el_25 el_30 en_3 fi_32_0 fi_32_1 fi_34_0 fi_34_1 fi_34_2 fi_34_3 fi_69_0 fi_69_1 fi_69_2 in_3 nf_32 nf_34 nf_69 pl_32 pl_34 pl_69 ps_32 ps_34 ps_69 sz_25 sz_3 sz_30 sz_32 sz_34 sz_69 ze_25 ze_3 ze_30 ze_32 ze_34 ze_69

def SZ2 : List AV → List Blk → (AV → List Blk → Prop) → Prop
  | [.nils, .nils], η, K => K (.bool true) η
  | _, _, _ => False
def SZq : List AV → List Blk → (AV → List Blk → Prop) → Prop
  | [.nils, .int .i64 q], η, K => K (.int .i64 q) η
  | _, _, _ => False
def SZM2 : List AV → List Blk → (AV → List Blk → Prop) → Prop
  | [.agg [.int .i64 0, .nils], .agg [.int .i64 0, .nils]], η, K => K (.bool true) η
  | _, _, _ => False
def SZMq : List AV → List Blk → (AV → List Blk → Prop) → Prop
  | [.agg [.int .i64 0, .nils], .int .i64 q], η, K => 0 ≤ q ∧ K (.int .i64 q) η
  | _, _, _ => False
def SZS2 : List AV → List Blk → (AV → List Blk → Prop) → Prop
  | [.agg [.int .i64 0, .nils, .nils, .nils, .nils], .agg [.int .i64 0, .nils, .nils, .nils, .nils]], η, K => K (.bool true) η
  | _, _, _ => False
def SZSq : List AV → List Blk → (AV → List Blk → Prop) → Prop
  | [.agg [.int .i64 0, .nils, .nils, .nils, .nils], .int .i64 q], η, K => 0 ≤ q ∧ K (.int .i64 q) η
  | _, _, _ => False

def invZ0 (η : List Blk) (st : St) : Prop := ∃ i : Nat, (i = 0) ∧ st.n = 26 ∧ st.τ 0 = .nils ∧ st.τ 1 = .nils ∧ st.τ 5 = .int .i64 i ∧ st.lam = lam0 ∧ st.η = η

/- laws.eqIntS -/
def Dr46Z : Draws := fun id => match id with | 6 => ([0, 0, 3, 7, 0, 0, 48, 112, 255], [], [], (.one 0 (.one 1 (.one 2 (.one 3 (.one 4 (.one 5 (.one 6 (.one 7 (.one 8 .nil)))))))))) | _ => ([], [], [], .nil)
theorem f46Z_ok {lo : Nat} {args : List AV} {η : List Blk} {K : AV → List Blk → Prop} (h : SZ2 args η K) : AF Tryz.prog lo 46 args η K := by
  unfold SZ2 at h
  split at h
  · refine AF_run noSp_ok Dr46Z [] [.tmp 4] hm Tryz.func46 rfl (by decide) Tryz.ntmps46 rfl (by kernel_rfl) (Nat.le_of_ble_eq_true rfl) ?_; intro hlo
    repeat' (first | with_reducible refine iteI (fun _ => ?_) (fun _ => ?_) | ((first | unfold AOpsC | unfold AOpsD | skip); simp (maxSteps := 1000000) (disch := (first | omega | assumption | (simp only [List.length_append, List.length_cons, List.length_nil, List.length_set]; omega))) only [go_sem, Dr46Z]))
    refine ⟨invZ0 η, fun st => ctr 0 st 5, .inl ⟨0, rfl, rfl, (by first | (simp [upd]; done) | (simp [upd, *]; done) | rfl), (by first | (simp [upd]; done) | (simp [upd, *]; done) | rfl), (by first | (simp [upd]; done) | (simp [upd, *]; done) | rfl), rfl, rfl⟩, ?_⟩
    rintro ⟨n, τ, lam, η'⟩ ⟨i, g0, hn, t0, t1, t5, hlam, hη⟩; simp only at hn t0 t1 t5 hlam hη; subst hn hlam hη
    subst g0
    repeat' (first | with_reducible refine iteI (fun _ => ?_) (fun _ => ?_) | ((first | unfold AOpsC | unfold AOpsD | skip); simp (maxSteps := 1000000) (disch := (first | omega | assumption | (simp only [List.length_append, List.length_cons, List.length_nil, List.length_set]; omega))) only [go_sem, Dr46Z, t0, t1, t5]))
    exact h
  · exact h.elim

def invZ1 (η : List Blk) (st : St) : Prop := ∃ i : Nat, (i = 0) ∧ st.n = 27 ∧ st.τ 0 = .nils ∧ st.τ 1 = .nils ∧ st.τ 5 = .int .i64 i ∧ st.lam = lam0 ∧ st.η = η

/- laws.eqIdS -/
def Sp47Z (lo : Nat) : Spec := fun g args η K => match g with | 85 => SEq1Id args η K | _ => False
theorem Sp47Z_ok {lo : Nat} : Sound Tryz.prog lo (Sp47Z lo) := by
  intro g args η K h
  unfold Sp47Z at h
  split at h
  · exact .inl (f85_ok h)
  · exact h.elim
def Dr47Z : Draws := fun id => match id with | 6 => ([0, 0, 3, 7, 0, 0, 48, 112, 255, 511], [], [], (.one 0 (.one 1 (.one 2 (.one 3 (.one 4 (.one 5 (.one 6 (.one 7 (.one 8 (.one 9 .nil))))))))))) | _ => ([], [], [], .nil)
theorem f47Z_ok {lo : Nat} {args : List AV} {η : List Blk} {K : AV → List Blk → Prop} (h : SZ2 args η K) : AF Tryz.prog lo 47 args η K := by
  unfold SZ2 at h
  split at h
  · refine AF_run Sp47Z_ok Dr47Z [] [.tmp 4] hm Tryz.func47 rfl (by decide) Tryz.ntmps47 rfl (by kernel_rfl) (Nat.le_of_ble_eq_true rfl) ?_; intro hlo
    repeat' (first | with_reducible refine iteI (fun _ => ?_) (fun _ => ?_) | ((first | unfold AOpsC | unfold AOpsD | skip); simp (maxSteps := 1000000) (disch := (first | omega | assumption | (simp only [List.length_append, List.length_cons, List.length_nil, List.length_set]; omega))) only [go_sem, Sp47Z, SEq1Id, Dr47Z]))
    refine ⟨invZ1 η, fun st => ctr 0 st 5, .inl ⟨0, rfl, rfl, (by first | (simp [upd]; done) | (simp [upd, *]; done) | rfl), (by first | (simp [upd]; done) | (simp [upd, *]; done) | rfl), (by first | (simp [upd]; done) | (simp [upd, *]; done) | rfl), rfl, rfl⟩, ?_⟩
    rintro ⟨n, τ, lam, η'⟩ ⟨i, g0, hn, t0, t1, t5, hlam, hη⟩; simp only at hn t0 t1 t5 hlam hη; subst hn hlam hη
    subst g0
    repeat' (first | with_reducible refine iteI (fun _ => ?_) (fun _ => ?_) | ((first | unfold AOpsC | unfold AOpsD | skip); simp (maxSteps := 1000000) (disch := (first | omega | assumption | (simp only [List.length_append, List.length_cons, List.length_nil, List.length_set]; omega))) only [go_sem, Sp47Z, SEq1Id, Dr47Z, t0, t1, t5]))
    exact h
  · exact h.elim

def invZ2 (η : List Blk) (q : Int) (st : St) : Prop := ∃ i : Nat, (i = 0) ∧ st.n = 19 ∧ st.τ 0 = .nils ∧ st.τ 1 = .int .i64 q ∧ st.τ 5 = .int .i64 i ∧ st.lam = lam0 ∧ st.η = η

/- laws.markIntS -/
theorem f48Z_ok {lo : Nat} {args : List AV} {η : List Blk} {K : AV → List Blk → Prop} (h : SZq args η K) : AF Tryz.prog lo 48 args η K := by
  unfold SZq at h
  split at h
  · rename_i q
    refine AF_run noSp_ok D0 [] [.tmp 4] hm Tryz.func48 rfl (by decide) Tryz.ntmps48 rfl (by kernel_rfl) (Nat.le_of_ble_eq_true rfl) ?_; intro hlo
    repeat' (first | with_reducible refine iteI (fun _ => ?_) (fun _ => ?_) | ((first | unfold AOpsC | unfold AOpsD | skip); simp (maxSteps := 1000000) (disch := (first | omega | assumption | (simp only [List.length_append, List.length_cons, List.length_nil, List.length_set]; omega))) only [go_sem, AOpsD]))
    refine ⟨invZ2 η q, fun st => ctr 0 st 5, .inl ⟨0, rfl, rfl, (by first | (simp [upd]; done) | (simp [upd, *]; done) | rfl), (by first | (simp [upd]; done) | (simp [upd, *]; done) | rfl), (by first | (simp [upd]; done) | (simp [upd, *]; done) | rfl), rfl, rfl⟩, ?_⟩
    rintro ⟨n, τ, lam, η'⟩ ⟨i, g0, hn, t0, t1, t5, hlam, hη⟩; simp only at hn t0 t1 t5 hlam hη; subst hn hlam hη
    subst g0
    repeat' (first | with_reducible refine iteI (fun _ => ?_) (fun _ => ?_) | ((first | unfold AOpsC | unfold AOpsD | skip); simp (maxSteps := 1000000) (disch := (first | omega | assumption | (simp only [List.length_append, List.length_cons, List.length_nil, List.length_set]; omega))) only [go_sem, AOpsD, t0, t1, t5]))
    exact h
  · exact h.elim

def invZ3 (η : List Blk) (q : Int) (st : St) : Prop := ∃ i : Nat, (i = 0) ∧ st.n = 34 ∧ st.τ 0 = .nils ∧ st.τ 1 = .int .i64 q ∧ st.τ 5 = .int .i64 i ∧ st.lam = lam0 ∧ st.η = η

/- laws.markIdS -/
theorem f49Z_ok {lo : Nat} {args : List AV} {η : List Blk} {K : AV → List Blk → Prop} (h : SZq args η K) : AF Tryz.prog lo 49 args η K := by
  unfold SZq at h
  split at h
  · rename_i q
    refine AF_run noSp_ok D0 [] [.tmp 4] hm Tryz.func49 rfl (by decide) Tryz.ntmps49 rfl (by kernel_rfl) (Nat.le_of_ble_eq_true rfl) ?_; intro hlo
    repeat' (first | with_reducible refine iteI (fun _ => ?_) (fun _ => ?_) | ((first | unfold AOpsC | unfold AOpsD | skip); simp (maxSteps := 1000000) (disch := (first | omega | assumption | (simp only [List.length_append, List.length_cons, List.length_nil, List.length_set]; omega))) only [go_sem, AOpsD]))
    refine ⟨invZ3 η q, fun st => ctr 0 st 5, .inl ⟨0, rfl, rfl, (by first | (simp [upd]; done) | (simp [upd, *]; done) | rfl), (by first | (simp [upd]; done) | (simp [upd, *]; done) | rfl), (by first | (simp [upd]; done) | (simp [upd, *]; done) | rfl), rfl, rfl⟩, ?_⟩
    rintro ⟨n, τ, lam, η'⟩ ⟨i, g0, hn, t0, t1, t5, hlam, hη⟩; simp only at hn t0 t1 t5 hlam hη; subst hn hlam hη
    subst g0
    repeat' (first | with_reducible refine iteI (fun _ => ?_) (fun _ => ?_) | ((first | unfold AOpsC | unfold AOpsD | skip); simp (maxSteps := 1000000) (disch := (first | omega | assumption | (simp only [List.length_append, List.length_cons, List.length_nil, List.length_set]; omega))) only [go_sem, AOpsD, t0, t1, t5]))
    exact h
  · exact h.elim

def invZ4 (η : List Blk) (q : Int) (st : St) : Prop := ∃ i : Nat, (i = 0) ∧ st.n = 21 ∧ st.τ 0 = .nils ∧ st.τ 1 = .int .i64 q ∧ st.τ 5 = .int .i64 i ∧ st.lam = lam0 ∧ st.η = η

/- laws.heldIntS -/
theorem f51Z_ok {lo : Nat} {args : List AV} {η : List Blk} {K : AV → List Blk → Prop} (h : SZq args η K) : AF Tryz.prog lo 51 args η K := by
  unfold SZq at h
  split at h
  · rename_i q
    refine AF_run noSp_ok D0 [] [.tmp 4] hm Tryz.func51 rfl (by decide) Tryz.ntmps51 rfl (by kernel_rfl) (Nat.le_of_ble_eq_true rfl) ?_; intro hlo
    repeat' (first | with_reducible refine iteI (fun _ => ?_) (fun _ => ?_) | ((first | unfold AOpsC | unfold AOpsD | skip); simp (maxSteps := 1000000) (disch := (first | omega | assumption | (simp only [List.length_append, List.length_cons, List.length_nil, List.length_set]; omega))) only [go_sem, AOpsD]))
    refine ⟨invZ4 η q, fun st => ctr 0 st 5, .inl ⟨0, rfl, rfl, (by first | (simp [upd]; done) | (simp [upd, *]; done) | rfl), (by first | (simp [upd]; done) | (simp [upd, *]; done) | rfl), (by first | (simp [upd]; done) | (simp [upd, *]; done) | rfl), rfl, rfl⟩, ?_⟩
    rintro ⟨n, τ, lam, η'⟩ ⟨i, g0, hn, t0, t1, t5, hlam, hη⟩; simp only at hn t0 t1 t5 hlam hη; subst hn hlam hη
    subst g0
    repeat' (first | with_reducible refine iteI (fun _ => ?_) (fun _ => ?_) | ((first | unfold AOpsC | unfold AOpsD | skip); simp (maxSteps := 1000000) (disch := (first | omega | assumption | (simp only [List.length_append, List.length_cons, List.length_nil, List.length_set]; omega))) only [go_sem, AOpsD, t0, t1, t5]))
    exact h
  · exact h.elim

def invZ5 (η : List Blk) (q : Int) (st : St) : Prop := ∃ i : Nat, (i = 0) ∧ st.n = 40 ∧ st.τ 0 = .nils ∧ st.τ 1 = .int .i64 q ∧ st.τ 5 = .int .i64 i ∧ st.lam = lam0 ∧ st.η = η

/- laws.heldIdS -/
theorem f86Z_ok {lo : Nat} {args : List AV} {η : List Blk} {K : AV → List Blk → Prop} (h : SZq args η K) : AF Tryz.prog lo 86 args η K := by
  unfold SZq at h
  split at h
  · rename_i q
    refine AF_run noSp_ok D0 [] [.tmp 4] hm Tryz.func86 rfl (by decide) Tryz.ntmps86 rfl (by kernel_rfl) (Nat.le_of_ble_eq_true rfl) ?_; intro hlo
    repeat' (first | with_reducible refine iteI (fun _ => ?_) (fun _ => ?_) | ((first | unfold AOpsC | unfold AOpsD | skip); simp (maxSteps := 1000000) (disch := (first | omega | assumption | (simp only [List.length_append, List.length_cons, List.length_nil, List.length_set]; omega))) only [go_sem, AOpsD]))
    refine ⟨invZ5 η q, fun st => ctr 0 st 5, .inl ⟨0, rfl, rfl, (by first | (simp [upd]; done) | (simp [upd, *]; done) | rfl), (by first | (simp [upd]; done) | (simp [upd, *]; done) | rfl), (by first | (simp [upd]; done) | (simp [upd, *]; done) | rfl), rfl, rfl⟩, ?_⟩
    rintro ⟨n, τ, lam, η'⟩ ⟨i, g0, hn, t0, t1, t5, hlam, hη⟩; simp only at hn t0 t1 t5 hlam hη; subst hn hlam hη
    subst g0
    repeat' (first | with_reducible refine iteI (fun _ => ?_) (fun _ => ?_) | ((first | unfold AOpsC | unfold AOpsD | skip); simp (maxSteps := 1000000) (disch := (first | omega | assumption | (simp only [List.length_append, List.length_cons, List.length_nil, List.length_set]; omega))) only [go_sem, AOpsD, t0, t1, t5]))
    exact h
  · exact h.elim

/- laws.eqMesh -/
def Sp14Z (lo : Nat) : Spec := fun g args η K => match g with | 47 => SZ2 args η K | _ => False
theorem Sp14Z_ok {lo : Nat} : Sound Tryz.prog lo (Sp14Z lo) := by
  intro g args η K h
  unfold Sp14Z at h
  split at h
  · exact .inl (f47Z_ok h)
  · exact h.elim
theorem f14Z_ok {lo : Nat} {args : List AV} {η : List Blk} {K : AV → List Blk → Prop} (h : SZM2 args η K) : AF Tryz.prog lo 14 args η K := by
  unfold SZM2 at h
  split at h
  · refine AF_run Sp14Z_ok D0 [] [.tmp 4] hm Tryz.func14 rfl (by decide) Tryz.ntmps14 rfl (by kernel_rfl) (Nat.le_of_ble_eq_true rfl) ?_; intro hlo
    repeat' (first | with_reducible refine iteI (fun _ => ?_) (fun _ => ?_) | ((first | unfold AOpsC | unfold AOpsD | skip); simp (maxSteps := 1000000) (disch := (first | omega | assumption | (simp only [List.length_append, List.length_cons, List.length_nil, List.length_set]; omega))) only [go_sem, Sp14Z, SZ2]))
    exact h
  · exact h.elim

/- laws.eqState -/
def Sp13Z (lo : Nat) : Spec := fun g args η K => match g with | 14 => SZM2 args η K | 46 => SZ2 args η K | _ => False
theorem Sp13Z_ok {lo : Nat} : Sound Tryz.prog lo (Sp13Z lo) := by
  intro g args η K h
  unfold Sp13Z at h
  split at h
  · exact .inl (f14Z_ok h)
  · exact .inl (f46Z_ok h)
  · exact h.elim
theorem f13Z_ok {lo : Nat} {args : List AV} {η : List Blk} {K : AV → List Blk → Prop} (h : SZS2 args η K) : AF Tryz.prog lo 13 args η K := by
  unfold SZS2 at h
  split at h
  · refine AF_run Sp13Z_ok D0 [] [.tmp 4] hm Tryz.func13 rfl (by decide) Tryz.ntmps13 rfl (by kernel_rfl) (Nat.le_of_ble_eq_true rfl) ?_; intro hlo
    repeat' (first | with_reducible refine iteI (fun _ => ?_) (fun _ => ?_) | ((first | unfold AOpsC | unfold AOpsD | skip); simp (maxSteps := 1000000) (disch := (first | omega | assumption | (simp only [List.length_append, List.length_cons, List.length_nil, List.length_set]; omega))) only [go_sem, Sp13Z, SZM2, SZ2]))
    exact h
  · exact h.elim

/- laws.markMesh -/
def Sp16Z (lo : Nat) : Spec := fun g args η K => match g with | 49 => SZq args η K | _ => False
theorem Sp16Z_ok {lo : Nat} : Sound Tryz.prog lo (Sp16Z lo) := by
  intro g args η K h
  unfold Sp16Z at h
  split at h
  · exact .inl (f49Z_ok h)
  · exact h.elim
theorem f16Z_ok {lo : Nat} {args : List AV} {η : List Blk} {K : AV → List Blk → Prop} (h : SZMq args η K) : AF Tryz.prog lo 16 args η K := by
  unfold SZMq at h
  split at h
  · rename_i q
    obtain ⟨h0, h⟩ := h
    have h1 : ¬ q < 0 := by omega
    refine AF_run Sp16Z_ok D0 [] [.tmp 4] hm Tryz.func16 rfl (by decide) Tryz.ntmps16 rfl (by kernel_rfl) (Nat.le_of_ble_eq_true rfl) ?_; intro hlo
    repeat' (first | with_reducible refine iteI (fun _ => ?_) (fun _ => ?_) | ((first | unfold AOpsC | unfold AOpsD | skip); simp (maxSteps := 1000000) (disch := (first | omega | assumption | (simp only [List.length_append, List.length_cons, List.length_nil, List.length_set]; omega))) only [go_sem, Sp16Z, SZq, h0, h1]))
    exact h
  · exact h.elim

/- laws.heldMesh -/
def Sp50Z (lo : Nat) : Spec := fun g args η K => match g with | 86 => SZq args η K | _ => False
theorem Sp50Z_ok {lo : Nat} : Sound Tryz.prog lo (Sp50Z lo) := by
  intro g args η K h
  unfold Sp50Z at h
  split at h
  · exact .inl (f86Z_ok h)
  · exact h.elim
theorem f50Z_ok {lo : Nat} {args : List AV} {η : List Blk} {K : AV → List Blk → Prop} (h : SZMq args η K) : AF Tryz.prog lo 50 args η K := by
  unfold SZMq at h
  split at h
  · rename_i q
    obtain ⟨h0, h⟩ := h
    have h1 : ¬ q < 0 := by omega
    refine AF_run Sp50Z_ok D0 [] [.tmp 4] hm Tryz.func50 rfl (by decide) Tryz.ntmps50 rfl (by kernel_rfl) (Nat.le_of_ble_eq_true rfl) ?_; intro hlo
    repeat' (first | with_reducible refine iteI (fun _ => ?_) (fun _ => ?_) | ((first | unfold AOpsC | unfold AOpsD | skip); simp (maxSteps := 1000000) (disch := (first | omega | assumption | (simp only [List.length_append, List.length_cons, List.length_nil, List.length_set]; omega))) only [go_sem, Sp50Z, SZq, h0, h1]))
    exact h
  · exact h.elim

/- laws.markState -/
def Sp15Z (lo : Nat) : Spec := fun g args η K => match g with | 16 => SZMq args η K | 48 => SZq args η K | _ => False
theorem Sp15Z_ok {lo : Nat} : Sound Tryz.prog lo (Sp15Z lo) := by
  intro g args η K h
  unfold Sp15Z at h
  split at h
  · exact .inl (f16Z_ok h)
  · exact .inl (f48Z_ok h)
  · exact h.elim
theorem f15Z_ok {lo : Nat} {args : List AV} {η : List Blk} {K : AV → List Blk → Prop} (h : SZSq args η K) : AF Tryz.prog lo 15 args η K := by
  unfold SZSq at h
  split at h
  · rename_i q
    obtain ⟨h0, h⟩ := h
    have h1 : ¬ q < 0 := by omega
    refine AF_run Sp15Z_ok D0 [] [.tmp 4] hm Tryz.func15 rfl (by decide) Tryz.ntmps15 rfl (by kernel_rfl) (Nat.le_of_ble_eq_true rfl) ?_; intro hlo
    repeat' (first | with_reducible refine iteI (fun _ => ?_) (fun _ => ?_) | ((first | unfold AOpsC | unfold AOpsD | skip); simp (maxSteps := 1000000) (disch := (first | omega | assumption | (simp only [List.length_append, List.length_cons, List.length_nil, List.length_set]; omega))) only [go_sem, Sp15Z, SZMq, SZq, h0, h1]))
    exact h
  · exact h.elim

/- laws.heldState -/
def Sp17Z (lo : Nat) : Spec := fun g args η K => match g with | 50 => SZMq args η K | 51 => SZq args η K | _ => False
theorem Sp17Z_ok {lo : Nat} : Sound Tryz.prog lo (Sp17Z lo) := by
  intro g args η K h
  unfold Sp17Z at h
  split at h
  · exact .inl (f50Z_ok h)
  · exact .inl (f51Z_ok h)
  · exact h.elim
theorem f17Z_ok {lo : Nat} {args : List AV} {η : List Blk} {K : AV → List Blk → Prop} (h : SZSq args η K) : AF Tryz.prog lo 17 args η K := by
  unfold SZSq at h
  split at h
  · rename_i q
    obtain ⟨h0, h⟩ := h
    have h1 : ¬ q < 0 := by omega
    refine AF_run Sp17Z_ok D0 [] [.tmp 4] hm Tryz.func17 rfl (by decide) Tryz.ntmps17 rfl (by kernel_rfl) (Nat.le_of_ble_eq_true rfl) ?_; intro hlo
    repeat' (first | with_reducible refine iteI (fun _ => ?_) (fun _ => ?_) | ((first | unfold AOpsC | unfold AOpsD | skip); simp (maxSteps := 1000000) (disch := (first | omega | assumption | (simp only [List.length_append, List.length_cons, List.length_nil, List.length_set]; omega))) only [go_sem, Sp17Z, SZMq, SZq, h0, h1]))
    exact h
  · exact h.elim

def SEqSU : List AV → List Blk → (AV → List Blk → Prop) → Prop := fun args η K => SEqState args η K ∨ SZS2 args η K
theorem eqSU_ok {lo : Nat} {args : List AV} {η : List Blk} {K : AV → List Blk → Prop} (h : SEqSU args η K) : AF Tryz.prog lo 13 args η K := h.elim f13_ok f13Z_ok
def SMarkSU (lo : Nat) : List AV → List Blk → (AV → List Blk → Prop) → Prop := fun args η K => SMarkSt lo args η K ∨ SZSq args η K
theorem markSU_ok {lo : Nat} {args : List AV} {η : List Blk} {K : AV → List Blk → Prop} (h : SMarkSU lo args η K) : AF Tryz.prog lo 15 args η K := h.elim f15_ok f15Z_ok
def SHeldSU : List AV → List Blk → (AV → List Blk → Prop) → Prop := fun args η K => SHeldSt args η K ∨ SZSq args η K
theorem heldSU_ok {lo : Nat} {args : List AV} {η : List Blk} {K : AV → List Blk → Prop} (h : SHeldSU args η K) : AF Tryz.prog lo 17 args η K := h.elim f17_ok f17Z_ok

end Go.Proofs.YtaalpmbopkbdiaaGreat
