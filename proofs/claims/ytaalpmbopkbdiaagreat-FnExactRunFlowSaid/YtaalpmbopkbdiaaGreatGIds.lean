/- What functions of the program compute, said in the abstract logic; no conditions. -/
import Derived.Test.YtaalpmbopkbdiaaGreatGIn

namespace Go.Proofs.YtaalpmbopkbdiaaGreat
open Go
set_option linter.unusedSimpArgs false
set_option linter.unusedVariables false
set_option maxRecDepth 100000
set_option maxHeartbeats 8000000
attribute [local go_sem] st0 AC thenA andC locLoadB KsSW_same KsSW_grow oldLoadB noBlkB KsSL_same KsOS_same KsOS_grow pv ev put upd dstOk cv cvc binI setB Value.oneCell' EndA resA resA1 List.mapM_cons List.mapM_nil Option.pure_def Option.bind_eq_bind noLocV noLoc1 noLoc noLocs plainV cellsA newVarA putCells condA lam0 inBlockA cur lenA rowA writeA dstA appendC appendZ mapPut mapGet avoidsB avoidB clearB Array.toList_append Op.operands Call.operands newSlot Nat.zero_add Nat.add_zero Nat.succ_ne_self Nat.lt_add_one Nat.zero_lt_succ true_and and_true true_or or_true false_or or_false and_self true_implies forall_const Bool.false_eq_true Bool.true_eq_false false_implies implies_true imp_self ne_eq not_false_eq_true not_true_eq_false false_and and_false List.getElem?_toArray List.getElem?_cons_succ List.getElem?_cons_zero Option.bind_some Option.map_some Bool.not_true Bool.not_false List.getD_cons_zero List.getD_cons_succ Option.some.injEq exists_eq_left' AV.bool.injEq List.map_cons List.map_nil List.all_cons List.all_nil Bool.and_self Bool.and_true Bool.true_and List.append_nil List.cons_append List.nil_append List.length_cons List.length_nil List.drop_zero List.take_zero List.drop_succ_cons List.take_succ_cons List.take_nil List.drop_nil List.not_mem_nil List.mem_cons List.contains_nil List.contains_cons Bool.or_self Bool.or_true Bool.true_or Bool.false_or Bool.or_false Bool.and_false Bool.false_and KsS_same KsS_grow skipV KsS_ext KsSW_ext KsOS_ext rep1 rep2 rep3 rep4 rep5 List.flatten_cons List.flatten_nil partsA isPtr fillA List.size_toArray ltT ltF leT leF ltTn ltFn leTn leFn eqTi eqFi wrapId toNat1 intGet boolGet memD app_get app_last app_lst app_set app_setL app_setF set_ne set_eq gt_iff_lt ge_iff_le decide_eq_true_eq len2 len3 get20 get21 drop2 put2 get30 get31 get32 drop3 put3 putI pairEta bneTi bneFi beqTi beqFi bne_eq_false_iff_eq beq_eq_false_iff_ne beq_iff_eq bne_iff_ne Int.toNat_natCast Nat.mul_one List.length_map Bool.not_eq_true Bool.not_eq_false Bool.decide_eq_true decide_true decide_false Bool.not_eq_true' Bool.not_eq_false' decide_eq_false_iff_not eq_self Decidable.not_not
attribute [local go_sem ↓] skipC exitC retC seqC blockC condC regC drawC drawStep AOpC AOpF AOpE AEff contE_at contC_at keepC_at keepW_at keepO_at keepL_at map_parts
attribute [local go_sem] reduceCtorEq Nat.reduceLT Nat.reduceEqDiff Nat.reduceAdd Nat.reduceMul Nat.reduceLeDiff Nat.reduceSub Nat.reduceBEq Nat.reduceBNe Nat.reduceBneDiff Nat.reduceBeqDiff
attribute [local go_sem ↓] reduceIte
attribute [local go_sem] ag_22 ag_24 ag_3 ag_30 ag_32 ag_69 ag_97 by_22 by_24 by_3 by_30 by_32 by_69 by_97 el_22 el_30 en_3 fi_24_0 fi_24_1 fi_32_0 fi_32_1 fi_69_0 fi_69_1 fi_69_2 fi_97_0 fi_97_1 fi_97_2 in_3 nf_24 nf_32 nf_69 nf_97 pl_24 pl_32 pl_69 pl_97 ps_24 ps_32 ps_69 ps_97 sz_22 sz_24 sz_3 sz_30 sz_32 sz_69 sz_97 ze_22 ze_24 ze_3 ze_30 ze_32 ze_69 ze_97

def SSameId : List AV → List Blk → (AV → List Blk → Prop) → Prop
  | [.agg [.int .i64 x0, .int .i64 x1, .int .i64 x2]], η, K => K (.agg [.int .i64 x0, .int .i64 x1, .int .i64 x2]) η
  | _, _, _ => False
def SToId : List AV → List Blk → (AV → List Blk → Prop) → Prop
  | [v], η, K => ∃ l : List (Int × Int × Int), RowR 97 3 enc3 η v l ∧ l.length ≤ 1048576 ∧ K (.sl η.length 0 0 l.length) (η ++ [⟨0, 69, 3, (l.map enc3).flatten⟩])
  | _, _, _ => False

/- laws.toId -/
theorem f74_ok {lo : Nat} {args : List AV} {η : List Blk} {K : AV → List Blk → Prop} (h : SSameId args η K) : AF Tryz.prog lo 74 args η K := by
  unfold SSameId at h
  split at h
  · refine AF_run noSp_ok D0 [] [.cell 2 69] hm Tryz.func74 rfl (by decide) Tryz.ntmps74 rfl (by kernel_rfl) (Nat.le_of_ble_eq_true rfl) ?_; intro hlo
    repeat' (first | with_reducible refine iteI (fun _ => ?_) (fun _ => ?_) | ((first | unfold AOpsC | unfold AOpsD | skip); simp (maxSteps := 1000000) (disch := (first | omega | assumption | (simp only [List.length_append, List.length_cons, List.length_nil, List.length_set]; omega))) only [go_sem, AOpsD]))
    exact h
  · exact h.elim

def invToId (η : List Blk) (l : List (Int × Int × Int)) (v : AV) (st : St) : Prop := ∃ i : Nat, (i ≤ l.length) ∧ st.n = 23 ∧ st.τ 0 = v ∧ st.τ 3 = .sl η.length 0 0 l.length ∧ st.τ 4 = .int .i64 i ∧ st.lam = lam0 ∧ st.η = η ++ [⟨0, 69, 3, ((part l (0, 0, 0) i).map enc3).flatten⟩]

/- laws.toIdS -/
def Sp38 (lo : Nat) : Spec := fun g args η K => match g with | 74 => SSameId args η K | _ => False
theorem Sp38_ok {lo : Nat} : Sound Tryz.prog lo (Sp38 lo) := by
  intro g args η K h
  unfold Sp38 at h
  split at h
  · exact .inl (f74_ok h)
  · exact h.elim
theorem f38_ok {lo : Nat} {args : List AV} {η : List Blk} {K : AV → List Blk → Prop} (h : SToId args η K) : AF Tryz.prog lo 38 args η K := by
  unfold SToId at h
  split at h
  · obtain ⟨l, hr, hl, hK⟩ := h
    refine AF_run Sp38_ok D0 [] [.tmp 2] hm Tryz.func38 rfl (by decide) Tryz.ntmps38 rfl (by kernel_rfl) (Nat.le_of_ble_eq_true rfl) ?_; intro hlo
    rcases hr with ⟨rfl, rfl⟩ | ⟨b, ver, rfl, hb⟩
    · repeat' (first | with_reducible refine iteI (fun _ => ?_) (fun _ => ?_) | ((first | unfold AOpsC | unfold AOpsD | skip); simp (maxSteps := 1000000) (disch := (first | omega | assumption | (simp only [List.length_append, List.length_cons, List.length_nil, List.length_set]; omega))) only [go_sem, Sp38, SSameId]))
      refine ⟨invToId η [] .nils, fun st => ctr 0 st 4, .inl ⟨0, Nat.zero_le _, rfl, ?_⟩, ?_⟩
      · simp [upd, part]
      · rintro ⟨n, τ, lam, η'⟩ ⟨i, g0, hn, t0, t3, t4, hlam, hη⟩; simp only at hn t0 t3 t4 hlam hη; subst hn hlam hη
        obtain rfl : i = 0 := by simpa using g0
        repeat' (first | with_reducible refine iteI (fun _ => ?_) (fun _ => ?_) | ((first | unfold AOpsC | unfold AOpsD | skip); simp (maxSteps := 1000000) (disch := (first | omega | assumption | (simp only [List.length_append, List.length_cons, List.length_nil, List.length_set]; omega))) only [go_sem, Sp38, SSameId, t0, t3, t4, part_end]))
        exact hK
    · have hbl := blt hb
      repeat' (first | with_reducible refine iteI (fun _ => ?_) (fun _ => ?_) | ((first | unfold AOpsC | unfold AOpsD | skip); simp (maxSteps := 1000000) (disch := (first | omega | assumption | (simp only [List.length_append, List.length_cons, List.length_nil, List.length_set]; omega))) only [go_sem, Sp38, SSameId, hb]))
      refine ⟨invToId η l (.sl b ver 0 l.length), fun st => ctr l.length st 4, .inl ⟨0, Nat.zero_le _, rfl, ?_⟩, ?_⟩
      · rw [part_0]
        simp [upd, part0_3]
      · rintro ⟨n, τ, lam, η'⟩ ⟨i, g0, hn, t0, t3, t4, hlam, hη⟩; simp only at hn t0 t3 t4 hlam hη; subst hn hlam hη
        have hpl : (part l (0, 0, 0) i).length = l.length := part_len l _ g0
        by_cases hlt : i < l.length
        · have hps := part_set l (0, 0, 0) hlt (0, 0, 0)
          repeat' (first | with_reducible refine iteI (fun _ => ?_) (fun _ => ?_) | ((first | unfold AOpsC | unfold AOpsD | skip); simp (maxSteps := 1000000) (disch := (first | omega | assumption | (simp only [List.length_append, List.length_cons, List.length_nil, List.length_set]; omega))) only [go_sem, Sp38, SSameId, hb, t0, t3, t4, hps]))
          refine ⟨⟨i + 1, hlt, rfl, (by simp [upd, t0, t3, t4]), (by simp [upd, t0, t3, t4]), (by simp [upd, t0, t3, t4]), rfl, rfl⟩, (by simp [ctr, upd, t0, t3, t4]; omega)⟩
        · obtain rfl : i = l.length := by omega
          repeat' (first | with_reducible refine iteI (fun _ => ?_) (fun _ => ?_) | ((first | unfold AOpsC | unfold AOpsD | skip); simp (maxSteps := 1000000) (disch := (first | omega | assumption | (simp only [List.length_append, List.length_cons, List.length_nil, List.length_set]; omega))) only [go_sem, Sp38, SSameId, hb, t0, t3, t4, part_end]))
          exact hK
  · exact h.elim

def SEq1Id : List AV → List Blk → (AV → List Blk → Prop) → Prop
  | [.agg [.int .i64 x0, .int .i64 x1, .int .i64 x2], .agg [.int .i64 y0, .int .i64 y1, .int .i64 y2]], η, K => K (.bool (decide (x0 = y0 ∧ x1 = y1 ∧ x2 = y2))) η
  | _, _, _ => False
def SEqId : List AV → List Blk → (AV → List Blk → Prop) → Prop
  | [v, u], η, K => ∃ l m : List (Int × Int × Int), IsR 69 3 enc3 η v l ∧ IsR 69 3 enc3 η u m ∧ l.length ≤ 1048576 ∧ K (.bool (decide (l = m))) η
  | _, _, _ => False

/- laws.eqId -/
theorem f85_ok {lo : Nat} {args : List AV} {η : List Blk} {K : AV → List Blk → Prop} (h : SEq1Id args η K) : AF Tryz.prog lo 85 args η K := by
  unfold SEq1Id at h
  split at h
  · refine AF_run noSp_ok D0 [] [.tmp 4] hm Tryz.func85 rfl (by decide) Tryz.ntmps85 rfl (by kernel_rfl) (Nat.le_of_ble_eq_true rfl) ?_; intro hlo
    repeat' (first | with_reducible refine iteI (fun _ => ?_) (fun _ => ?_) | ((first | unfold AOpsC | unfold AOpsD | skip); simp (maxSteps := 1000000) (disch := (first | omega | assumption | (simp only [List.length_append, List.length_cons, List.length_nil, List.length_set]; omega))) only [go_sem, AOpsD]))
    all_goals simp_all
  · exact h.elim

def invEqId (η : List Blk) (l m : List (Int × Int × Int)) (v u : AV) (st : St) : Prop := ∃ i : Nat, (i ≤ l.length) ∧ (l.take i = m.take i) ∧ st.n = 27 ∧ st.τ 0 = v ∧ st.τ 1 = u ∧ st.τ 5 = .int .i64 i ∧ st.lam = lam0 ∧ st.η = η

/- laws.eqIdS -/
def Sp47 (lo : Nat) : Spec := fun g args η K => match g with | 85 => SEq1Id args η K | _ => False
theorem Sp47_ok {lo : Nat} : Sound Tryz.prog lo (Sp47 lo) := by
  intro g args η K h
  unfold Sp47 at h
  split at h
  · exact .inl (f85_ok h)
  · exact h.elim
def Dr47 : Draws := fun id => match id with | 6 => ([0, 0, 3, 7, 0, 0, 48, 112, 255, 511], [], [], (.one 0 (.one 1 (.one 2 (.one 3 (.one 4 (.one 5 (.one 6 (.one 7 (.one 8 (.one 9 .nil))))))))))) | _ => ([], [], [], .nil)
theorem f47_ok {lo : Nat} {args : List AV} {η : List Blk} {K : AV → List Blk → Prop} (h : SEqId args η K) : AF Tryz.prog lo 47 args η K := by
  unfold SEqId at h
  split at h
  · obtain ⟨l, m, ⟨b, ver, rfl, hb⟩, ⟨d, wer, rfl, hd⟩, hl, hK⟩ := h
    refine AF_run Sp47_ok Dr47 [] [.tmp 4] hm Tryz.func47 rfl (by decide) Tryz.ntmps47 rfl (by kernel_rfl) (Nat.le_of_ble_eq_true rfl) ?_; intro hlo
    by_cases hlen : l.length = m.length
    · repeat' (first | with_reducible refine iteI (fun _ => ?_) (fun _ => ?_) | ((first | unfold AOpsC | unfold AOpsD | skip); simp (maxSteps := 1000000) (disch := (first | omega | assumption | (simp only [List.length_append, List.length_cons, List.length_nil, List.length_set]; omega))) only [go_sem, Sp47, SEq1Id, Dr47, hb, hd]))
      refine ⟨invEqId η l m (.sl b ver 0 l.length) (.sl d wer 0 m.length), fun st => ctr l.length st 5, .inl ⟨0, Nat.zero_le _, rfl, rfl, ?_⟩, ?_⟩
      · simp [upd]
      · rintro ⟨n, τ, lam, η'⟩ ⟨i, g0, g1, hn, t0, t1, t5, hlam, hη⟩; simp only at hn t0 t1 t5 hlam hη; subst hn hlam hη
        by_cases hlt : i < l.length
        · by_cases hxy : l.getD i (0, 0, 0) = m.getD i (0, 0, 0)
          · repeat' (first | with_reducible refine iteI (fun _ => ?_) (fun _ => ?_) | ((first | unfold AOpsC | unfold AOpsD | skip); simp (maxSteps := 1000000) (disch := (first | omega | assumption | (simp only [List.length_append, List.length_cons, List.length_nil, List.length_set]; omega))) only [go_sem, Sp47, SEq1Id, Dr47, hb, hd, t0, t1, t5, hxy]))
            refine ⟨⟨i + 1, hlt, by rw [take1 (d := (0, 0, 0)) hlt, take1 (d := (0, 0, 0)) (by omega), g1, hxy], rfl, (by simp [upd, t0, t1, t5]), (by simp [upd, t0, t1, t5]), (by simp [upd, t0, t1, t5]), rfl, rfl⟩, (by simp [ctr, upd, t0, t1, t5]; omega)⟩
          · have hne : decide (l = m) = false := by
              rw [decide_eq_false_iff_not]; rintro rfl; exact hxy rfl
            rw [hne] at hK
            have hp : ¬ ((l.getD i (0, 0, 0)).1 = (m.getD i (0, 0, 0)).1 ∧ (l.getD i (0, 0, 0)).2.1 = (m.getD i (0, 0, 0)).2.1 ∧ (l.getD i (0, 0, 0)).2.2 = (m.getD i (0, 0, 0)).2.2) := fun hh => hxy (by simp only [Prod.ext_iff]; exact hh)
            repeat' (first | with_reducible refine iteI (fun _ => ?_) (fun _ => ?_) | ((first | unfold AOpsC | unfold AOpsD | skip); simp (maxSteps := 1000000) (disch := (first | omega | assumption | (simp only [List.length_append, List.length_cons, List.length_nil, List.length_set]; omega))) only [go_sem, Sp47, SEq1Id, Dr47, hb, hd, t0, t1, t5]))
            all_goals first | exact hK | (exfalso; simp_all; done)
        · repeat' (first | with_reducible refine iteI (fun _ => ?_) (fun _ => ?_) | ((first | unfold AOpsC | unfold AOpsD | skip); simp (maxSteps := 1000000) (disch := (first | omega | assumption | (simp only [List.length_append, List.length_cons, List.length_nil, List.length_set]; omega))) only [go_sem, Sp47, SEq1Id, Dr47, hb, hd, t0, t1, t5]))
          have hlm : l = m := by
            rw [takeAll (by omega), takeAll (by omega)] at g1
            exact g1
          rw [show decide (l = m) = true from decide_eq_true hlm] at hK
          exact hK
    · have hne : decide (l = m) = false := by
        rw [decide_eq_false_iff_not]; rintro rfl; exact hlen rfl
      rw [hne] at hK
      repeat' (first | with_reducible refine iteI (fun _ => ?_) (fun _ => ?_) | ((first | unfold AOpsC | unfold AOpsD | skip); simp (maxSteps := 1000000) (disch := (first | omega | assumption | (simp only [List.length_append, List.length_cons, List.length_nil, List.length_set]; omega))) only [go_sem, Sp47, SEq1Id, Dr47, hb, hd]))
      exact hK
  · exact h.elim

def SSzId : List AV → List Blk → (AV → List Blk → Prop) → Prop
  | [v, .int .i64 c], η, K => ∃ l : List (Int × Int × Int), RowR 97 3 enc3 η v l ∧ l.length ≤ maxLen ∧ 0 ≤ c ∧ c ≤ 1048576 ∧ K (.int .i64 (szI l.length c)) η
  | _, _, _ => False

/- laws.szIdS -/
theorem f27_ok {lo : Nat} {args : List AV} {η : List Blk} {K : AV → List Blk → Prop} (h : SSzId args η K) : AF Tryz.prog lo 27 args η K := by
  unfold SSzId at h
  split at h
  · obtain ⟨l, hr, hl, h0, h1, hK⟩ := h
    have hml : maxLen = 9223372036854775807 := by first | rfl | decide
    rename_i c
    unfold szI at hK
    refine AF_run noSp_ok D0 [] [.tmp 4] hm Tryz.func27 rfl (by decide) Tryz.ntmps27 rfl (by kernel_rfl) (Nat.le_of_ble_eq_true rfl) ?_; intro hlo
    rcases hr with ⟨rfl, rfl⟩ | ⟨b, ver, rfl, hb⟩
    · repeat' (first | with_reducible refine iteI (fun _ => ?_) (fun _ => ?_) | ((first | unfold AOpsC | unfold AOpsD | skip); simp (maxSteps := 1000000) (disch := (first | omega | assumption | (simp only [List.length_append, List.length_cons, List.length_nil, List.length_set]; omega))) only [go_sem, AOpsD]))
      simpa [h0] using hK
    · repeat' (first | with_reducible refine iteI (fun _ => ?_) (fun _ => ?_) | ((first | unfold AOpsC | unfold AOpsD | skip); simp (maxSteps := 1000000) (disch := (first | omega | assumption | (simp only [List.length_append, List.length_cons, List.length_nil, List.length_set]; omega))) only [go_sem, AOpsD, hb]))
      · rw [if_neg (by omega)] at hK
        exact hK
      · rw [if_pos (by omega)] at hK
        exact hK
  · exact h.elim

def SToMesh : List AV → List Blk → (AV → List Blk → Prop) → Prop
  | [.agg [.int .i64 r, v]], η, K => ∃ l : List (Int × Int × Int), RowR 97 3 enc3 η v l ∧ l.length ≤ 1048576 ∧ K (.agg [.int .i64 r, .sl η.length 0 0 l.length]) (η ++ [⟨0, 69, 3, (l.map enc3).flatten⟩])
  | _, _, _ => False
def SEqMesh : List AV → List Blk → (AV → List Blk → Prop) → Prop
  | [.agg [.int .i64 r, v], .agg [.int .i64 q, u]], η, K => ∃ l m : List (Int × Int × Int), IsR 69 3 enc3 η v l ∧ IsR 69 3 enc3 η u m ∧ l.length ≤ 1048576 ∧ K (.bool (decide (r = q) && decide (l = m))) η
  | _, _, _ => False
def SSzMesh : List AV → List Blk → (AV → List Blk → Prop) → Prop
  | [.agg [.int .i64 r, v], .int .i64 c], η, K => ∃ l : List (Int × Int × Int), RowR 97 3 enc3 η v l ∧ l.length ≤ maxLen ∧ 0 ≤ c ∧ c ≤ 1048576 ∧ K (.int .i64 (szI l.length c)) η
  | _, _, _ => False

/- laws.toMesh -/
def Sp11 (lo : Nat) : Spec := fun g args η K => match g with | 38 => SToId args η K | _ => False
theorem Sp11_ok {lo : Nat} : Sound Tryz.prog lo (Sp11 lo) := by
  intro g args η K h
  unfold Sp11 at h
  split at h
  · exact .inl (f38_ok h)
  · exact h.elim
theorem f11_ok {lo : Nat} {args : List AV} {η : List Blk} {K : AV → List Blk → Prop} (h : SToMesh args η K) : AF Tryz.prog lo 11 args η K := by
  unfold SToMesh at h
  split at h
  · obtain ⟨l, hr, hl, hK⟩ := h
    have hn := (noLocR hr).1
    have hn' := (noLocR hr).2
    refine AF_run Sp11_ok D0 [] [.cell 2 32] hm Tryz.func11 rfl (by decide) Tryz.ntmps11 rfl (by kernel_rfl) (Nat.le_of_ble_eq_true rfl) ?_; intro hlo
    repeat' (first | with_reducible refine iteI (fun _ => ?_) (fun _ => ?_) | ((first | unfold AOpsC | unfold AOpsD | skip); simp (maxSteps := 1000000) (disch := (first | omega | assumption | (simp only [List.length_append, List.length_cons, List.length_nil, List.length_set]; omega))) only [go_sem, Sp11, SToId, ↓hn, ↓hn']))
    refine ⟨l, hr, hl, ?_⟩
    repeat' (first | with_reducible refine iteI (fun _ => ?_) (fun _ => ?_) | ((first | unfold AOpsC | unfold AOpsD | skip); simp (maxSteps := 1000000) (disch := (first | omega | assumption | (simp only [List.length_append, List.length_cons, List.length_nil, List.length_set]; omega))) only [go_sem, Sp11, SToId, ↓hn, ↓hn']))
    exact hK
  · exact h.elim

/- laws.eqMesh -/
def Sp14 (lo : Nat) : Spec := fun g args η K => match g with | 47 => SEqId args η K | _ => False
theorem Sp14_ok {lo : Nat} : Sound Tryz.prog lo (Sp14 lo) := by
  intro g args η K h
  unfold Sp14 at h
  split at h
  · exact .inl (f47_ok h)
  · exact h.elim
theorem f14_ok {lo : Nat} {args : List AV} {η : List Blk} {K : AV → List Blk → Prop} (h : SEqMesh args η K) : AF Tryz.prog lo 14 args η K := by
  unfold SEqMesh at h
  split at h
  · obtain ⟨l, m, hr, hs, hl, hK⟩ := h
    rename_i r v q u
    have hr' := hr
    have hs' := hs
    obtain ⟨b, ver, rfl, hb⟩ := hr'
    obtain ⟨d, wer, rfl, hd⟩ := hs'
    refine AF_run Sp14_ok D0 [] [.tmp 4] hm Tryz.func14 rfl (by decide) Tryz.ntmps14 rfl (by kernel_rfl) (Nat.le_of_ble_eq_true rfl) ?_; intro hlo
    by_cases hrq : r = q
    · repeat' (first | with_reducible refine iteI (fun _ => ?_) (fun _ => ?_) | ((first | unfold AOpsC | unfold AOpsD | skip); simp (maxSteps := 1000000) (disch := (first | omega | assumption | (simp only [List.length_append, List.length_cons, List.length_nil, List.length_set]; omega))) only [go_sem, Sp14, SEqId, hrq]))
      refine ⟨l, m, hr, hs, hl, ?_⟩
      subst hrq
      by_cases hlm : l = m
      · repeat' (first | with_reducible refine iteI (fun _ => ?_) (fun _ => ?_) | ((first | unfold AOpsC | unfold AOpsD | skip); simp (maxSteps := 1000000) (disch := (first | omega | assumption | (simp only [List.length_append, List.length_cons, List.length_nil, List.length_set]; omega))) only [go_sem, Sp14, SEqId, hlm]))
        all_goals first | (refine KB hK ?_; simp [hlm]; done) | (exfalso; simp_all; done)
      · repeat' (first | with_reducible refine iteI (fun _ => ?_) (fun _ => ?_) | ((first | unfold AOpsC | unfold AOpsD | skip); simp (maxSteps := 1000000) (disch := (first | omega | assumption | (simp only [List.length_append, List.length_cons, List.length_nil, List.length_set]; omega))) only [go_sem, Sp14, SEqId, hlm]))
        all_goals first | (refine KB hK ?_; simp [hlm]; done) | (exfalso; simp_all; done)
    · repeat' (first | with_reducible refine iteI (fun _ => ?_) (fun _ => ?_) | ((first | unfold AOpsC | unfold AOpsD | skip); simp (maxSteps := 1000000) (disch := (first | omega | assumption | (simp only [List.length_append, List.length_cons, List.length_nil, List.length_set]; omega))) only [go_sem, Sp14, SEqId, hrq]))
      exact KB hK (by simp [hrq])
  · exact h.elim

/- laws.szMesh -/
def Sp8 (lo : Nat) : Spec := fun g args η K => match g with | 27 => SSzId args η K | _ => False
theorem Sp8_ok {lo : Nat} : Sound Tryz.prog lo (Sp8 lo) := by
  intro g args η K h
  unfold Sp8 at h
  split at h
  · exact .inl (f27_ok h)
  · exact h.elim
theorem f8_ok {lo : Nat} {args : List AV} {η : List Blk} {K : AV → List Blk → Prop} (h : SSzMesh args η K) : AF Tryz.prog lo 8 args η K := by
  unfold SSzMesh at h
  split at h
  · obtain ⟨l, hr, hl, h0, h1, hK⟩ := h
    rename_i c
    have hn := (noLocR hr).1
    have hn' := (noLocR hr).2
    refine AF_run Sp8_ok D0 [] [.tmp 4] hm Tryz.func8 rfl (by decide) Tryz.ntmps8 rfl (by kernel_rfl) (Nat.le_of_ble_eq_true rfl) ?_; intro hlo
    repeat' (first | with_reducible refine iteI (fun _ => ?_) (fun _ => ?_) | ((first | unfold AOpsC | unfold AOpsD | skip); simp (maxSteps := 1000000) (disch := (first | omega | assumption | (simp only [List.length_append, List.length_cons, List.length_nil, List.length_set]; omega))) only [go_sem, Sp8, SSzId, ↓hn, ↓hn']))
    refine ⟨l, hr, hl, ?_⟩
    by_cases hc : (l.length : Int) ≤ c
    · rw [szI_pos hc] at hK ⊢
      rw [if_neg (by omega)]
      exact hK
    · rw [szI_neg hc] at hK ⊢
      rw [if_pos (by omega)]
      exact hK
  · exact h.elim

end Go.Proofs.YtaalpmbopkbdiaaGreat
