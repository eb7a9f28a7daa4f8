/- What functions of the program compute, said in the abstract logic; no conditions. -/
import Derived.Test.YtaalpmbopkbdiaaGShare

namespace Go.Proofs.Ytaalpmbopkbdiaa
open Go
set_option linter.unusedSimpArgs false
set_option linter.unusedVariables false
set_option maxRecDepth 100000
set_option maxHeartbeats 8000000
attribute [local go_sem] st0 AC thenA andC locLoadB KsSW_same KsSW_grow oldLoadB noBlkB KsSL_same KsOS_same KsOS_grow pv ev put upd dstOk cv cvc binI setB Value.oneCell' EndA resA resA1 List.mapM_cons List.mapM_nil Option.pure_def Option.bind_eq_bind noLocV noLoc1 noLoc noLocs plainV cellsA newVarA putCells condA lam0 inBlockA cur lenA rowA avoidsB avoidB clearB Array.toList_append Op.operands Call.operands newSlot Nat.zero_add Nat.add_zero Nat.succ_ne_self Nat.lt_add_one Nat.zero_lt_succ true_and and_true true_or or_true false_or or_false and_self true_implies forall_const Bool.false_eq_true Bool.true_eq_false false_implies implies_true imp_self ne_eq not_false_eq_true not_true_eq_false false_and and_false List.getElem?_toArray List.getElem?_cons_succ List.getElem?_cons_zero Option.bind_some Option.map_some Bool.not_true Bool.not_false List.getD_cons_zero List.getD_cons_succ Option.some.injEq exists_eq_left' AV.bool.injEq List.map_cons List.map_nil List.all_cons List.all_nil Bool.and_self Bool.and_true Bool.true_and List.append_nil List.cons_append List.nil_append List.length_cons List.length_nil List.drop_zero List.take_zero List.drop_succ_cons List.take_succ_cons List.take_nil List.drop_nil List.not_mem_nil List.mem_cons List.contains_nil List.contains_cons Bool.or_self Bool.or_true Bool.true_or Bool.false_or Bool.or_false Bool.and_false Bool.false_and KsS_same KsS_grow skipV KsS_ext KsSW_ext KsOS_ext rep1 rep2 rep3 rep4 rep5 List.flatten_cons List.flatten_nil partsA isPtr fillA List.size_toArray ltT ltF leT leF ltTn ltFn leTn leFn eqTi eqFi wrapId toNat1 intGet boolGet memD app_get app_last app_lst app_set app_setL app_setF set_ne set_eq gt_iff_lt ge_iff_le decide_eq_true_eq len2 len3 get20 get21 drop2 put2 get30 get31 get32 drop3 put3 putI pairEta bneTi bneFi beqTi beqFi bne_eq_false_iff_eq beq_eq_false_iff_ne beq_iff_eq bne_iff_ne Int.toNat_natCast Nat.mul_one List.length_map Bool.not_eq_true Bool.not_eq_false Bool.decide_eq_true decide_true decide_false Bool.not_eq_true' Bool.not_eq_false' decide_eq_false_iff_not eq_self Decidable.not_not

def upq (ms ts : List Int) (i : Nat) : Int := (ts.getD i 0 + ms.getD i 0 - 1).tdiv (ms.getD i 0)
def loq (ms ts : List Int) (i : Nat) : Int := (ts.getD i 0).tdiv (ms.getD i 0)
def great (ms ts : List Int) : Nat → Int
  | 0 => 0
  | i + 1 => if 0 < ms.getD i 0 ∧ great ms ts i < upq ms ts i then upq ms ts i else great ms ts i
def least (ms ts : List Int) : Nat → Int
  | 0 => -1
  | i + 1 => if 0 < ms.getD i 0 ∧ (least ms ts i < 0 ∨ loq ms ts i < least ms ts i) then loq ms ts i else least ms ts i
def greatR (r : Int) (l : List Id3) (ms ts bs : List Int) : Int := if okB r l ms ts bs = true then great ms ts ms.length else 0
def leastR (r : Int) (l : List Id3) (ms ts bs : List Int) : Int := if okB r l ms ts bs = true then (if least ms ts ms.length < 0 then 0 else least ms ts ms.length) else 0
theorem upq_bd {ms ts : List Int} {i : Nat} (h : 0 ≤ ms.getD i 0 ∧ ms.getD i 0 ≤ 10000000 ∧ 0 ≤ ts.getD i 0 ∧ ts.getD i 0 ≤ 1000 * ms.getD i 0) (hm : 0 < ms.getD i 0) : 0 ≤ upq ms ts i ∧ upq ms ts i ≤ 100000000000 := by
  have h1 : 0 ≤ (ts.getD i 0 + ms.getD i 0 - 1).tdiv (ms.getD i 0) := Int.tdiv_nonneg (by omega) (by omega)
  have h2 : (ts.getD i 0 + ms.getD i 0 - 1).tdiv (ms.getD i 0) ≤ ts.getD i 0 + ms.getD i 0 - 1 := Int.tdiv_le_self _ (by omega)
  unfold upq
  omega
theorem loq_bd {ms ts : List Int} {i : Nat} (h : 0 ≤ ms.getD i 0 ∧ ms.getD i 0 ≤ 10000000 ∧ 0 ≤ ts.getD i 0 ∧ ts.getD i 0 ≤ 1000 * ms.getD i 0) : 0 ≤ loq ms ts i ∧ loq ms ts i ≤ 100000000000 := by
  have h1 : 0 ≤ (ts.getD i 0).tdiv (ms.getD i 0) := Int.tdiv_nonneg (by omega) (by omega)
  have h2 : (ts.getD i 0).tdiv (ms.getD i 0) ≤ ts.getD i 0 := Int.tdiv_le_self _ (by omega)
  unfold loq
  omega

def SGreat : List AV → List Blk → (AV → List Blk → Prop) → Prop
  | [.agg [.int .i64 r, v, a, b, c]], η, K => (ok3 63 η v ∧ okI η a ∧ okI η b ∧ okI η c) ∧ K (.int .i64 (greatR r (dec3 63 η v) (decI η a) (decI η b) (decI η c))) η
  | _, _, _ => False

def SLeast : List AV → List Blk → (AV → List Blk → Prop) → Prop
  | [.agg [.int .i64 r, v, a, b, c]], η, K => (ok3 63 η v ∧ okI η a ∧ okI η b ∧ okI η c) ∧ K (.int .i64 (leastR r (dec3 63 η v) (decI η a) (decI η b) (decI η c))) η
  | _, _, _ => False

def invGrS (η : List Blk) (r : Int) (v a b c : AV) (ms ts bs : List Int) (ok : Bool) (st : St) : Prop := ∃ i : Nat, (i ≤ ms.length) ∧ (ok = true ∨ i = 0) ∧ st.n = 43 ∧ st.τ 1 = .loc 1 1 0 ∧ st.τ 3 = .int .i64 (great ms ts i) ∧ st.τ 4 = .int .i64 i ∧ st.lam 1 = ⟨1, [.int .i64 r, v, a, b, c]⟩ ∧ st.η = η

/- spec.GreatestShare -/
def Sp14 (lo : Nat) : Spec := fun g args η K => match g with | 38 => SOk args η K | _ => False
theorem Sp14_ok {lo : Nat} : Sound Try.prog lo (Sp14 lo) := by
  intro g args η K h
  unfold Sp14 at h
  split at h
  · exact f38_ok h
  · exact h.elim
def Dr14 : Draws := fun id => match id with | 6 => ([0, 0, 2, 0, 14, 30, 0, 64, 0, 448, 960, 2046, 4094, 0, 8192, 0, 57344, 122880, 262142, 524287, 1048575], [], [], (.one 0 (.one 1 (.one 2 (.one 3 (.one 4 (.one 5 (.one 6 (.one 7 (.one 8 (.one 9 (.one 10 (.one 11 (.one 12 (.one 13 (.one 14 (.one 15 (.one 16 (.one 17 (.one 18 (.one 19 (.one 20 .nil)))))))))))))))))))))) | _ => ([], [], [], .nil)
theorem f14_ok {lo : Nat} {args : List AV} {η : List Blk} {K : AV → List Blk → Prop} (h : SGreat args η K) : AF Try.prog lo 14 args η K := by
  unfold SGreat at h
  split at h
  · obtain ⟨⟨⟨l, hr, hl⟩, ⟨ms, ha, hla⟩, ⟨ts, hb, hlb⟩, ⟨bs, hc, hlc⟩⟩, hK⟩ := h
    rename_i r _ _ _ _
    have d1 := hr.dec3
    have d2 := ha.dec
    have d3 := hb.dec
    have d4 := hc.dec
    have o1 : ok3 63 _ _ := ⟨l, hr, hl⟩
    have o2 : okI _ _ := ⟨ms, ha, hla⟩
    have o3 : okI _ _ := ⟨ts, hb, hlb⟩
    have o4 : okI _ _ := ⟨bs, hc, hlc⟩
    simp only [d1, d2, d3, d4] at hK
    have hr' := hr
    have ha' := ha
    have hb' := hb
    have hc' := hc
    obtain ⟨b0, v0, rfl, hb0⟩ := hr'
    obtain ⟨b1, v1, rfl, hb1⟩ := ha'
    obtain ⟨b2, v2, rfl, hb2⟩ := hb'
    obtain ⟨b3, v3, rfl, hb3⟩ := hc'
    refine AF_run Sp14_ok Dr14 [] [.tmp 2] hm Try.func14 rfl (by decide) Try.ntmps14 rfl (by kernel_rfl) (Nat.le_of_ble_eq_true rfl) ?_; intro hlo
    repeat' (first | with_reducible refine iteI (fun _ => ?_) (fun _ => ?_) | ((first | unfold AOpsC | unfold AOpsD | skip); simp (maxSteps := 1000000) (disch := (first | omega | assumption | (simp only [List.length_append, List.length_cons, List.length_nil, List.length_set]; omega))) only [go_sem, ↓skipC, ↓exitC, ↓retC, ↓seqC, ↓blockC, ↓condC, ↓regC, ↓drawC, ↓drawStep, ↓AOpC, ↓AOpF, ↓AOpE, ↓AEff, ↓contE_at, ↓contC_at, ↓keepC_at, ↓keepW_at, ↓keepO_at, ↓keepL_at, ↓map_parts, ↓reduceIte, reduceCtorEq, Nat.reduceLT, Nat.reduceEqDiff, Nat.reduceAdd, Nat.reduceMul, Nat.reduceLeDiff, Nat.reduceSub, Nat.reduceBEq, Nat.reduceBNe, Nat.reduceBneDiff, Nat.reduceBeqDiff, ag_27, ag_29, ag_3, by_27, by_29, by_3, el_27, fi_29_1, fi_29_2, in_3, nf_29, pl_29, ps_29, sz_27, sz_29, sz_3, ze_27, ze_29, ze_3, Sp14, SOk, Dr14, hb0, hb1, hb2, hb3, d1, d2, d3, d4, o1, o2, o3, o4]))
    refine ⟨invGrS η r (.sl b0 v0 0 l.length) (.sl b1 v1 0 ms.length) (.sl b2 v2 0 ts.length) (.sl b3 v3 0 bs.length) ms ts bs (okB r l ms ts bs), fun st => ctr ms.length st 4, .inl ⟨0, Nat.zero_le _, .inr rfl, rfl, (by first | (simp [upd]; done) | (simp [upd, *]; done) | rfl), (by first | (simp [upd]; done) | (simp [upd, *]; done) | rfl), (by first | (simp [upd]; done) | (simp [upd, *]; done) | rfl), (by first | (simp [upd]; done) | (simp [upd, *]; done) | rfl), rfl⟩, ?_⟩
    rintro ⟨n, τ, lam, η'⟩ ⟨i, g0, g1, hn, t1, t3, t4, l1, hη⟩; simp only at hn t1 t3 t4 l1 hη; subst hn hη
    cases e1 : okB r l ms ts bs
    · have hi : i = 0 := by
        rcases g1 with h | h
        · rw [e1] at h; cases h
        · exact h
      subst hi
      by_cases hlt : 0 < ms.length
      · repeat' (first | with_reducible refine iteI (fun _ => ?_) (fun _ => ?_) | ((first | unfold AOpsC | unfold AOpsD | skip); simp (maxSteps := 1000000) (disch := (first | omega | assumption | (simp only [List.length_append, List.length_cons, List.length_nil, List.length_set]; omega))) only [go_sem, ↓skipC, ↓exitC, ↓retC, ↓seqC, ↓blockC, ↓condC, ↓regC, ↓drawC, ↓drawStep, ↓AOpC, ↓AOpF, ↓AOpE, ↓AEff, ↓contE_at, ↓contC_at, ↓keepC_at, ↓keepW_at, ↓keepO_at, ↓keepL_at, ↓map_parts, ↓reduceIte, reduceCtorEq, Nat.reduceLT, Nat.reduceEqDiff, Nat.reduceAdd, Nat.reduceMul, Nat.reduceLeDiff, Nat.reduceSub, Nat.reduceBEq, Nat.reduceBNe, Nat.reduceBneDiff, Nat.reduceBeqDiff, ag_27, ag_29, ag_3, by_27, by_29, by_3, el_27, fi_29_1, fi_29_2, in_3, nf_29, pl_29, ps_29, sz_27, sz_29, sz_3, ze_27, ze_29, ze_3, Sp14, SOk, Dr14, hb0, hb1, hb2, hb3, d1, d2, d3, d4, o1, o2, o3, o4, t1, t3, t4, l1, e1, great, maxStep, List.foldl_cons, List.foldl_nil]))
        exact KI hK (by simp [greatR, e1, great])
      · repeat' (first | with_reducible refine iteI (fun _ => ?_) (fun _ => ?_) | ((first | unfold AOpsC | unfold AOpsD | skip); simp (maxSteps := 1000000) (disch := (first | omega | assumption | (simp only [List.length_append, List.length_cons, List.length_nil, List.length_set]; omega))) only [go_sem, ↓skipC, ↓exitC, ↓retC, ↓seqC, ↓blockC, ↓condC, ↓regC, ↓drawC, ↓drawStep, ↓AOpC, ↓AOpF, ↓AOpE, ↓AEff, ↓contE_at, ↓contC_at, ↓keepC_at, ↓keepW_at, ↓keepO_at, ↓keepL_at, ↓map_parts, ↓reduceIte, reduceCtorEq, Nat.reduceLT, Nat.reduceEqDiff, Nat.reduceAdd, Nat.reduceMul, Nat.reduceLeDiff, Nat.reduceSub, Nat.reduceBEq, Nat.reduceBNe, Nat.reduceBneDiff, Nat.reduceBeqDiff, ag_27, ag_29, ag_3, by_27, by_29, by_3, el_27, fi_29_1, fi_29_2, in_3, nf_29, pl_29, ps_29, sz_27, sz_29, sz_3, ze_27, ze_29, ze_3, Sp14, SOk, Dr14, hb0, hb1, hb2, hb3, d1, d2, d3, d4, o1, o2, o3, o4, t1, t3, t4, l1, e1, great, maxStep, List.foldl_cons, List.foldl_nil]))
        exact KI hK (by simp [greatR, e1, great])
    obtain ⟨k1, k2, k3, k4, k5, k6, k7, k8⟩ := okT e1
    by_cases hlt : i < ms.length
    · have m1 := cells_at k7 hlt
      skip
      by_cases hm' : 0 < ms.getD i 0
      · have hq := upq_bd m1 hm'
        unfold upq at hq
        by_cases hu : great ms ts i < (ts.getD i 0 + ms.getD i 0 - 1).tdiv (ms.getD i 0)
        · have hgr : great ms ts (i + 1) = (ts.getD i 0 + ms.getD i 0 - 1).tdiv (ms.getD i 0) := by rw [great, if_pos ⟨hm', hu⟩]; rfl
          repeat' (first | with_reducible refine iteI (fun _ => ?_) (fun _ => ?_) | ((first | unfold AOpsC | unfold AOpsD | skip); simp (maxSteps := 1000000) (disch := (first | omega | assumption | (simp only [List.length_append, List.length_cons, List.length_nil, List.length_set]; omega))) only [go_sem, ↓skipC, ↓exitC, ↓retC, ↓seqC, ↓blockC, ↓condC, ↓regC, ↓drawC, ↓drawStep, ↓AOpC, ↓AOpF, ↓AOpE, ↓AEff, ↓contE_at, ↓contC_at, ↓keepC_at, ↓keepW_at, ↓keepO_at, ↓keepL_at, ↓map_parts, ↓reduceIte, reduceCtorEq, Nat.reduceLT, Nat.reduceEqDiff, Nat.reduceAdd, Nat.reduceMul, Nat.reduceLeDiff, Nat.reduceSub, Nat.reduceBEq, Nat.reduceBNe, Nat.reduceBneDiff, Nat.reduceBeqDiff, ag_27, ag_29, ag_3, by_27, by_29, by_3, el_27, fi_29_1, fi_29_2, in_3, nf_29, pl_29, ps_29, sz_27, sz_29, sz_3, ze_27, ze_29, ze_3, Sp14, SOk, Dr14, hb0, hb1, hb2, hb3, d1, d2, d3, d4, o1, o2, o3, o4, t1, t3, t4, l1, e1, maxStep, List.foldl_cons, List.foldl_nil]))
          try rw [← hgr]
          refine ⟨⟨i + 1, hlt, .inl rfl, rfl, (by simp [upd, t1, t3, t4]), (by simp [upd, t1, t3, t4]), (by simp [upd, t1, t3, t4]), (by simp [upd, l1]), rfl⟩, (by simp [ctr, upd, t1, t3, t4]; omega)⟩
        · have hgr : great ms ts (i + 1) = great ms ts i := by rw [great, if_neg (fun hh => hu hh.2)]
          repeat' (first | with_reducible refine iteI (fun _ => ?_) (fun _ => ?_) | ((first | unfold AOpsC | unfold AOpsD | skip); simp (maxSteps := 1000000) (disch := (first | omega | assumption | (simp only [List.length_append, List.length_cons, List.length_nil, List.length_set]; omega))) only [go_sem, ↓skipC, ↓exitC, ↓retC, ↓seqC, ↓blockC, ↓condC, ↓regC, ↓drawC, ↓drawStep, ↓AOpC, ↓AOpF, ↓AOpE, ↓AEff, ↓contE_at, ↓contC_at, ↓keepC_at, ↓keepW_at, ↓keepO_at, ↓keepL_at, ↓map_parts, ↓reduceIte, reduceCtorEq, Nat.reduceLT, Nat.reduceEqDiff, Nat.reduceAdd, Nat.reduceMul, Nat.reduceLeDiff, Nat.reduceSub, Nat.reduceBEq, Nat.reduceBNe, Nat.reduceBneDiff, Nat.reduceBeqDiff, ag_27, ag_29, ag_3, by_27, by_29, by_3, el_27, fi_29_1, fi_29_2, in_3, nf_29, pl_29, ps_29, sz_27, sz_29, sz_3, ze_27, ze_29, ze_3, Sp14, SOk, Dr14, hb0, hb1, hb2, hb3, d1, d2, d3, d4, o1, o2, o3, o4, t1, t3, t4, l1, e1, maxStep, List.foldl_cons, List.foldl_nil]))
          rw [← hgr] at t3
          try rw [← hgr]
          refine ⟨⟨i + 1, hlt, .inl rfl, rfl, (by simp [upd, t1, t3, t4]), (by simp [upd, t1, t3, t4]), (by simp [upd, t1, t3, t4]), (by simp [upd, l1]), rfl⟩, (by simp [ctr, upd, t1, t3, t4]; omega)⟩
      · have hgr : great ms ts (i + 1) = great ms ts i := by rw [great, if_neg (fun hh => hm' hh.1)]
        repeat' (first | with_reducible refine iteI (fun _ => ?_) (fun _ => ?_) | ((first | unfold AOpsC | unfold AOpsD | skip); simp (maxSteps := 1000000) (disch := (first | omega | assumption | (simp only [List.length_append, List.length_cons, List.length_nil, List.length_set]; omega))) only [go_sem, ↓skipC, ↓exitC, ↓retC, ↓seqC, ↓blockC, ↓condC, ↓regC, ↓drawC, ↓drawStep, ↓AOpC, ↓AOpF, ↓AOpE, ↓AEff, ↓contE_at, ↓contC_at, ↓keepC_at, ↓keepW_at, ↓keepO_at, ↓keepL_at, ↓map_parts, ↓reduceIte, reduceCtorEq, Nat.reduceLT, Nat.reduceEqDiff, Nat.reduceAdd, Nat.reduceMul, Nat.reduceLeDiff, Nat.reduceSub, Nat.reduceBEq, Nat.reduceBNe, Nat.reduceBneDiff, Nat.reduceBeqDiff, ag_27, ag_29, ag_3, by_27, by_29, by_3, el_27, fi_29_1, fi_29_2, in_3, nf_29, pl_29, ps_29, sz_27, sz_29, sz_3, ze_27, ze_29, ze_3, Sp14, SOk, Dr14, hb0, hb1, hb2, hb3, d1, d2, d3, d4, o1, o2, o3, o4, t1, t3, t4, l1, e1, maxStep, List.foldl_cons, List.foldl_nil]))
        rw [← hgr] at t3
        try rw [← hgr]
        refine ⟨⟨i + 1, hlt, .inl rfl, rfl, (by simp [upd, t1, t3, t4]), (by simp [upd, t1, t3, t4]), (by simp [upd, t1, t3, t4]), (by simp [upd, l1]), rfl⟩, (by simp [ctr, upd, t1, t3, t4]; omega)⟩
    · obtain rfl : i = ms.length := by omega
      repeat' (first | with_reducible refine iteI (fun _ => ?_) (fun _ => ?_) | ((first | unfold AOpsC | unfold AOpsD | skip); simp (maxSteps := 1000000) (disch := (first | omega | assumption | (simp only [List.length_append, List.length_cons, List.length_nil, List.length_set]; omega))) only [go_sem, ↓skipC, ↓exitC, ↓retC, ↓seqC, ↓blockC, ↓condC, ↓regC, ↓drawC, ↓drawStep, ↓AOpC, ↓AOpF, ↓AOpE, ↓AEff, ↓contE_at, ↓contC_at, ↓keepC_at, ↓keepW_at, ↓keepO_at, ↓keepL_at, ↓map_parts, ↓reduceIte, reduceCtorEq, Nat.reduceLT, Nat.reduceEqDiff, Nat.reduceAdd, Nat.reduceMul, Nat.reduceLeDiff, Nat.reduceSub, Nat.reduceBEq, Nat.reduceBNe, Nat.reduceBneDiff, Nat.reduceBeqDiff, ag_27, ag_29, ag_3, by_27, by_29, by_3, el_27, fi_29_1, fi_29_2, in_3, nf_29, pl_29, ps_29, sz_27, sz_29, sz_3, ze_27, ze_29, ze_3, Sp14, SOk, Dr14, hb0, hb1, hb2, hb3, d1, d2, d3, d4, o1, o2, o3, o4, t1, t3, t4, l1, e1, maxStep, List.foldl_cons, List.foldl_nil]))
      exact KI hK (by rw [greatR, if_pos e1])
  · exact h.elim

def invGrI (η : List Blk) (r : Int) (v a b c : AV) (ms ts bs : List Int) (ok : Bool) (st : St) : Prop := ∃ i : Nat, (i ≤ ms.length) ∧ (ok = true ∨ i = 0) ∧ st.n = 34 ∧ st.τ 1 = .loc 1 1 0 ∧ st.τ 3 = .int .i64 (great ms ts i) ∧ st.τ 11 = a ∧ st.τ 12 = .int .i64 ms.length ∧ st.τ 13 = .int .i64 i ∧ st.lam 1 = ⟨1, [.int .i64 r, v, a, b, c]⟩ ∧ st.η = η

/- impl.GreatestShare -/
def Sp12 (lo : Nat) : Spec := fun g args η K => match g with | 46 => SOk args η K | _ => False
theorem Sp12_ok {lo : Nat} : Sound Try.prog lo (Sp12 lo) := by
  intro g args η K h
  unfold Sp12 at h
  split at h
  · exact f46_ok h
  · exact h.elim
theorem f12_ok {lo : Nat} {args : List AV} {η : List Blk} {K : AV → List Blk → Prop} (h : SGreat args η K) : AF Try.prog lo 12 args η K := by
  unfold SGreat at h
  split at h
  · obtain ⟨⟨⟨l, hr, hl⟩, ⟨ms, ha, hla⟩, ⟨ts, hb, hlb⟩, ⟨bs, hc, hlc⟩⟩, hK⟩ := h
    rename_i r _ _ _ _
    have d1 := hr.dec3
    have d2 := ha.dec
    have d3 := hb.dec
    have d4 := hc.dec
    have o1 : ok3 63 _ _ := ⟨l, hr, hl⟩
    have o2 : okI _ _ := ⟨ms, ha, hla⟩
    have o3 : okI _ _ := ⟨ts, hb, hlb⟩
    have o4 : okI _ _ := ⟨bs, hc, hlc⟩
    simp only [d1, d2, d3, d4] at hK
    have hr' := hr
    have ha' := ha
    have hb' := hb
    have hc' := hc
    obtain ⟨b0, v0, rfl, hb0⟩ := hr'
    obtain ⟨b1, v1, rfl, hb1⟩ := ha'
    obtain ⟨b2, v2, rfl, hb2⟩ := hb'
    obtain ⟨b3, v3, rfl, hb3⟩ := hc'
    refine AF_run Sp12_ok D0 [] [.tmp 2] hm Try.func12 rfl (by decide) Try.ntmps12 rfl (by kernel_rfl) (Nat.le_of_ble_eq_true rfl) ?_; intro hlo
    cases e1 : okB r l ms ts bs
    · repeat' (first | with_reducible refine iteI (fun _ => ?_) (fun _ => ?_) | ((first | unfold AOpsC | unfold AOpsD | skip); simp (maxSteps := 1000000) (disch := (first | omega | assumption | (simp only [List.length_append, List.length_cons, List.length_nil, List.length_set]; omega))) only [go_sem, ↓skipC, ↓exitC, ↓retC, ↓seqC, ↓blockC, ↓condC, ↓regC, ↓drawC, ↓drawStep, ↓AOpC, ↓AOpF, ↓AOpE, ↓AEff, ↓contE_at, ↓contC_at, ↓keepC_at, ↓keepW_at, ↓keepO_at, ↓keepL_at, ↓map_parts, ↓reduceIte, reduceCtorEq, Nat.reduceLT, Nat.reduceEqDiff, Nat.reduceAdd, Nat.reduceMul, Nat.reduceLeDiff, Nat.reduceSub, Nat.reduceBEq, Nat.reduceBNe, Nat.reduceBneDiff, Nat.reduceBeqDiff, ag_27, ag_29, ag_3, by_27, by_29, by_3, el_27, fi_29_1, fi_29_2, in_3, nf_29, pl_29, ps_29, sz_27, sz_29, sz_3, ze_27, ze_29, ze_3, Sp12, SOk, hb0, hb1, hb2, hb3, d1, d2, d3, d4, o1, o2, o3, o4, e1]))
      exact KI hK (by simp [greatR, e1])
    repeat' (first | with_reducible refine iteI (fun _ => ?_) (fun _ => ?_) | ((first | unfold AOpsC | unfold AOpsD | skip); simp (maxSteps := 1000000) (disch := (first | omega | assumption | (simp only [List.length_append, List.length_cons, List.length_nil, List.length_set]; omega))) only [go_sem, ↓skipC, ↓exitC, ↓retC, ↓seqC, ↓blockC, ↓condC, ↓regC, ↓drawC, ↓drawStep, ↓AOpC, ↓AOpF, ↓AOpE, ↓AEff, ↓contE_at, ↓contC_at, ↓keepC_at, ↓keepW_at, ↓keepO_at, ↓keepL_at, ↓map_parts, ↓reduceIte, reduceCtorEq, Nat.reduceLT, Nat.reduceEqDiff, Nat.reduceAdd, Nat.reduceMul, Nat.reduceLeDiff, Nat.reduceSub, Nat.reduceBEq, Nat.reduceBNe, Nat.reduceBneDiff, Nat.reduceBeqDiff, ag_27, ag_29, ag_3, by_27, by_29, by_3, el_27, fi_29_1, fi_29_2, in_3, nf_29, pl_29, ps_29, sz_27, sz_29, sz_3, ze_27, ze_29, ze_3, Sp12, SOk, hb0, hb1, hb2, hb3, d1, d2, d3, d4, o1, o2, o3, o4, e1]))
    refine ⟨invGrI η r (.sl b0 v0 0 l.length) (.sl b1 v1 0 ms.length) (.sl b2 v2 0 ts.length) (.sl b3 v3 0 bs.length) ms ts bs true, fun st => ctr ms.length st 13, .inl ⟨0, Nat.zero_le _, .inl rfl, rfl, (by first | (simp [upd]; done) | (simp [upd, *]; done) | rfl), (by first | (simp [upd]; done) | (simp [upd, *]; done) | rfl), (by first | (simp [upd]; done) | (simp [upd, *]; done) | rfl), (by first | (simp [upd]; done) | (simp [upd, *]; done) | rfl), (by first | (simp [upd]; done) | (simp [upd, *]; done) | rfl), (by first | (simp [upd]; done) | (simp [upd, *]; done) | rfl), rfl⟩, ?_⟩
    rintro ⟨n, τ, lam, η'⟩ ⟨i, g0, g1, hn, t1, t3, t11, t12, t13, l1, hη⟩; simp only at hn t1 t3 t11 t12 t13 l1 hη; subst hn hη
    obtain ⟨k1, k2, k3, k4, k5, k6, k7, k8⟩ := okT e1
    by_cases hlt : i < ms.length
    · have m1 := cells_at k7 hlt
      skip
      by_cases hm' : 0 < ms.getD i 0
      · have hq := upq_bd m1 hm'
        unfold upq at hq
        by_cases hu : great ms ts i < (ts.getD i 0 + ms.getD i 0 - 1).tdiv (ms.getD i 0)
        · have hgr : great ms ts (i + 1) = (ts.getD i 0 + ms.getD i 0 - 1).tdiv (ms.getD i 0) := by rw [great, if_pos ⟨hm', hu⟩]; rfl
          repeat' (first | with_reducible refine iteI (fun _ => ?_) (fun _ => ?_) | ((first | unfold AOpsC | unfold AOpsD | skip); simp (maxSteps := 1000000) (disch := (first | omega | assumption | (simp only [List.length_append, List.length_cons, List.length_nil, List.length_set]; omega))) only [go_sem, ↓skipC, ↓exitC, ↓retC, ↓seqC, ↓blockC, ↓condC, ↓regC, ↓drawC, ↓drawStep, ↓AOpC, ↓AOpF, ↓AOpE, ↓AEff, ↓contE_at, ↓contC_at, ↓keepC_at, ↓keepW_at, ↓keepO_at, ↓keepL_at, ↓map_parts, ↓reduceIte, reduceCtorEq, Nat.reduceLT, Nat.reduceEqDiff, Nat.reduceAdd, Nat.reduceMul, Nat.reduceLeDiff, Nat.reduceSub, Nat.reduceBEq, Nat.reduceBNe, Nat.reduceBneDiff, Nat.reduceBeqDiff, ag_27, ag_29, ag_3, by_27, by_29, by_3, el_27, fi_29_1, fi_29_2, in_3, nf_29, pl_29, ps_29, sz_27, sz_29, sz_3, ze_27, ze_29, ze_3, Sp12, SOk, hb0, hb1, hb2, hb3, d1, d2, d3, d4, o1, o2, o3, o4, t1, t3, t11, t12, t13, l1, e1, maxStep, List.foldl_cons, List.foldl_nil]))
          try rw [← hgr]
          refine ⟨⟨i + 1, hlt, .inl rfl, rfl, (by simp [upd, t1, t3, t11, t12, t13]), (by simp [upd, t1, t3, t11, t12, t13]), (by simp [upd, t1, t3, t11, t12, t13]), (by simp [upd, t1, t3, t11, t12, t13]), (by simp [upd, t1, t3, t11, t12, t13]), (by simp [upd, l1]), rfl⟩, (by simp [ctr, upd, t1, t3, t11, t12, t13]; omega)⟩
        · have hgr : great ms ts (i + 1) = great ms ts i := by rw [great, if_neg (fun hh => hu hh.2)]
          repeat' (first | with_reducible refine iteI (fun _ => ?_) (fun _ => ?_) | ((first | unfold AOpsC | unfold AOpsD | skip); simp (maxSteps := 1000000) (disch := (first | omega | assumption | (simp only [List.length_append, List.length_cons, List.length_nil, List.length_set]; omega))) only [go_sem, ↓skipC, ↓exitC, ↓retC, ↓seqC, ↓blockC, ↓condC, ↓regC, ↓drawC, ↓drawStep, ↓AOpC, ↓AOpF, ↓AOpE, ↓AEff, ↓contE_at, ↓contC_at, ↓keepC_at, ↓keepW_at, ↓keepO_at, ↓keepL_at, ↓map_parts, ↓reduceIte, reduceCtorEq, Nat.reduceLT, Nat.reduceEqDiff, Nat.reduceAdd, Nat.reduceMul, Nat.reduceLeDiff, Nat.reduceSub, Nat.reduceBEq, Nat.reduceBNe, Nat.reduceBneDiff, Nat.reduceBeqDiff, ag_27, ag_29, ag_3, by_27, by_29, by_3, el_27, fi_29_1, fi_29_2, in_3, nf_29, pl_29, ps_29, sz_27, sz_29, sz_3, ze_27, ze_29, ze_3, Sp12, SOk, hb0, hb1, hb2, hb3, d1, d2, d3, d4, o1, o2, o3, o4, t1, t3, t11, t12, t13, l1, e1, maxStep, List.foldl_cons, List.foldl_nil]))
          rw [← hgr] at t3
          try rw [← hgr]
          refine ⟨⟨i + 1, hlt, .inl rfl, rfl, (by simp [upd, t1, t3, t11, t12, t13]), (by simp [upd, t1, t3, t11, t12, t13]), (by simp [upd, t1, t3, t11, t12, t13]), (by simp [upd, t1, t3, t11, t12, t13]), (by simp [upd, t1, t3, t11, t12, t13]), (by simp [upd, l1]), rfl⟩, (by simp [ctr, upd, t1, t3, t11, t12, t13]; omega)⟩
      · have hgr : great ms ts (i + 1) = great ms ts i := by rw [great, if_neg (fun hh => hm' hh.1)]
        repeat' (first | with_reducible refine iteI (fun _ => ?_) (fun _ => ?_) | ((first | unfold AOpsC | unfold AOpsD | skip); simp (maxSteps := 1000000) (disch := (first | omega | assumption | (simp only [List.length_append, List.length_cons, List.length_nil, List.length_set]; omega))) only [go_sem, ↓skipC, ↓exitC, ↓retC, ↓seqC, ↓blockC, ↓condC, ↓regC, ↓drawC, ↓drawStep, ↓AOpC, ↓AOpF, ↓AOpE, ↓AEff, ↓contE_at, ↓contC_at, ↓keepC_at, ↓keepW_at, ↓keepO_at, ↓keepL_at, ↓map_parts, ↓reduceIte, reduceCtorEq, Nat.reduceLT, Nat.reduceEqDiff, Nat.reduceAdd, Nat.reduceMul, Nat.reduceLeDiff, Nat.reduceSub, Nat.reduceBEq, Nat.reduceBNe, Nat.reduceBneDiff, Nat.reduceBeqDiff, ag_27, ag_29, ag_3, by_27, by_29, by_3, el_27, fi_29_1, fi_29_2, in_3, nf_29, pl_29, ps_29, sz_27, sz_29, sz_3, ze_27, ze_29, ze_3, Sp12, SOk, hb0, hb1, hb2, hb3, d1, d2, d3, d4, o1, o2, o3, o4, t1, t3, t11, t12, t13, l1, e1, maxStep, List.foldl_cons, List.foldl_nil]))
        rw [← hgr] at t3
        try rw [← hgr]
        refine ⟨⟨i + 1, hlt, .inl rfl, rfl, (by simp [upd, t1, t3, t11, t12, t13]), (by simp [upd, t1, t3, t11, t12, t13]), (by simp [upd, t1, t3, t11, t12, t13]), (by simp [upd, t1, t3, t11, t12, t13]), (by simp [upd, t1, t3, t11, t12, t13]), (by simp [upd, l1]), rfl⟩, (by simp [ctr, upd, t1, t3, t11, t12, t13]; omega)⟩
    · obtain rfl : i = ms.length := by omega
      repeat' (first | with_reducible refine iteI (fun _ => ?_) (fun _ => ?_) | ((first | unfold AOpsC | unfold AOpsD | skip); simp (maxSteps := 1000000) (disch := (first | omega | assumption | (simp only [List.length_append, List.length_cons, List.length_nil, List.length_set]; omega))) only [go_sem, ↓skipC, ↓exitC, ↓retC, ↓seqC, ↓blockC, ↓condC, ↓regC, ↓drawC, ↓drawStep, ↓AOpC, ↓AOpF, ↓AOpE, ↓AEff, ↓contE_at, ↓contC_at, ↓keepC_at, ↓keepW_at, ↓keepO_at, ↓keepL_at, ↓map_parts, ↓reduceIte, reduceCtorEq, Nat.reduceLT, Nat.reduceEqDiff, Nat.reduceAdd, Nat.reduceMul, Nat.reduceLeDiff, Nat.reduceSub, Nat.reduceBEq, Nat.reduceBNe, Nat.reduceBneDiff, Nat.reduceBeqDiff, ag_27, ag_29, ag_3, by_27, by_29, by_3, el_27, fi_29_1, fi_29_2, in_3, nf_29, pl_29, ps_29, sz_27, sz_29, sz_3, ze_27, ze_29, ze_3, Sp12, SOk, hb0, hb1, hb2, hb3, d1, d2, d3, d4, o1, o2, o3, o4, t1, t3, t11, t12, t13, l1, e1, maxStep, List.foldl_cons, List.foldl_nil]))
      exact KI hK (by rw [greatR, if_pos e1])
  · exact h.elim

def invLeI (η : List Blk) (r : Int) (v a b c : AV) (ms ts bs : List Int) (ok : Bool) (st : St) : Prop := ∃ i : Nat, (i ≤ ms.length) ∧ (ok = true ∨ i = 0) ∧ st.n = 38 ∧ st.τ 1 = .loc 1 1 0 ∧ st.τ 3 = .int .i64 (least ms ts i) ∧ st.τ 11 = a ∧ st.τ 12 = .int .i64 ms.length ∧ st.τ 13 = .int .i64 i ∧ st.lam 1 = ⟨1, [.int .i64 r, v, a, b, c]⟩ ∧ st.η = η

/- impl.LeastShare -/
def Sp13 (lo : Nat) : Spec := fun g args η K => match g with | 46 => SOk args η K | _ => False
theorem Sp13_ok {lo : Nat} : Sound Try.prog lo (Sp13 lo) := by
  intro g args η K h
  unfold Sp13 at h
  split at h
  · exact f46_ok h
  · exact h.elim
theorem f13_ok {lo : Nat} {args : List AV} {η : List Blk} {K : AV → List Blk → Prop} (h : SLeast args η K) : AF Try.prog lo 13 args η K := by
  unfold SLeast at h
  split at h
  · obtain ⟨⟨⟨l, hr, hl⟩, ⟨ms, ha, hla⟩, ⟨ts, hb, hlb⟩, ⟨bs, hc, hlc⟩⟩, hK⟩ := h
    rename_i r _ _ _ _
    have d1 := hr.dec3
    have d2 := ha.dec
    have d3 := hb.dec
    have d4 := hc.dec
    have o1 : ok3 63 _ _ := ⟨l, hr, hl⟩
    have o2 : okI _ _ := ⟨ms, ha, hla⟩
    have o3 : okI _ _ := ⟨ts, hb, hlb⟩
    have o4 : okI _ _ := ⟨bs, hc, hlc⟩
    simp only [d1, d2, d3, d4] at hK
    have hr' := hr
    have ha' := ha
    have hb' := hb
    have hc' := hc
    obtain ⟨b0, v0, rfl, hb0⟩ := hr'
    obtain ⟨b1, v1, rfl, hb1⟩ := ha'
    obtain ⟨b2, v2, rfl, hb2⟩ := hb'
    obtain ⟨b3, v3, rfl, hb3⟩ := hc'
    refine AF_run Sp13_ok D0 [] [.tmp 2] hm Try.func13 rfl (by decide) Try.ntmps13 rfl (by kernel_rfl) (Nat.le_of_ble_eq_true rfl) ?_; intro hlo
    cases e1 : okB r l ms ts bs
    · repeat' (first | with_reducible refine iteI (fun _ => ?_) (fun _ => ?_) | ((first | unfold AOpsC | unfold AOpsD | skip); simp (maxSteps := 1000000) (disch := (first | omega | assumption | (simp only [List.length_append, List.length_cons, List.length_nil, List.length_set]; omega))) only [go_sem, ↓skipC, ↓exitC, ↓retC, ↓seqC, ↓blockC, ↓condC, ↓regC, ↓drawC, ↓drawStep, ↓AOpC, ↓AOpF, ↓AOpE, ↓AEff, ↓contE_at, ↓contC_at, ↓keepC_at, ↓keepW_at, ↓keepO_at, ↓keepL_at, ↓map_parts, ↓reduceIte, reduceCtorEq, Nat.reduceLT, Nat.reduceEqDiff, Nat.reduceAdd, Nat.reduceMul, Nat.reduceLeDiff, Nat.reduceSub, Nat.reduceBEq, Nat.reduceBNe, Nat.reduceBneDiff, Nat.reduceBeqDiff, ag_27, ag_29, ag_3, by_27, by_29, by_3, el_27, fi_29_1, fi_29_2, in_3, nf_29, pl_29, ps_29, sz_27, sz_29, sz_3, ze_27, ze_29, ze_3, Sp13, SOk, hb0, hb1, hb2, hb3, d1, d2, d3, d4, o1, o2, o3, o4, e1]))
      exact KI hK (by simp [leastR, e1])
    repeat' (first | with_reducible refine iteI (fun _ => ?_) (fun _ => ?_) | ((first | unfold AOpsC | unfold AOpsD | skip); simp (maxSteps := 1000000) (disch := (first | omega | assumption | (simp only [List.length_append, List.length_cons, List.length_nil, List.length_set]; omega))) only [go_sem, ↓skipC, ↓exitC, ↓retC, ↓seqC, ↓blockC, ↓condC, ↓regC, ↓drawC, ↓drawStep, ↓AOpC, ↓AOpF, ↓AOpE, ↓AEff, ↓contE_at, ↓contC_at, ↓keepC_at, ↓keepW_at, ↓keepO_at, ↓keepL_at, ↓map_parts, ↓reduceIte, reduceCtorEq, Nat.reduceLT, Nat.reduceEqDiff, Nat.reduceAdd, Nat.reduceMul, Nat.reduceLeDiff, Nat.reduceSub, Nat.reduceBEq, Nat.reduceBNe, Nat.reduceBneDiff, Nat.reduceBeqDiff, ag_27, ag_29, ag_3, by_27, by_29, by_3, el_27, fi_29_1, fi_29_2, in_3, nf_29, pl_29, ps_29, sz_27, sz_29, sz_3, ze_27, ze_29, ze_3, Sp13, SOk, hb0, hb1, hb2, hb3, d1, d2, d3, d4, o1, o2, o3, o4, e1]))
    refine ⟨invLeI η r (.sl b0 v0 0 l.length) (.sl b1 v1 0 ms.length) (.sl b2 v2 0 ts.length) (.sl b3 v3 0 bs.length) ms ts bs true, fun st => ctr ms.length st 13, .inl ⟨0, Nat.zero_le _, .inl rfl, rfl, (by first | (simp [upd]; done) | (simp [upd, *]; done) | rfl), (by first | (simp [upd]; done) | (simp [upd, *]; done) | rfl), (by first | (simp [upd]; done) | (simp [upd, *]; done) | rfl), (by first | (simp [upd]; done) | (simp [upd, *]; done) | rfl), (by first | (simp [upd]; done) | (simp [upd, *]; done) | rfl), (by first | (simp [upd]; done) | (simp [upd, *]; done) | rfl), rfl⟩, ?_⟩
    rintro ⟨n, τ, lam, η'⟩ ⟨i, g0, g1, hn, t1, t3, t11, t12, t13, l1, hη⟩; simp only at hn t1 t3 t11 t12 t13 l1 hη; subst hn hη
    obtain ⟨k1, k2, k3, k4, k5, k6, k7, k8⟩ := okT e1
    by_cases hlt : i < ms.length
    · have m1 := cells_at k7 hlt
      skip
      have hq := loq_bd m1
      unfold loq at hq
      by_cases hm' : 0 < ms.getD i 0
      · have hmz : ¬ ms.getD i 0 = 0 := by omega
        by_cases hu : least ms ts i < 0
        · have hgr : least ms ts (i + 1) = (ts.getD i 0).tdiv (ms.getD i 0) := by rw [least, if_pos ⟨hm', .inl hu⟩]; rfl
          repeat' (first | with_reducible refine iteI (fun _ => ?_) (fun _ => ?_) | ((first | unfold AOpsC | unfold AOpsD | skip); simp (maxSteps := 1000000) (disch := (first | omega | assumption | (simp only [List.length_append, List.length_cons, List.length_nil, List.length_set]; omega))) only [go_sem, ↓skipC, ↓exitC, ↓retC, ↓seqC, ↓blockC, ↓condC, ↓regC, ↓drawC, ↓drawStep, ↓AOpC, ↓AOpF, ↓AOpE, ↓AEff, ↓contE_at, ↓contC_at, ↓keepC_at, ↓keepW_at, ↓keepO_at, ↓keepL_at, ↓map_parts, ↓reduceIte, reduceCtorEq, Nat.reduceLT, Nat.reduceEqDiff, Nat.reduceAdd, Nat.reduceMul, Nat.reduceLeDiff, Nat.reduceSub, Nat.reduceBEq, Nat.reduceBNe, Nat.reduceBneDiff, Nat.reduceBeqDiff, ag_27, ag_29, ag_3, by_27, by_29, by_3, el_27, fi_29_1, fi_29_2, in_3, nf_29, pl_29, ps_29, sz_27, sz_29, sz_3, ze_27, ze_29, ze_3, Sp13, SOk, hb0, hb1, hb2, hb3, d1, d2, d3, d4, o1, o2, o3, o4, t1, t3, t11, t12, t13, l1, e1]))
          try rw [← hgr]
          refine ⟨⟨i + 1, hlt, .inl rfl, rfl, (by simp [upd, t1, t3, t11, t12, t13]), (by simp [upd, t1, t3, t11, t12, t13]), (by simp [upd, t1, t3, t11, t12, t13]), (by simp [upd, t1, t3, t11, t12, t13]), (by simp [upd, t1, t3, t11, t12, t13]), (by simp [upd, l1]), rfl⟩, (by simp [ctr, upd, t1, t3, t11, t12, t13]; omega)⟩
        · by_cases hw : (ts.getD i 0).tdiv (ms.getD i 0) < least ms ts i
          · have hgr : least ms ts (i + 1) = (ts.getD i 0).tdiv (ms.getD i 0) := by rw [least, if_pos ⟨hm', .inr hw⟩]; rfl
            repeat' (first | with_reducible refine iteI (fun _ => ?_) (fun _ => ?_) | ((first | unfold AOpsC | unfold AOpsD | skip); simp (maxSteps := 1000000) (disch := (first | omega | assumption | (simp only [List.length_append, List.length_cons, List.length_nil, List.length_set]; omega))) only [go_sem, ↓skipC, ↓exitC, ↓retC, ↓seqC, ↓blockC, ↓condC, ↓regC, ↓drawC, ↓drawStep, ↓AOpC, ↓AOpF, ↓AOpE, ↓AEff, ↓contE_at, ↓contC_at, ↓keepC_at, ↓keepW_at, ↓keepO_at, ↓keepL_at, ↓map_parts, ↓reduceIte, reduceCtorEq, Nat.reduceLT, Nat.reduceEqDiff, Nat.reduceAdd, Nat.reduceMul, Nat.reduceLeDiff, Nat.reduceSub, Nat.reduceBEq, Nat.reduceBNe, Nat.reduceBneDiff, Nat.reduceBeqDiff, ag_27, ag_29, ag_3, by_27, by_29, by_3, el_27, fi_29_1, fi_29_2, in_3, nf_29, pl_29, ps_29, sz_27, sz_29, sz_3, ze_27, ze_29, ze_3, Sp13, SOk, hb0, hb1, hb2, hb3, d1, d2, d3, d4, o1, o2, o3, o4, t1, t3, t11, t12, t13, l1, e1]))
            try rw [← hgr]
            refine ⟨⟨i + 1, hlt, .inl rfl, rfl, (by simp [upd, t1, t3, t11, t12, t13]), (by simp [upd, t1, t3, t11, t12, t13]), (by simp [upd, t1, t3, t11, t12, t13]), (by simp [upd, t1, t3, t11, t12, t13]), (by simp [upd, t1, t3, t11, t12, t13]), (by simp [upd, l1]), rfl⟩, (by simp [ctr, upd, t1, t3, t11, t12, t13]; omega)⟩
          · have hgr : least ms ts (i + 1) = least ms ts i := by
              rw [least, if_neg]
              rintro ⟨_, h | h⟩
              · exact hu h
              · exact hw h
            repeat' (first | with_reducible refine iteI (fun _ => ?_) (fun _ => ?_) | ((first | unfold AOpsC | unfold AOpsD | skip); simp (maxSteps := 1000000) (disch := (first | omega | assumption | (simp only [List.length_append, List.length_cons, List.length_nil, List.length_set]; omega))) only [go_sem, ↓skipC, ↓exitC, ↓retC, ↓seqC, ↓blockC, ↓condC, ↓regC, ↓drawC, ↓drawStep, ↓AOpC, ↓AOpF, ↓AOpE, ↓AEff, ↓contE_at, ↓contC_at, ↓keepC_at, ↓keepW_at, ↓keepO_at, ↓keepL_at, ↓map_parts, ↓reduceIte, reduceCtorEq, Nat.reduceLT, Nat.reduceEqDiff, Nat.reduceAdd, Nat.reduceMul, Nat.reduceLeDiff, Nat.reduceSub, Nat.reduceBEq, Nat.reduceBNe, Nat.reduceBneDiff, Nat.reduceBeqDiff, ag_27, ag_29, ag_3, by_27, by_29, by_3, el_27, fi_29_1, fi_29_2, in_3, nf_29, pl_29, ps_29, sz_27, sz_29, sz_3, ze_27, ze_29, ze_3, Sp13, SOk, hb0, hb1, hb2, hb3, d1, d2, d3, d4, o1, o2, o3, o4, t1, t3, t11, t12, t13, l1, e1]))
            rw [← hgr] at t3
            try rw [← hgr]
            refine ⟨⟨i + 1, hlt, .inl rfl, rfl, (by simp [upd, t1, t3, t11, t12, t13]), (by simp [upd, t1, t3, t11, t12, t13]), (by simp [upd, t1, t3, t11, t12, t13]), (by simp [upd, t1, t3, t11, t12, t13]), (by simp [upd, t1, t3, t11, t12, t13]), (by simp [upd, l1]), rfl⟩, (by simp [ctr, upd, t1, t3, t11, t12, t13]; omega)⟩
      · have hmz : ms.getD i 0 = 0 := by omega
        have hgr : least ms ts (i + 1) = least ms ts i := by rw [least, if_neg (fun hh => hm' hh.1)]
        repeat' (first | with_reducible refine iteI (fun _ => ?_) (fun _ => ?_) | ((first | unfold AOpsC | unfold AOpsD | skip); simp (maxSteps := 1000000) (disch := (first | omega | assumption | (simp only [List.length_append, List.length_cons, List.length_nil, List.length_set]; omega))) only [go_sem, ↓skipC, ↓exitC, ↓retC, ↓seqC, ↓blockC, ↓condC, ↓regC, ↓drawC, ↓drawStep, ↓AOpC, ↓AOpF, ↓AOpE, ↓AEff, ↓contE_at, ↓contC_at, ↓keepC_at, ↓keepW_at, ↓keepO_at, ↓keepL_at, ↓map_parts, ↓reduceIte, reduceCtorEq, Nat.reduceLT, Nat.reduceEqDiff, Nat.reduceAdd, Nat.reduceMul, Nat.reduceLeDiff, Nat.reduceSub, Nat.reduceBEq, Nat.reduceBNe, Nat.reduceBneDiff, Nat.reduceBeqDiff, ag_27, ag_29, ag_3, by_27, by_29, by_3, el_27, fi_29_1, fi_29_2, in_3, nf_29, pl_29, ps_29, sz_27, sz_29, sz_3, ze_27, ze_29, ze_3, Sp13, SOk, hb0, hb1, hb2, hb3, d1, d2, d3, d4, o1, o2, o3, o4, t1, t3, t11, t12, t13, l1, e1]))
        rw [← hgr] at t3
        try rw [← hgr]
        refine ⟨⟨i + 1, hlt, .inl rfl, rfl, (by simp [upd, t1, t3, t11, t12, t13]), (by simp [upd, t1, t3, t11, t12, t13]), (by simp [upd, t1, t3, t11, t12, t13]), (by simp [upd, t1, t3, t11, t12, t13]), (by simp [upd, t1, t3, t11, t12, t13]), (by simp [upd, l1]), rfl⟩, (by simp [ctr, upd, t1, t3, t11, t12, t13]; omega)⟩
    · obtain rfl : i = ms.length := by omega
      repeat' (first | with_reducible refine iteI (fun _ => ?_) (fun _ => ?_) | ((first | unfold AOpsC | unfold AOpsD | skip); simp (maxSteps := 1000000) (disch := (first | omega | assumption | (simp only [List.length_append, List.length_cons, List.length_nil, List.length_set]; omega))) only [go_sem, ↓skipC, ↓exitC, ↓retC, ↓seqC, ↓blockC, ↓condC, ↓regC, ↓drawC, ↓drawStep, ↓AOpC, ↓AOpF, ↓AOpE, ↓AEff, ↓contE_at, ↓contC_at, ↓keepC_at, ↓keepW_at, ↓keepO_at, ↓keepL_at, ↓map_parts, ↓reduceIte, reduceCtorEq, Nat.reduceLT, Nat.reduceEqDiff, Nat.reduceAdd, Nat.reduceMul, Nat.reduceLeDiff, Nat.reduceSub, Nat.reduceBEq, Nat.reduceBNe, Nat.reduceBneDiff, Nat.reduceBeqDiff, ag_27, ag_29, ag_3, by_27, by_29, by_3, el_27, fi_29_1, fi_29_2, in_3, nf_29, pl_29, ps_29, sz_27, sz_29, sz_3, ze_27, ze_29, ze_3, Sp13, SOk, hb0, hb1, hb2, hb3, d1, d2, d3, d4, o1, o2, o3, o4, t1, t3, t11, t12, t13, l1, e1, maxStep, List.foldl_cons, List.foldl_nil]))
      exact KI hK (by unfold leastR; rw [if_pos e1]; first | done | (split <;> split <;> omega))
  · exact h.elim

end Go.Proofs.Ytaalpmbopkbdiaa
