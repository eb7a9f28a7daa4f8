/- What functions of the program compute, said in the abstract logic; no conditions. -/
import Derived.Test.YtffefndnnbcplaaGGreat

namespace Go.Proofs.Ytffefndnnbcplaa
open Go
set_option linter.unusedSimpArgs false
set_option linter.unusedVariables false
set_option maxRecDepth 100000
set_option maxHeartbeats 8000000
attribute [local go_sem] st0 AC thenA andC locLoadB KsSW_same KsSW_grow pv ev put upd dstOk cv cvc binI setB Value.oneCell' EndA resA resA1 List.mapM_cons List.mapM_nil Option.pure_def Option.bind_eq_bind noLocV noLoc1 noLoc noLocs plainV cellsA newVarA putCells condA lam0 inBlockA cur lenA rowA avoidsB avoidB clearB Array.toList_append Op.operands Call.operands newSlot Nat.zero_add Nat.add_zero Nat.succ_ne_self Nat.lt_add_one Nat.zero_lt_succ true_and and_true true_or or_true false_or or_false and_self true_implies forall_const Bool.false_eq_true Bool.true_eq_false false_implies implies_true imp_self ne_eq not_false_eq_true not_true_eq_false false_and and_false List.getElem?_toArray List.getElem?_cons_succ List.getElem?_cons_zero Option.bind_some Option.map_some Bool.not_true Bool.not_false List.getD_cons_zero List.getD_cons_succ Option.some.injEq exists_eq_left' AV.bool.injEq List.map_cons List.map_nil List.all_cons List.all_nil Bool.and_self Bool.and_true Bool.true_and List.append_nil List.cons_append List.nil_append List.length_cons List.length_nil List.drop_zero List.take_zero List.drop_succ_cons List.take_succ_cons List.take_nil List.drop_nil List.not_mem_nil List.mem_cons List.contains_nil List.contains_cons Bool.or_self Bool.or_true Bool.true_or Bool.false_or Bool.or_false Bool.and_false Bool.false_and KsS_same KsS_grow skipV KsS_ext KsSW_ext rep1 rep2 rep3 rep4 rep5 List.flatten_cons List.flatten_nil partsA isPtr fillA List.size_toArray ltT ltF leT leF ltTn ltFn leTn leFn eqTi eqFi wrapId toNat1 intGet boolGet memD app_get app_last app_lst app_set app_setL app_setF set_ne set_eq gt_iff_lt ge_iff_le decide_eq_true_eq len2 len3 get20 get21 drop2 put2 get30 get31 get32 drop3 put3 putI pairEta bneTi bneFi beqTi beqFi bne_eq_false_iff_eq beq_eq_false_iff_ne beq_iff_eq bne_iff_ne Int.toNat_natCast Nat.mul_one List.length_map Bool.not_eq_true Bool.not_eq_false Bool.decide_eq_true decide_true decide_false Bool.not_eq_true' Bool.not_eq_false' decide_eq_false_iff_not eq_self Decidable.not_not

def partI (a lv : Int) : Int := (a * wdI lv).tdiv 16
theorem part_bd {a : Int} (h : 0 ≤ a ∧ a ≤ 10000) (lv : Int) : 0 ≤ a * wdI lv ∧ a * wdI lv ≤ 160000 ∧ 0 ≤ partI a lv ∧ partI a lv ≤ 160000 := by
  have w := wd_bd lv
  have h1 : 0 ≤ a * wdI lv := Int.mul_nonneg h.1 w.1
  have h2 : a * wdI lv ≤ a * 16 := Int.mul_le_mul_of_nonneg_left w.2 h.1
  have h3 : 0 ≤ (a * wdI lv).tdiv 16 := Int.tdiv_nonneg h1 (by omega)
  have h4 : (a * wdI lv).tdiv 16 ≤ a * wdI lv := Int.tdiv_le_self _ h1
  unfold partI
  omega
def dry (a : Int) (l : List Id3) (ms : List Int) : Nat → Int
  | 0 => 0
  | i + 1 => if 0 < ms.getD i 0 ∧ ms.getD i 0 ≤ (a * wdI (l.getD i (0, 0, 0)).2.1).tdiv 16 then dry a l ms i + 1 else dry a l ms i
theorem dry_bd (a : Int) (l : List Id3) (ms : List Int) : ∀ i : Nat, 0 ≤ dry a l ms i ∧ dry a l ms i ≤ i
  | 0 => by simp [dry]
  | i + 1 => by
    have := dry_bd a l ms i
    rw [dry]
    split <;> omega
def dryR (r : Int) (l : List Id3) (ms ts bs : List Int) (a : Int) : Int := if okB r l ms ts bs = true ∧ inB a 0 10000 = true then dry a l ms ms.length else 0
def SPart : List AV → List Blk → (AV → List Blk → Prop) → Prop
  | [.int .i64 a, .int .i64 lv], η, K => (0 ≤ a ∧ a ≤ 10000) ∧ K (.int .i64 ((a * wdI lv).tdiv 16)) η
  | _, _, _ => False
def SPartOf : List AV → List Blk → (AV → List Blk → Prop) → Prop
  | [.agg [.int .i64 r, v, a, b, c], .int .i64 x, .int .i64 i], η, K => (ok3 45 η v ∧ okI η a ∧ okI η b ∧ okI η c ∧ (0 ≤ x ∧ x ≤ 10000) ∧ 0 ≤ i ∧ i < (dec3 45 η v).length) ∧ K (.int .i64 ((x * wdI ((dec3 45 η v).getD i.toNat (0, 0, 0)).2.1).tdiv 16)) η
  | _, _, _ => False
def SRain : List AV → List Blk → (AV → List Blk → Prop) → Prop
  | [.int .i64 x], η, K => K (.bool (inB x 0 10000)) η
  | _, _, _ => False

def SDry : List AV → List Blk → (AV → List Blk → Prop) → Prop
  | [.agg [.int .i64 r, v, a, b, c], .int .i64 i], η, K => (ok3 45 η v ∧ okI η a ∧ okI η b ∧ okI η c) ∧ K (.int .i64 (dryR r (dec3 45 η v) (decI η a) (decI η b) (decI η c) i)) η
  | _, _, _ => False

/- impl.isRain -/
def Sp110 (lo : Nat) : Spec := fun g args η K => match g with | 118 => SIn args η K | _ => False
theorem Sp110_ok {lo : Nat} : Sound Try.prog lo (Sp110 lo) := by
  intro g args η K h
  unfold Sp110 at h
  split at h
  · exact f118_ok h
  · exact h.elim
theorem f110_ok {lo : Nat} {args : List AV} {η : List Blk} {K : AV → List Blk → Prop} (h : SRain args η K) : AF Try.prog lo 110 args η K := by
  unfold SRain at h
  split at h
  · refine AF_run Sp110_ok D0 [] [.tmp 2] hm Try.func110 rfl (by decide) Try.ntmps110 rfl (by kernel_rfl) (Nat.le_of_ble_eq_true rfl) ?_; intro hlo
    repeat' (first | with_reducible refine iteI (fun _ => ?_) (fun _ => ?_) | ((first | unfold AOpsC | unfold AOpsD | skip); simp (maxSteps := 1000000) (disch := (first | omega | assumption | (simp only [List.length_append, List.length_cons, List.length_nil, List.length_set]; omega))) only [go_sem, ↓skipC, ↓exitC, ↓retC, ↓seqC, ↓blockC, ↓condC, ↓regC, ↓drawC, ↓drawStep, ↓AOpC, ↓AOpF, ↓AOpE, ↓AEff, ↓contE_at, ↓contC_at, ↓keepC_at, ↓keepW_at, ↓map_parts, ↓reduceIte, reduceCtorEq, Nat.reduceLT, Nat.reduceEqDiff, Nat.reduceAdd, Nat.reduceMul, Nat.reduceLeDiff, Nat.reduceSub, Nat.reduceBEq, Nat.reduceBNe, Nat.reduceBneDiff, Nat.reduceBeqDiff, Sp110, SIn]))
    exact h
  · exact h.elim

/- (impl.State).partOf -/
def Sp112 (lo : Nat) : Spec := fun g args η K => match g with | 93 => SWd args η K | _ => False
theorem Sp112_ok {lo : Nat} : Sound Try.prog lo (Sp112 lo) := by
  intro g args η K h
  unfold Sp112 at h
  split at h
  · exact f93_ok h
  · exact h.elim
theorem f112_ok {lo : Nat} {args : List AV} {η : List Blk} {K : AV → List Blk → Prop} (h : SPartOf args η K) : AF Try.prog lo 112 args η K := by
  unfold SPartOf at h
  split at h
  · obtain ⟨⟨⟨l, hr, hl⟩, ⟨ms, ha, hla⟩, ⟨ts, hb, hlb⟩, ⟨bs, hc, hlc⟩, hx, i0, i1⟩, hK⟩ := h
    rename_i r _ _ _ _ x i
    rw [hr.dec3] at i1
    have d1 := hr.dec3
    have d2 := ha.dec
    have d3 := hb.dec
    have d4 := hc.dec
    have o1 : ok3 45 _ _ := ⟨l, hr, hl⟩
    have o2 : okI _ _ := ⟨ms, ha, hla⟩
    have o3 : okI _ _ := ⟨ts, hb, hlb⟩
    have o4 : okI _ _ := ⟨bs, hc, hlc⟩
    simp only [d1, d2, d3, d4] at hK
    have hr' := hr
    have ha' := ha
    have hb' := hb
    have hc' := hc
    obtain ⟨b0, v0, rfl, hb0⟩ := hr'
    obtain ⟨b1, v1, rfl, hb1⟩ := ha'
    obtain ⟨b2, v2, rfl, hb2⟩ := hb'
    obtain ⟨b3, v3, rfl, hb3⟩ := hc'
    obtain ⟨j, rfl⟩ : ∃ j : Nat, i = j := ⟨i.toNat, by omega⟩
    rw [Int.toNat_natCast] at hK
    have p1 := part_bd hx (l.getD j (0, 0, 0)).2.1
    unfold partI at p1
    refine AF_run Sp112_ok D0 [] [.tmp 6] hm Try.func112 rfl (by decide) Try.ntmps112 rfl (by kernel_rfl) (Nat.le_of_ble_eq_true rfl) ?_; intro hlo
    repeat' (first | with_reducible refine iteI (fun _ => ?_) (fun _ => ?_) | ((first | unfold AOpsC | unfold AOpsD | skip); simp (maxSteps := 1000000) (disch := (first | omega | assumption | (simp only [List.length_append, List.length_cons, List.length_nil, List.length_set]; omega))) only [go_sem, ↓skipC, ↓exitC, ↓retC, ↓seqC, ↓blockC, ↓condC, ↓regC, ↓drawC, ↓drawStep, ↓AOpC, ↓AOpF, ↓AOpE, ↓AEff, ↓contE_at, ↓contC_at, ↓keepC_at, ↓keepW_at, ↓map_parts, ↓reduceIte, reduceCtorEq, Nat.reduceLT, Nat.reduceEqDiff, Nat.reduceAdd, Nat.reduceMul, Nat.reduceLeDiff, Nat.reduceSub, Nat.reduceBEq, Nat.reduceBNe, Nat.reduceBneDiff, Nat.reduceBeqDiff, ag_24, ag_3, ag_39, ag_45, by_24, by_3, by_39, by_45, el_24, fi_26_1, fi_39_0, fi_45_1, in_3, nf_39, nf_45, pl_39, pl_45, ps_39, ps_45, sz_24, sz_3, sz_39, sz_45, ze_24, ze_3, ze_39, ze_45, Sp112, SWd, hb0, hb1, hb2, hb3, d1, d2, d3, d4, o1, o2, o3, o4]))
    exact hK
  · exact h.elim

def invDryI (η : List Blk) (r : Int) (v a b c : AV) (l : List Id3) (ms ts bs : List Int) (x : Int) (ok : Bool) (st : St) : Prop := ∃ i : Nat, (i ≤ ms.length) ∧ (ok = true ∨ i = 0) ∧ st.n = 39 ∧ st.τ 2 = .loc 2 1 0 ∧ st.τ 1 = .int .i64 x ∧ st.τ 5 = .int .i64 (dry x l ms i) ∧ st.τ 18 = a ∧ st.τ 19 = .int .i64 ms.length ∧ st.τ 20 = .int .i64 i ∧ st.lam 2 = ⟨1, [.int .i64 r, v, a, b, c]⟩ ∧ st.η = η

/- impl.DryOut -/
def Sp40 (lo : Nat) : Spec := fun g args η K => match g with | 103 => SOk args η K | 110 => SRain args η K | 112 => SPartOf args η K | _ => False
theorem Sp40_ok {lo : Nat} : Sound Try.prog lo (Sp40 lo) := by
  intro g args η K h
  unfold Sp40 at h
  split at h
  · exact f103_ok h
  · exact f110_ok h
  · exact f112_ok h
  · exact h.elim
theorem f40_ok {lo : Nat} {args : List AV} {η : List Blk} {K : AV → List Blk → Prop} (h : SDry args η K) : AF Try.prog lo 40 args η K := by
  unfold SDry at h
  split at h
  · obtain ⟨⟨⟨l, hr, hl⟩, ⟨ms, ha, hla⟩, ⟨ts, hb, hlb⟩, ⟨bs, hc, hlc⟩⟩, hK⟩ := h
    rename_i r _ _ _ _ x
    have d1 := hr.dec3
    have d2 := ha.dec
    have d3 := hb.dec
    have d4 := hc.dec
    have o1 : ok3 45 _ _ := ⟨l, hr, hl⟩
    have o2 : okI _ _ := ⟨ms, ha, hla⟩
    have o3 : okI _ _ := ⟨ts, hb, hlb⟩
    have o4 : okI _ _ := ⟨bs, hc, hlc⟩
    simp only [d1, d2, d3, d4] at hK
    have hr' := hr
    have ha' := ha
    have hb' := hb
    have hc' := hc
    obtain ⟨b0, v0, rfl, hb0⟩ := hr'
    obtain ⟨b1, v1, rfl, hb1⟩ := ha'
    obtain ⟨b2, v2, rfl, hb2⟩ := hb'
    obtain ⟨b3, v3, rfl, hb3⟩ := hc'
    refine AF_run Sp40_ok D0 [] [.tmp 4] hm Try.func40 rfl (by decide) Try.ntmps40 rfl (by kernel_rfl) (Nat.le_of_ble_eq_true rfl) ?_; intro hlo
    cases e1 : okB r l ms ts bs
    · repeat' (first | with_reducible refine iteI (fun _ => ?_) (fun _ => ?_) | ((first | unfold AOpsC | unfold AOpsD | skip); simp (maxSteps := 1000000) (disch := (first | omega | assumption | (simp only [List.length_append, List.length_cons, List.length_nil, List.length_set]; omega))) only [go_sem, ↓skipC, ↓exitC, ↓retC, ↓seqC, ↓blockC, ↓condC, ↓regC, ↓drawC, ↓drawStep, ↓AOpC, ↓AOpF, ↓AOpE, ↓AEff, ↓contE_at, ↓contC_at, ↓keepC_at, ↓keepW_at, ↓map_parts, ↓reduceIte, reduceCtorEq, Nat.reduceLT, Nat.reduceEqDiff, Nat.reduceAdd, Nat.reduceMul, Nat.reduceLeDiff, Nat.reduceSub, Nat.reduceBEq, Nat.reduceBNe, Nat.reduceBneDiff, Nat.reduceBeqDiff, ag_28, ag_3, ag_39, by_28, by_3, by_39, el_28, fi_39_1, in_3, nf_39, pl_39, ps_39, sz_28, sz_3, sz_39, ze_28, ze_3, ze_39, Sp40, SOk, SRain, SPartOf, hb0, hb1, hb2, hb3, d1, d2, d3, d4, o1, o2, o3, o4, e1]))
      exact KI hK (by simp [dryR, e1])
    cases e2 : inB x 0 10000
    · repeat' (first | with_reducible refine iteI (fun _ => ?_) (fun _ => ?_) | ((first | unfold AOpsC | unfold AOpsD | skip); simp (maxSteps := 1000000) (disch := (first | omega | assumption | (simp only [List.length_append, List.length_cons, List.length_nil, List.length_set]; omega))) only [go_sem, ↓skipC, ↓exitC, ↓retC, ↓seqC, ↓blockC, ↓condC, ↓regC, ↓drawC, ↓drawStep, ↓AOpC, ↓AOpF, ↓AOpE, ↓AEff, ↓contE_at, ↓contC_at, ↓keepC_at, ↓keepW_at, ↓map_parts, ↓reduceIte, reduceCtorEq, Nat.reduceLT, Nat.reduceEqDiff, Nat.reduceAdd, Nat.reduceMul, Nat.reduceLeDiff, Nat.reduceSub, Nat.reduceBEq, Nat.reduceBNe, Nat.reduceBneDiff, Nat.reduceBeqDiff, ag_28, ag_3, ag_39, by_28, by_3, by_39, el_28, fi_39_1, in_3, nf_39, pl_39, ps_39, sz_28, sz_3, sz_39, ze_28, ze_3, ze_39, Sp40, SOk, SRain, SPartOf, hb0, hb1, hb2, hb3, d1, d2, d3, d4, o1, o2, o3, o4, e1, e2]))
      exact KI hK (by simp [dryR, e2])
    repeat' (first | with_reducible refine iteI (fun _ => ?_) (fun _ => ?_) | ((first | unfold AOpsC | unfold AOpsD | skip); simp (maxSteps := 1000000) (disch := (first | omega | assumption | (simp only [List.length_append, List.length_cons, List.length_nil, List.length_set]; omega))) only [go_sem, ↓skipC, ↓exitC, ↓retC, ↓seqC, ↓blockC, ↓condC, ↓regC, ↓drawC, ↓drawStep, ↓AOpC, ↓AOpF, ↓AOpE, ↓AEff, ↓contE_at, ↓contC_at, ↓keepC_at, ↓keepW_at, ↓map_parts, ↓reduceIte, reduceCtorEq, Nat.reduceLT, Nat.reduceEqDiff, Nat.reduceAdd, Nat.reduceMul, Nat.reduceLeDiff, Nat.reduceSub, Nat.reduceBEq, Nat.reduceBNe, Nat.reduceBneDiff, Nat.reduceBeqDiff, ag_28, ag_3, ag_39, by_28, by_3, by_39, el_28, fi_39_1, in_3, nf_39, pl_39, ps_39, sz_28, sz_3, sz_39, ze_28, ze_3, ze_39, Sp40, SOk, SRain, SPartOf, hb0, hb1, hb2, hb3, d1, d2, d3, d4, o1, o2, o3, o4, e1, e2]))
    refine ⟨invDryI η r (.sl b0 v0 0 l.length) (.sl b1 v1 0 ms.length) (.sl b2 v2 0 ts.length) (.sl b3 v3 0 bs.length) l ms ts bs x true, fun st => ctr ms.length st 20, .inl ⟨0, Nat.zero_le _, .inl rfl, rfl, (by first | (simp [upd]; done) | (simp [upd, *]; done) | rfl), (by first | (simp [upd]; done) | (simp [upd, *]; done) | rfl), (by first | (simp [upd]; done) | (simp [upd, *]; done) | rfl), (by first | (simp [upd]; done) | (simp [upd, *]; done) | rfl), (by first | (simp [upd]; done) | (simp [upd, *]; done) | rfl), (by first | (simp [upd]; done) | (simp [upd, *]; done) | rfl), (by first | (simp [upd]; done) | (simp [upd, *]; done) | rfl), rfl⟩, ?_⟩
    rintro ⟨n, τ, lam, η'⟩ ⟨i, g0, g1, hn, t2, t1, t5, t18, t19, t20, l2, hη⟩; simp only at hn t2 t1 t5 t18 t19 t20 l2 hη; subst hn hη
    obtain ⟨k1, k2, k3, k4, k5, k6, k7, k8⟩ := okT e1
    have hx := inT e2
    by_cases hlt : i < ms.length
    · have m1 := cells_at k7 hlt
      have p1 := part_bd hx (l.getD i (0, 0, 0)).2.1
      have db := dry_bd x l ms i
      unfold partI at p1
      by_cases hm' : 0 < ms.getD i 0
      · by_cases hu : ms.getD i 0 ≤ (x * wdI (l.getD i (0, 0, 0)).2.1).tdiv 16
        · have hgr : dry x l ms (i + 1) = dry x l ms i + 1 := by rw [dry, if_pos ⟨hm', hu⟩]
          repeat' (first | with_reducible refine iteI (fun _ => ?_) (fun _ => ?_) | ((first | unfold AOpsC | unfold AOpsD | skip); simp (maxSteps := 1000000) (disch := (first | omega | assumption | (simp only [List.length_append, List.length_cons, List.length_nil, List.length_set]; omega))) only [go_sem, ↓skipC, ↓exitC, ↓retC, ↓seqC, ↓blockC, ↓condC, ↓regC, ↓drawC, ↓drawStep, ↓AOpC, ↓AOpF, ↓AOpE, ↓AEff, ↓contE_at, ↓contC_at, ↓keepC_at, ↓keepW_at, ↓map_parts, ↓reduceIte, reduceCtorEq, Nat.reduceLT, Nat.reduceEqDiff, Nat.reduceAdd, Nat.reduceMul, Nat.reduceLeDiff, Nat.reduceSub, Nat.reduceBEq, Nat.reduceBNe, Nat.reduceBneDiff, Nat.reduceBeqDiff, ag_28, ag_3, ag_39, by_28, by_3, by_39, el_28, fi_39_1, in_3, nf_39, pl_39, ps_39, sz_28, sz_3, sz_39, ze_28, ze_3, ze_39, Sp40, SOk, SRain, SPartOf, hb0, hb1, hb2, hb3, d1, d2, d3, d4, o1, o2, o3, o4, t2, t1, t5, t18, t19, t20, l2, e1, e2]))
          try rw [← hgr]
          refine ⟨⟨i + 1, hlt, .inl rfl, rfl, (by simp [upd, t2, t1, t5, t18, t19, t20]), (by simp [upd, t2, t1, t5, t18, t19, t20]), (by simp [upd, t2, t1, t5, t18, t19, t20]), (by simp [upd, t2, t1, t5, t18, t19, t20]), (by simp [upd, t2, t1, t5, t18, t19, t20]), (by simp [upd, t2, t1, t5, t18, t19, t20]), (by simp [upd, l2]), rfl⟩, (by simp [ctr, upd, t2, t1, t5, t18, t19, t20]; omega)⟩
        · have hgr : dry x l ms (i + 1) = dry x l ms i := by rw [dry, if_neg (fun hh => hu hh.2)]
          repeat' (first | with_reducible refine iteI (fun _ => ?_) (fun _ => ?_) | ((first | unfold AOpsC | unfold AOpsD | skip); simp (maxSteps := 1000000) (disch := (first | omega | assumption | (simp only [List.length_append, List.length_cons, List.length_nil, List.length_set]; omega))) only [go_sem, ↓skipC, ↓exitC, ↓retC, ↓seqC, ↓blockC, ↓condC, ↓regC, ↓drawC, ↓drawStep, ↓AOpC, ↓AOpF, ↓AOpE, ↓AEff, ↓contE_at, ↓contC_at, ↓keepC_at, ↓keepW_at, ↓map_parts, ↓reduceIte, reduceCtorEq, Nat.reduceLT, Nat.reduceEqDiff, Nat.reduceAdd, Nat.reduceMul, Nat.reduceLeDiff, Nat.reduceSub, Nat.reduceBEq, Nat.reduceBNe, Nat.reduceBneDiff, Nat.reduceBeqDiff, ag_28, ag_3, ag_39, by_28, by_3, by_39, el_28, fi_39_1, in_3, nf_39, pl_39, ps_39, sz_28, sz_3, sz_39, ze_28, ze_3, ze_39, Sp40, SOk, SRain, SPartOf, hb0, hb1, hb2, hb3, d1, d2, d3, d4, o1, o2, o3, o4, t2, t1, t5, t18, t19, t20, l2, e1, e2]))
          rw [← hgr] at t5
          try rw [← hgr]
          refine ⟨⟨i + 1, hlt, .inl rfl, rfl, (by simp [upd, t2, t1, t5, t18, t19, t20]), (by simp [upd, t2, t1, t5, t18, t19, t20]), (by simp [upd, t2, t1, t5, t18, t19, t20]), (by simp [upd, t2, t1, t5, t18, t19, t20]), (by simp [upd, t2, t1, t5, t18, t19, t20]), (by simp [upd, t2, t1, t5, t18, t19, t20]), (by simp [upd, l2]), rfl⟩, (by simp [ctr, upd, t2, t1, t5, t18, t19, t20]; omega)⟩
      · have hgr : dry x l ms (i + 1) = dry x l ms i := by rw [dry, if_neg (fun hh => hm' hh.1)]
        repeat' (first | with_reducible refine iteI (fun _ => ?_) (fun _ => ?_) | ((first | unfold AOpsC | unfold AOpsD | skip); simp (maxSteps := 1000000) (disch := (first | omega | assumption | (simp only [List.length_append, List.length_cons, List.length_nil, List.length_set]; omega))) only [go_sem, ↓skipC, ↓exitC, ↓retC, ↓seqC, ↓blockC, ↓condC, ↓regC, ↓drawC, ↓drawStep, ↓AOpC, ↓AOpF, ↓AOpE, ↓AEff, ↓contE_at, ↓contC_at, ↓keepC_at, ↓keepW_at, ↓map_parts, ↓reduceIte, reduceCtorEq, Nat.reduceLT, Nat.reduceEqDiff, Nat.reduceAdd, Nat.reduceMul, Nat.reduceLeDiff, Nat.reduceSub, Nat.reduceBEq, Nat.reduceBNe, Nat.reduceBneDiff, Nat.reduceBeqDiff, ag_28, ag_3, ag_39, by_28, by_3, by_39, el_28, fi_39_1, in_3, nf_39, pl_39, ps_39, sz_28, sz_3, sz_39, ze_28, ze_3, ze_39, Sp40, SOk, SRain, SPartOf, hb0, hb1, hb2, hb3, d1, d2, d3, d4, o1, o2, o3, o4, t2, t1, t5, t18, t19, t20, l2, e1, e2]))
        rw [← hgr] at t5
        try rw [← hgr]
        refine ⟨⟨i + 1, hlt, .inl rfl, rfl, (by simp [upd, t2, t1, t5, t18, t19, t20]), (by simp [upd, t2, t1, t5, t18, t19, t20]), (by simp [upd, t2, t1, t5, t18, t19, t20]), (by simp [upd, t2, t1, t5, t18, t19, t20]), (by simp [upd, t2, t1, t5, t18, t19, t20]), (by simp [upd, t2, t1, t5, t18, t19, t20]), (by simp [upd, l2]), rfl⟩, (by simp [ctr, upd, t2, t1, t5, t18, t19, t20]; omega)⟩
    · obtain rfl : i = ms.length := by omega
      repeat' (first | with_reducible refine iteI (fun _ => ?_) (fun _ => ?_) | ((first | unfold AOpsC | unfold AOpsD | skip); simp (maxSteps := 1000000) (disch := (first | omega | assumption | (simp only [List.length_append, List.length_cons, List.length_nil, List.length_set]; omega))) only [go_sem, ↓skipC, ↓exitC, ↓retC, ↓seqC, ↓blockC, ↓condC, ↓regC, ↓drawC, ↓drawStep, ↓AOpC, ↓AOpF, ↓AOpE, ↓AEff, ↓contE_at, ↓contC_at, ↓keepC_at, ↓keepW_at, ↓map_parts, ↓reduceIte, reduceCtorEq, Nat.reduceLT, Nat.reduceEqDiff, Nat.reduceAdd, Nat.reduceMul, Nat.reduceLeDiff, Nat.reduceSub, Nat.reduceBEq, Nat.reduceBNe, Nat.reduceBneDiff, Nat.reduceBeqDiff, ag_28, ag_3, ag_39, by_28, by_3, by_39, el_28, fi_39_1, in_3, nf_39, pl_39, ps_39, sz_28, sz_3, sz_39, ze_28, ze_3, ze_39, Sp40, SOk, SRain, SPartOf, hb0, hb1, hb2, hb3, d1, d2, d3, d4, o1, o2, o3, o4, t2, t1, t5, t18, t19, t20, l2, e1, e2]))
      exact KI hK (by rw [dryR, if_pos ⟨e1, e2⟩])
  · exact h.elim

end Go.Proofs.Ytffefndnnbcplaa
