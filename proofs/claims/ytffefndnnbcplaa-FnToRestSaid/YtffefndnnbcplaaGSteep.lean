/- What functions of the program compute, said in the abstract logic; no conditions. -/
import Derived.Test.YtffefndnnbcplaaGFlux2

namespace Go.Proofs.Ytffefndnnbcplaa
open Go
set_option linter.unusedSimpArgs false
set_option linter.unusedVariables false
set_option maxRecDepth 100000
set_option maxHeartbeats 8000000
attribute [local go_sem] st0 AC thenA andC locLoadB KsSW_same KsSW_grow oldLoadB KsOS_same KsOS_grow pv ev put upd dstOk cv cvc binI setB Value.oneCell' EndA resA resA1 List.mapM_cons List.mapM_nil Option.pure_def Option.bind_eq_bind noLocV noLoc1 noLoc noLocs plainV cellsA newVarA putCells condA lam0 inBlockA cur lenA rowA avoidsB avoidB clearB Array.toList_append Op.operands Call.operands newSlot Nat.zero_add Nat.add_zero Nat.succ_ne_self Nat.lt_add_one Nat.zero_lt_succ true_and and_true true_or or_true false_or or_false and_self true_implies forall_const Bool.false_eq_true Bool.true_eq_false false_implies implies_true imp_self ne_eq not_false_eq_true not_true_eq_false false_and and_false List.getElem?_toArray List.getElem?_cons_succ List.getElem?_cons_zero Option.bind_some Option.map_some Bool.not_true Bool.not_false List.getD_cons_zero List.getD_cons_succ Option.some.injEq exists_eq_left' AV.bool.injEq List.map_cons List.map_nil List.all_cons List.all_nil Bool.and_self Bool.and_true Bool.true_and List.append_nil List.cons_append List.nil_append List.length_cons List.length_nil List.drop_zero List.take_zero List.drop_succ_cons List.take_succ_cons List.take_nil List.drop_nil List.not_mem_nil List.mem_cons List.contains_nil List.contains_cons Bool.or_self Bool.or_true Bool.true_or Bool.false_or Bool.or_false Bool.and_false Bool.false_and KsS_same KsS_grow skipV KsS_ext KsSW_ext KsOS_ext rep1 rep2 rep3 rep4 rep5 List.flatten_cons List.flatten_nil partsA isPtr fillA List.size_toArray ltT ltF leT leF ltTn ltFn leTn leFn eqTi eqFi wrapId toNat1 intGet boolGet memD app_get app_last app_lst app_set app_setL app_setF set_ne set_eq gt_iff_lt ge_iff_le decide_eq_true_eq len2 len3 get20 get21 drop2 put2 get30 get31 get32 drop3 put3 putI pairEta bneTi bneFi beqTi beqFi bne_eq_false_iff_eq beq_eq_false_iff_ne beq_iff_eq bne_iff_ne Int.toNat_natCast Nat.mul_one List.length_map Bool.not_eq_true Bool.not_eq_false Bool.decide_eq_true decide_true decide_false Bool.not_eq_true' Bool.not_eq_false' decide_eq_false_iff_not eq_self Decidable.not_not

def gapI (a b : Int) : Int := if b < a then a - b else b - a
theorem gap_abs (a b : Int) : (if a - b < 0 then -(a - b) else a - b) = gapI a b := by
  unfold gapI
  split <;> split <;> omega
def SGap : List AV → List Blk → (AV → List Blk → Prop) → Prop
  | [.int .i64 a, .int .i64 b], η, K => ((-4000000000 ≤ a ∧ a ≤ 4000000000) ∧ (-4000000000 ≤ b ∧ b ≤ 4000000000)) ∧ K (.int .i64 (gapI a b)) η
  | _, _, _ => False
def gapN (l : List Id3) (ms bs : List Int) (i : Nat) : Int := gapI (surfI l ms bs i) (surfI l ms bs (i + 1))
def stpN (l : List Id3) (ms bs : List Int) : Nat → Int × Int
  | 0 => (-1, -1)
  | i + 1 => if (stpN l ms bs i).2 < gapN l ms bs i then ((i : Int), gapN l ms bs i) else stpN l ms bs i
def stpR (r : Int) (l : List Id3) (ms ts bs : List Int) : Int := if okB r l ms ts bs = true then (stpN l ms bs (l.length - 1)).1 else -1

def SStp : List AV → List Blk → (AV → List Blk → Prop) → Prop
  | [.agg [.int .i64 r, v, a, b, c]], η, K => (ok3 45 η v ∧ okI η a ∧ okI η b ∧ okI η c) ∧ K (.int .i64 (stpR r (dec3 45 η v) (decI η a) (decI η b) (decI η c))) η
  | _, _, _ => False

def invStpI (η : List Blk) (r : Int) (l : List Id3) (v a b c : AV) (ms ts bs : List Int) (st : St) : Prop := ∃ i : Nat, (i ≤ l.length - 1) ∧ st.n = 35 ∧ st.τ 1 = .loc 1 1 0 ∧ st.τ 3 = .int .i64 (stpN l ms bs i).1 ∧ st.τ 4 = .int .i64 (stpN l ms bs i).2 ∧ st.τ 15 = .int .i64 ((l.length : Int) - 1) ∧ st.τ 16 = .int .i64 i ∧ st.lam 1 = ⟨1, [.int .i64 r, v, a, b, c]⟩ ∧ st.η = η

/- impl.SteepestFace -/
def Sp46 (lo : Nat) : Spec := fun g args η K => match g with | 103 => SOk args η K | 106 => SSurf args η K | 119 => SAbs args η K | _ => False
theorem Sp46_ok {lo : Nat} : Sound Try.prog lo (Sp46 lo) := by
  intro g args η K h
  unfold Sp46 at h
  split at h
  · exact f103_ok h
  · exact f106_ok h
  · exact f119_ok h
  · exact h.elim
def D46 : Draws := fun id => match id with | 7 => ([0, 0, 3, 0, 0, 16, 63, 127, 255, 511], [2], [], (.one 0 (.one 1 (.one 3 (.one 4 (.one 5 (.one 2 (.one 6 (.one 7 (.one 8 (.one 9 .nil))))))))))) | _ => ([], [], [], .nil)
theorem f46_ok {lo : Nat} {args : List AV} {η : List Blk} {K : AV → List Blk → Prop} (h : SStp args η K) : AF Try.prog lo 46 args η K := by
  unfold SStp at h
  split at h
  · obtain ⟨⟨⟨l, hr, hl⟩, ⟨ms, ha, hla⟩, ⟨ts, hb, hlb⟩, ⟨bs, hc, hlc⟩⟩, hK⟩ := h
    rename_i r _ _ _ _
    have d1 := hr.dec3
    have d2 := ha.dec
    have d3 := hb.dec
    have d4 := hc.dec
    have o1 : ok3 45 _ _ := ⟨l, hr, hl⟩
    have o2 : okI _ _ := ⟨ms, ha, hla⟩
    have o3 : okI _ _ := ⟨ts, hb, hlb⟩
    have o4 : okI _ _ := ⟨bs, hc, hlc⟩
    simp only [d1, d2, d3, d4] at hK
    have hr' := hr
    have ha' := ha
    have hb' := hb
    have hc' := hc
    obtain ⟨b0, v0, rfl, hb0⟩ := hr'
    obtain ⟨b1, v1, rfl, hb1⟩ := ha'
    obtain ⟨b2, v2, rfl, hb2⟩ := hb'
    obtain ⟨b3, v3, rfl, hb3⟩ := hc'
    refine AF_run Sp46_ok D46 [] [.tmp 2] hm Try.func46 rfl (by decide) Try.ntmps46 rfl (by kernel_rfl) (Nat.le_of_ble_eq_true rfl) ?_; intro hlo
    cases e1 : okB r l ms ts bs
    · repeat' (first | with_reducible refine iteI (fun _ => ?_) (fun _ => ?_) | ((first | unfold AOpsC | unfold AOpsD | skip); simp (maxSteps := 1000000) (disch := (first | omega | assumption | (simp only [List.length_append, List.length_cons, List.length_nil, List.length_set]; omega))) only [go_sem, ↓skipC, ↓exitC, ↓retC, ↓seqC, ↓blockC, ↓condC, ↓regC, ↓drawC, ↓drawStep, ↓AOpC, ↓AOpF, ↓AOpE, ↓AEff, ↓contE_at, ↓contC_at, ↓keepC_at, ↓keepW_at, ↓keepO_at, ↓map_parts, ↓reduceIte, reduceCtorEq, Nat.reduceLT, Nat.reduceEqDiff, Nat.reduceAdd, Nat.reduceMul, Nat.reduceLeDiff, Nat.reduceSub, Nat.reduceBEq, Nat.reduceBNe, Nat.reduceBneDiff, Nat.reduceBeqDiff, ag_24, ag_39, ag_45, by_24, by_39, by_45, el_24, fi_26_1, fi_39_0, nf_39, nf_45, pl_39, pl_45, ps_39, ps_45, sz_24, sz_39, sz_45, ze_24, ze_39, ze_45, Sp46, SOk, SSurf, SAbs, D46, hb0, hb1, hb2, hb3, d1, d2, d3, d4, o1, o2, o3, o4, e1]))
      exact KI hK (by simp [stpR, e1])
    obtain ⟨k1, k2, k3, k4, k5, k6, k7, k8⟩ := okT e1
    repeat' (first | with_reducible refine iteI (fun _ => ?_) (fun _ => ?_) | ((first | unfold AOpsC | unfold AOpsD | skip); simp (maxSteps := 1000000) (disch := (first | omega | assumption | (simp only [List.length_append, List.length_cons, List.length_nil, List.length_set]; omega))) only [go_sem, ↓skipC, ↓exitC, ↓retC, ↓seqC, ↓blockC, ↓condC, ↓regC, ↓drawC, ↓drawStep, ↓AOpC, ↓AOpF, ↓AOpE, ↓AEff, ↓contE_at, ↓contC_at, ↓keepC_at, ↓keepW_at, ↓keepO_at, ↓map_parts, ↓reduceIte, reduceCtorEq, Nat.reduceLT, Nat.reduceEqDiff, Nat.reduceAdd, Nat.reduceMul, Nat.reduceLeDiff, Nat.reduceSub, Nat.reduceBEq, Nat.reduceBNe, Nat.reduceBneDiff, Nat.reduceBeqDiff, ag_24, ag_39, ag_45, by_24, by_39, by_45, el_24, fi_26_1, fi_39_0, nf_39, nf_45, pl_39, pl_45, ps_39, ps_45, sz_24, sz_39, sz_45, ze_24, ze_39, ze_45, Sp46, SOk, SSurf, SAbs, D46, hb0, hb1, hb2, hb3, d1, d2, d3, d4, o1, o2, o3, o4, e1]))
    refine ⟨invStpI η r l (.sl b0 v0 0 l.length) (.sl b1 v1 0 ms.length) (.sl b2 v2 0 ts.length) (.sl b3 v3 0 bs.length) ms ts bs, fun st => ctr l.length st 16, .inl ⟨0, Nat.zero_le _, rfl, (by first | (simp [upd]; done) | (simp [upd, *]; done) | rfl), (by first | (simp [upd]; done) | (simp [upd, *]; done) | rfl), (by first | (simp [upd]; done) | (simp [upd, *]; done) | rfl), (by first | (simp [upd]; done) | (simp [upd, *]; done) | rfl), (by first | (simp [upd]; done) | (simp [upd, *]; done) | rfl), (by first | (simp [upd]; done) | (simp [upd, *]; done) | rfl), rfl⟩, ?_⟩
    rintro ⟨n, τ, lam, η'⟩ ⟨i, g0, hn, t1, t3, t4, t15, t16, l1, hη⟩; simp only at hn t1 t3 t4 t15 t16 l1 hη; subst hn hη
    by_cases hlt : i + 1 < l.length
    · have s1 := surf_bd e1 (i := i) (by omega)
      have s2 := surf_bd e1 hlt
      have hga := gap_abs (surfI l ms bs i) (surfI l ms bs (i + 1))
      have hgd : gapN l ms bs i = gapI (surfI l ms bs i) (surfI l ms bs (i + 1)) := rfl
      by_cases hu : (stpN l ms bs i).2 < gapI (surfI l ms bs i) (surfI l ms bs (i + 1))
      · have hac : stpN l ms bs (i + 1) = ((i : Int), gapI (surfI l ms bs i) (surfI l ms bs (i + 1))) := by rw [stpN, hgd, if_pos hu]
        repeat' (first | with_reducible refine iteI (fun _ => ?_) (fun _ => ?_) | ((first | unfold AOpsC | unfold AOpsD | skip); simp (maxSteps := 1000000) (disch := (first | omega | assumption | (simp only [List.length_append, List.length_cons, List.length_nil, List.length_set]; omega))) only [go_sem, ↓skipC, ↓exitC, ↓retC, ↓seqC, ↓blockC, ↓condC, ↓regC, ↓drawC, ↓drawStep, ↓AOpC, ↓AOpF, ↓AOpE, ↓AEff, ↓contE_at, ↓contC_at, ↓keepC_at, ↓keepW_at, ↓keepO_at, ↓map_parts, ↓reduceIte, reduceCtorEq, Nat.reduceLT, Nat.reduceEqDiff, Nat.reduceAdd, Nat.reduceMul, Nat.reduceLeDiff, Nat.reduceSub, Nat.reduceBEq, Nat.reduceBNe, Nat.reduceBneDiff, Nat.reduceBeqDiff, ag_24, ag_39, ag_45, by_24, by_39, by_45, el_24, fi_26_1, fi_39_0, nf_39, nf_45, pl_39, pl_45, ps_39, ps_45, sz_24, sz_39, sz_45, ze_24, ze_39, ze_45, Sp46, SOk, SSurf, SAbs, D46, hb0, hb1, hb2, hb3, d1, d2, d3, d4, o1, o2, o3, o4, t1, t3, t4, t15, t16, l1, e1, ↓hga]))
        refine ⟨⟨i + 1, by omega, rfl, by simp [upd, t1, t3, t4, t15, t16, hac], by simp [upd, t1, t3, t4, t15, t16, hac], by simp [upd, t1, t3, t4, t15, t16, hac], by simp [upd, t1, t3, t4, t15, t16, hac], by simp [upd, t1, t3, t4, t15, t16, hac], by simp [upd, l1], rfl⟩, by simp [ctr, upd, t16]; omega⟩
      · have hac : stpN l ms bs (i + 1) = stpN l ms bs i := by rw [stpN, hgd, if_neg hu]
        repeat' (first | with_reducible refine iteI (fun _ => ?_) (fun _ => ?_) | ((first | unfold AOpsC | unfold AOpsD | skip); simp (maxSteps := 1000000) (disch := (first | omega | assumption | (simp only [List.length_append, List.length_cons, List.length_nil, List.length_set]; omega))) only [go_sem, ↓skipC, ↓exitC, ↓retC, ↓seqC, ↓blockC, ↓condC, ↓regC, ↓drawC, ↓drawStep, ↓AOpC, ↓AOpF, ↓AOpE, ↓AEff, ↓contE_at, ↓contC_at, ↓keepC_at, ↓keepW_at, ↓keepO_at, ↓map_parts, ↓reduceIte, reduceCtorEq, Nat.reduceLT, Nat.reduceEqDiff, Nat.reduceAdd, Nat.reduceMul, Nat.reduceLeDiff, Nat.reduceSub, Nat.reduceBEq, Nat.reduceBNe, Nat.reduceBneDiff, Nat.reduceBeqDiff, ag_24, ag_39, ag_45, by_24, by_39, by_45, el_24, fi_26_1, fi_39_0, nf_39, nf_45, pl_39, pl_45, ps_39, ps_45, sz_24, sz_39, sz_45, ze_24, ze_39, ze_45, Sp46, SOk, SSurf, SAbs, D46, hb0, hb1, hb2, hb3, d1, d2, d3, d4, o1, o2, o3, o4, t1, t3, t4, t15, t16, l1, e1, ↓hga]))
        refine ⟨⟨i + 1, by omega, rfl, by simp [upd, t1, t3, t4, t15, t16, hac], by simp [upd, t1, t3, t4, t15, t16, hac], by simp [upd, t1, t3, t4, t15, t16, hac], by simp [upd, t1, t3, t4, t15, t16, hac], by simp [upd, t1, t3, t4, t15, t16, hac], by simp [upd, l1], rfl⟩, by simp [ctr, upd, t16]; omega⟩
    · obtain rfl : i = l.length - 1 := by omega
      repeat' (first | with_reducible refine iteI (fun _ => ?_) (fun _ => ?_) | ((first | unfold AOpsC | unfold AOpsD | skip); simp (maxSteps := 1000000) (disch := (first | omega | assumption | (simp only [List.length_append, List.length_cons, List.length_nil, List.length_set]; omega))) only [go_sem, ↓skipC, ↓exitC, ↓retC, ↓seqC, ↓blockC, ↓condC, ↓regC, ↓drawC, ↓drawStep, ↓AOpC, ↓AOpF, ↓AOpE, ↓AEff, ↓contE_at, ↓contC_at, ↓keepC_at, ↓keepW_at, ↓keepO_at, ↓map_parts, ↓reduceIte, reduceCtorEq, Nat.reduceLT, Nat.reduceEqDiff, Nat.reduceAdd, Nat.reduceMul, Nat.reduceLeDiff, Nat.reduceSub, Nat.reduceBEq, Nat.reduceBNe, Nat.reduceBneDiff, Nat.reduceBeqDiff, ag_24, ag_39, ag_45, by_24, by_39, by_45, el_24, fi_26_1, fi_39_0, nf_39, nf_45, pl_39, pl_45, ps_39, ps_45, sz_24, sz_39, sz_45, ze_24, ze_39, ze_45, Sp46, SOk, SSurf, SAbs, D46, hb0, hb1, hb2, hb3, d1, d2, d3, d4, o1, o2, o3, o4, t1, t3, t4, t15, t16, l1, e1]))
      exact KI hK (by rw [stpR, if_pos e1])
  · exact h.elim

def totM (r : Int) (l : List Id3) (ms ts bs : List Int) : Int := if okB r l ms ts bs = true then ms.sum else 0
def totT (r : Int) (l : List Id3) (ms ts bs : List Int) : Int := if okB r l ms ts bs = true then ts.sum else 0
def w64 (x : Int) : Int := IntKind.i64.wrap x
def lhB (r : Int) (l : List Id3) (ms ts bs : List Int) (r' : Int) (l' : List Id3) (ms' ts' bs' : List Int) (p q u w : Int) : Bool :=
  okB r l ms ts bs && (okB r' l' ms' ts' bs' && (decide (ms'.sum = w64 (w64 (ms.sum + p) - q)) && decide (ts'.sum = w64 (w64 (ts.sum + u) - w))))
def SLh : List AV → List Blk → (AV → List Blk → Prop) → Prop
  | [.agg [.int .i64 r, v, a, b, c], .agg [.int .i64 r', v', a', b', c'], .agg [.int .i64 p, .int .i64 q, .int .i64 u, .int .i64 w]], η, K => ((ok3 45 η v ∧ okI η a ∧ okI η b ∧ okI η c) ∧ (ok3 45 η v' ∧ okI η a' ∧ okI η b' ∧ okI η c')) ∧
     K (.bool (lhB r (dec3 45 η v) (decI η a) (decI η b) (decI η c) r' (dec3 45 η v') (decI η a') (decI η b') (decI η c') p q u w)) η
  | _, _, _ => False

def STotM : List AV → List Blk → (AV → List Blk → Prop) → Prop
  | [.agg [.int .i64 r, v, a, b, c]], η, K => (ok3 45 η v ∧ okI η a ∧ okI η b ∧ okI η c) ∧ K (.int .i64 (totM r (dec3 45 η v) (decI η a) (decI η b) (decI η c))) η
  | _, _, _ => False

def STotT : List AV → List Blk → (AV → List Blk → Prop) → Prop
  | [.agg [.int .i64 r, v, a, b, c]], η, K => (ok3 45 η v ∧ okI η a ∧ okI η b ∧ okI η c) ∧ K (.int .i64 (totT r (dec3 45 η v) (decI η a) (decI η b) (decI η c))) η
  | _, _, _ => False

/- spec.TotalMass -/
def Sp68 (lo : Nat) : Spec := fun g args η K => match g with | 44 => SOk args η K | 117 => SSum args η K | _ => False
theorem Sp68_ok {lo : Nat} : Sound Try.prog lo (Sp68 lo) := by
  intro g args η K h
  unfold Sp68 at h
  split at h
  · exact f44_ok h
  · exact f117_ok h
  · exact h.elim
theorem f68_ok {lo : Nat} {args : List AV} {η : List Blk} {K : AV → List Blk → Prop} (h : STotM args η K) : AF Try.prog lo 68 args η K := by
  unfold STotM at h
  split at h
  · obtain ⟨⟨⟨l, hr, hl⟩, ⟨ms, ha, hla⟩, ⟨ts, hb, hlb⟩, ⟨bs, hc, hlc⟩⟩, hK⟩ := h
    rename_i r _ _ _ _
    have d1 := hr.dec3
    have d2 := ha.dec
    have d3 := hb.dec
    have d4 := hc.dec
    have o1 : ok3 45 _ _ := ⟨l, hr, hl⟩
    have o2 : okI _ _ := ⟨ms, ha, hla⟩
    have o3 : okI _ _ := ⟨ts, hb, hlb⟩
    have o4 : okI _ _ := ⟨bs, hc, hlc⟩
    simp only [d1, d2, d3, d4] at hK
    have hr' := hr
    have ha' := ha
    have hb' := hb
    have hc' := hc
    obtain ⟨b0, v0, rfl, hb0⟩ := hr'
    obtain ⟨b1, v1, rfl, hb1⟩ := ha'
    obtain ⟨b2, v2, rfl, hb2⟩ := hb'
    obtain ⟨b3, v3, rfl, hb3⟩ := hc'
    refine AF_run Sp68_ok D0 [] [.tmp 2] hm Try.func68 rfl (by decide) Try.ntmps68 rfl (by kernel_rfl) (Nat.le_of_ble_eq_true rfl) ?_; intro hlo
    cases e1 : okB r l ms ts bs
    · repeat' (first | with_reducible refine iteI (fun _ => ?_) (fun _ => ?_) | ((first | unfold AOpsC | unfold AOpsD | skip); simp (maxSteps := 1000000) (disch := (first | omega | assumption | (simp only [List.length_append, List.length_cons, List.length_nil, List.length_set]; omega))) only [go_sem, ↓skipC, ↓exitC, ↓retC, ↓seqC, ↓blockC, ↓condC, ↓regC, ↓drawC, ↓drawStep, ↓AOpC, ↓AOpF, ↓AOpE, ↓AEff, ↓contE_at, ↓contC_at, ↓keepC_at, ↓keepW_at, ↓keepO_at, ↓map_parts, ↓reduceIte, reduceCtorEq, Nat.reduceLT, Nat.reduceEqDiff, Nat.reduceAdd, Nat.reduceMul, Nat.reduceLeDiff, Nat.reduceSub, Nat.reduceBEq, Nat.reduceBNe, Nat.reduceBneDiff, Nat.reduceBeqDiff, ag_28, ag_3, ag_39, by_28, by_3, by_39, el_28, fi_39_1, in_3, nf_39, pl_39, ps_39, sz_28, sz_3, sz_39, ze_28, ze_3, ze_39, Sp68, SOk, SSum, hb0, hb1, hb2, hb3, d1, d2, d3, d4, o1, o2, o3, o4, e1]))
      exact KI hK (by simp [totM, e1])
    obtain ⟨k1, k2, k3, k4, k5, k6, k7, k8⟩ := okT e1
    have hpos := cells_posM k7
    repeat' (first | with_reducible refine iteI (fun _ => ?_) (fun _ => ?_) | ((first | unfold AOpsC | unfold AOpsD | skip); simp (maxSteps := 1000000) (disch := (first | omega | assumption | (simp only [List.length_append, List.length_cons, List.length_nil, List.length_set]; omega))) only [go_sem, ↓skipC, ↓exitC, ↓retC, ↓seqC, ↓blockC, ↓condC, ↓regC, ↓drawC, ↓drawStep, ↓AOpC, ↓AOpF, ↓AOpE, ↓AEff, ↓contE_at, ↓contC_at, ↓keepC_at, ↓keepW_at, ↓keepO_at, ↓map_parts, ↓reduceIte, reduceCtorEq, Nat.reduceLT, Nat.reduceEqDiff, Nat.reduceAdd, Nat.reduceMul, Nat.reduceLeDiff, Nat.reduceSub, Nat.reduceBEq, Nat.reduceBNe, Nat.reduceBneDiff, Nat.reduceBeqDiff, ag_28, ag_3, ag_39, by_28, by_3, by_39, el_28, fi_39_1, in_3, nf_39, pl_39, ps_39, sz_28, sz_3, sz_39, ze_28, ze_3, ze_39, Sp68, SOk, SSum, hb0, hb1, hb2, hb3, d1, d2, d3, d4, o1, o2, o3, o4, e1, hpos]))
    exact KI hK (by rw [totM, if_pos e1])
  · exact h.elim

/- spec.TotalTracer -/
def Sp54 (lo : Nat) : Spec := fun g args η K => match g with | 44 => SOk args η K | 117 => SSum args η K | _ => False
theorem Sp54_ok {lo : Nat} : Sound Try.prog lo (Sp54 lo) := by
  intro g args η K h
  unfold Sp54 at h
  split at h
  · exact f44_ok h
  · exact f117_ok h
  · exact h.elim
theorem f54_ok {lo : Nat} {args : List AV} {η : List Blk} {K : AV → List Blk → Prop} (h : STotT args η K) : AF Try.prog lo 54 args η K := by
  unfold STotT at h
  split at h
  · obtain ⟨⟨⟨l, hr, hl⟩, ⟨ms, ha, hla⟩, ⟨ts, hb, hlb⟩, ⟨bs, hc, hlc⟩⟩, hK⟩ := h
    rename_i r _ _ _ _
    have d1 := hr.dec3
    have d2 := ha.dec
    have d3 := hb.dec
    have d4 := hc.dec
    have o1 : ok3 45 _ _ := ⟨l, hr, hl⟩
    have o2 : okI _ _ := ⟨ms, ha, hla⟩
    have o3 : okI _ _ := ⟨ts, hb, hlb⟩
    have o4 : okI _ _ := ⟨bs, hc, hlc⟩
    simp only [d1, d2, d3, d4] at hK
    have hr' := hr
    have ha' := ha
    have hb' := hb
    have hc' := hc
    obtain ⟨b0, v0, rfl, hb0⟩ := hr'
    obtain ⟨b1, v1, rfl, hb1⟩ := ha'
    obtain ⟨b2, v2, rfl, hb2⟩ := hb'
    obtain ⟨b3, v3, rfl, hb3⟩ := hc'
    refine AF_run Sp54_ok D0 [] [.tmp 2] hm Try.func54 rfl (by decide) Try.ntmps54 rfl (by kernel_rfl) (Nat.le_of_ble_eq_true rfl) ?_; intro hlo
    cases e1 : okB r l ms ts bs
    · repeat' (first | with_reducible refine iteI (fun _ => ?_) (fun _ => ?_) | ((first | unfold AOpsC | unfold AOpsD | skip); simp (maxSteps := 1000000) (disch := (first | omega | assumption | (simp only [List.length_append, List.length_cons, List.length_nil, List.length_set]; omega))) only [go_sem, ↓skipC, ↓exitC, ↓retC, ↓seqC, ↓blockC, ↓condC, ↓regC, ↓drawC, ↓drawStep, ↓AOpC, ↓AOpF, ↓AOpE, ↓AEff, ↓contE_at, ↓contC_at, ↓keepC_at, ↓keepW_at, ↓keepO_at, ↓map_parts, ↓reduceIte, reduceCtorEq, Nat.reduceLT, Nat.reduceEqDiff, Nat.reduceAdd, Nat.reduceMul, Nat.reduceLeDiff, Nat.reduceSub, Nat.reduceBEq, Nat.reduceBNe, Nat.reduceBneDiff, Nat.reduceBeqDiff, ag_28, ag_3, ag_39, by_28, by_3, by_39, el_28, fi_39_2, in_3, nf_39, pl_39, ps_39, sz_28, sz_3, sz_39, ze_28, ze_3, ze_39, Sp54, SOk, SSum, hb0, hb1, hb2, hb3, d1, d2, d3, d4, o1, o2, o3, o4, e1]))
      exact KI hK (by simp [totT, e1])
    obtain ⟨k1, k2, k3, k4, k5, k6, k7, k8⟩ := okT e1
    have hpos := cells_posT k7 (by omega)
    repeat' (first | with_reducible refine iteI (fun _ => ?_) (fun _ => ?_) | ((first | unfold AOpsC | unfold AOpsD | skip); simp (maxSteps := 1000000) (disch := (first | omega | assumption | (simp only [List.length_append, List.length_cons, List.length_nil, List.length_set]; omega))) only [go_sem, ↓skipC, ↓exitC, ↓retC, ↓seqC, ↓blockC, ↓condC, ↓regC, ↓drawC, ↓drawStep, ↓AOpC, ↓AOpF, ↓AOpE, ↓AEff, ↓contE_at, ↓contC_at, ↓keepC_at, ↓keepW_at, ↓keepO_at, ↓map_parts, ↓reduceIte, reduceCtorEq, Nat.reduceLT, Nat.reduceEqDiff, Nat.reduceAdd, Nat.reduceMul, Nat.reduceLeDiff, Nat.reduceSub, Nat.reduceBEq, Nat.reduceBNe, Nat.reduceBneDiff, Nat.reduceBeqDiff, ag_28, ag_3, ag_39, by_28, by_3, by_39, el_28, fi_39_2, in_3, nf_39, pl_39, ps_39, sz_28, sz_3, sz_39, ze_28, ze_3, ze_39, Sp54, SOk, SSum, hb0, hb1, hb2, hb3, d1, d2, d3, d4, o1, o2, o3, o4, e1, hpos]))
    exact KI hK (by rw [totT, if_pos e1])
  · exact h.elim

/- spec.LedgerHolds -/
def Sp51 (lo : Nat) : Spec := fun g args η K => match g with | 44 => SOk args η K | 54 => STotT args η K | 68 => STotM args η K | _ => False
theorem Sp51_ok {lo : Nat} : Sound Try.prog lo (Sp51 lo) := by
  intro g args η K h
  unfold Sp51 at h
  split at h
  · exact f44_ok h
  · exact f54_ok h
  · exact f68_ok h
  · exact h.elim
def D51 : Draws := fun id => match id with | 1 => ([0, 1, 3, 7, 15, 31, 63, 127, 255, 127, 1023, 127, 2175, 8191, 127, 16511, 65535, 131071, 262143, 524287, 1048575, 2097151, 1048575, 8388607, 1048575, 17825791, 67108863, 1048575, 135266303, 536870911, 1073741823, 2147483647, 4294967295], [8, 10, 21, 23], [], (.one 0 (.one 1 (.one 2 (.one 3 (.one 4 (.one 5 (.one 6 (.one 7 (.one 9 (.one 11 (.one 12 (.one 14 (.one 15 (.one 8 (.one 10 (.one 13 (.one 16 (.one 17 (.one 18 (.one 19 (.one 20 (.one 22 (.one 24 (.one 25 (.one 27 (.one 28 (.one 21 (.one 23 (.one 26 (.one 29 (.one 30 (.one 31 (.one 32 .nil)))))))))))))))))))))))))))))))))) | _ => ([], [], [], .nil)
theorem f51_ok {lo : Nat} {args : List AV} {η : List Blk} {K : AV → List Blk → Prop} (h : SLh args η K) : AF Try.prog lo 51 args η K := by
  unfold SLh at h
  split at h
  · obtain ⟨⟨⟨⟨l, hr, hl⟩, ⟨ms, ha, hla⟩, ⟨ts, hb, hlb⟩, ⟨bs, hc, hlc⟩⟩, ⟨⟨l2, gr, hl2⟩, ⟨ms2, ga, hla2⟩, ⟨ts2, gb, hlb2⟩, ⟨bs2, gc, hlc2⟩⟩⟩, hK⟩ := h
    rename_i r _ _ _ _ r2 _ _ _ _ p q u w
    have d1 := hr.dec3
    have d2 := ha.dec
    have d3 := hb.dec
    have d4 := hc.dec
    have o1 : ok3 45 _ _ := ⟨l, hr, hl⟩
    have o2 : okI _ _ := ⟨ms, ha, hla⟩
    have o3 : okI _ _ := ⟨ts, hb, hlb⟩
    have o4 : okI _ _ := ⟨bs, hc, hlc⟩
    simp only [d1, d2, d3, d4] at hK
    have hr' := hr
    have ha' := ha
    have hb' := hb
    have hc' := hc
    obtain ⟨b0, v0, rfl, hb0⟩ := hr'
    obtain ⟨b1, v1, rfl, hb1⟩ := ha'
    obtain ⟨b2, v2, rfl, hb2⟩ := hb'
    obtain ⟨b3, v3, rfl, hb3⟩ := hc'
    have f1 := gr.dec3
    have f2 := ga.dec
    have f3 := gb.dec
    have f4 := gc.dec
    have p1 : ok3 45 _ _ := ⟨l2, gr, hl2⟩
    have p2 : okI _ _ := ⟨ms2, ga, hla2⟩
    have p3 : okI _ _ := ⟨ts2, gb, hlb2⟩
    have p4 : okI _ _ := ⟨bs2, gc, hlc2⟩
    simp only [f1, f2, f3, f4] at hK
    obtain ⟨c0, w0, rfl, gb0⟩ := gr
    obtain ⟨c1, w1, rfl, gb1⟩ := ga
    obtain ⟨c2, w2, rfl, gb2⟩ := gb
    obtain ⟨c3, w3, rfl, gb3⟩ := gc
    refine AF_run Sp51_ok D51 [] [.tmp 6] hm Try.func51 rfl (by decide) Try.ntmps51 rfl (by kernel_rfl) (Nat.le_of_ble_eq_true rfl) ?_; intro hlo
    cases e1 : okB r l ms ts bs
    · repeat' (first | with_reducible refine iteI (fun _ => ?_) (fun _ => ?_) | ((first | unfold AOpsC | unfold AOpsD | skip); simp (maxSteps := 1000000) (disch := (first | omega | assumption | (simp only [List.length_append, List.length_cons, List.length_nil, List.length_set]; omega))) only [go_sem, ↓skipC, ↓exitC, ↓retC, ↓seqC, ↓blockC, ↓condC, ↓regC, ↓drawC, ↓drawStep, ↓AOpC, ↓AOpF, ↓AOpE, ↓AEff, ↓contE_at, ↓contC_at, ↓keepC_at, ↓keepW_at, ↓keepO_at, ↓map_parts, ↓reduceIte, reduceCtorEq, Nat.reduceLT, Nat.reduceEqDiff, Nat.reduceAdd, Nat.reduceMul, Nat.reduceLeDiff, Nat.reduceSub, Nat.reduceBEq, Nat.reduceBNe, Nat.reduceBneDiff, Nat.reduceBeqDiff, ag_3, ag_39, ag_48, by_3, by_39, by_48, fi_48_0, fi_48_1, fi_48_2, fi_48_3, in_3, nf_39, nf_48, pl_39, pl_48, ps_39, ps_48, sz_3, sz_39, sz_48, ze_3, ze_39, ze_48, Sp51, SOk, STotT, STotM, D51, hb0, hb1, hb2, hb3, d1, d2, d3, d4, o1, o2, o3, o4, f1, f2, f3, f4, p1, p2, p3, p4, e1]))
      exact KB hK (by simp [lhB, e1])
    cases e2 : okB r2 l2 ms2 ts2 bs2
    · repeat' (first | with_reducible refine iteI (fun _ => ?_) (fun _ => ?_) | ((first | unfold AOpsC | unfold AOpsD | skip); simp (maxSteps := 1000000) (disch := (first | omega | assumption | (simp only [List.length_append, List.length_cons, List.length_nil, List.length_set]; omega))) only [go_sem, ↓skipC, ↓exitC, ↓retC, ↓seqC, ↓blockC, ↓condC, ↓regC, ↓drawC, ↓drawStep, ↓AOpC, ↓AOpF, ↓AOpE, ↓AEff, ↓contE_at, ↓contC_at, ↓keepC_at, ↓keepW_at, ↓keepO_at, ↓map_parts, ↓reduceIte, reduceCtorEq, Nat.reduceLT, Nat.reduceEqDiff, Nat.reduceAdd, Nat.reduceMul, Nat.reduceLeDiff, Nat.reduceSub, Nat.reduceBEq, Nat.reduceBNe, Nat.reduceBneDiff, Nat.reduceBeqDiff, ag_3, ag_39, ag_48, by_3, by_39, by_48, fi_48_0, fi_48_1, fi_48_2, fi_48_3, in_3, nf_39, nf_48, pl_39, pl_48, ps_39, ps_48, sz_3, sz_39, sz_48, ze_3, ze_39, ze_48, Sp51, SOk, STotT, STotM, D51, hb0, hb1, hb2, hb3, d1, d2, d3, d4, o1, o2, o3, o4, f1, f2, f3, f4, p1, p2, p3, p4, e1, e2]))
      exact KB hK (by simp [lhB, e2])
    have q1 : totM r l ms ts bs = ms.sum := if_pos e1
    have q2 : totM r2 l2 ms2 ts2 bs2 = ms2.sum := if_pos e2
    have q3 : totT r l ms ts bs = ts.sum := if_pos e1
    have q4 : totT r2 l2 ms2 ts2 bs2 = ts2.sum := if_pos e2
    obtain ⟨k1, k2, k3, k4, k5, k6, k7, k8⟩ := okT e1
    have z1 : posB ms := cells_posM k7
    have z2 : posB ts := cells_posT k7 (by omega)
    obtain ⟨k1', k2', k3', k4', k5', k6', k7', k8'⟩ := okT e2
    have z3 : posB ms2 := cells_posM k7'
    have z4 : posB ts2 := cells_posT k7' (by omega)
    have hf : ∀ x : Int, IntKind.i64.wrap x = w64 x := fun _ => rfl
    have hcase : lhB r l ms ts bs r2 l2 ms2 ts2 bs2 p q u w = (decide (ms2.sum = w64 (w64 (ms.sum + p) - q)) && decide (ts2.sum = w64 (w64 (ts.sum + u) - w))) := by rw [lhB, e1, e2, Bool.true_and, Bool.true_and]
    rw [hcase] at hK
    clear hcase
    generalize hA : ms.sum = A at *
    generalize hB : ms2.sum = B at *
    generalize hC : ts.sum = C at *
    generalize hD : ts2.sum = D at *
    generalize hX : w64 (w64 (A + p) - q) = X at *
    generalize hY : w64 (w64 (C + u) - w) = Y at *
    by_cases e3 : B = X
    case neg =>
      repeat' (first | with_reducible refine iteI (fun _ => ?_) (fun _ => ?_) | ((first | unfold AOpsC | unfold AOpsD | skip); simp (maxSteps := 1000000) (disch := (first | omega | assumption | (simp only [List.length_append, List.length_cons, List.length_nil, List.length_set]; omega))) only [go_sem, ↓skipC, ↓exitC, ↓retC, ↓seqC, ↓blockC, ↓condC, ↓regC, ↓drawC, ↓drawStep, ↓AOpC, ↓AOpF, ↓AOpE, ↓AEff, ↓contE_at, ↓contC_at, ↓keepC_at, ↓keepW_at, ↓keepO_at, ↓map_parts, ↓reduceIte, reduceCtorEq, Nat.reduceLT, Nat.reduceEqDiff, Nat.reduceAdd, Nat.reduceMul, Nat.reduceLeDiff, Nat.reduceSub, Nat.reduceBEq, Nat.reduceBNe, Nat.reduceBneDiff, Nat.reduceBeqDiff, ag_3, ag_39, ag_48, by_3, by_39, by_48, fi_48_0, fi_48_1, fi_48_2, fi_48_3, in_3, nf_39, nf_48, pl_39, pl_48, ps_39, ps_48, sz_3, sz_39, sz_48, ze_3, ze_39, ze_48, Sp51, SOk, STotT, STotM, D51, hb0, hb1, hb2, hb3, d1, d2, d3, d4, o1, o2, o3, o4, f1, f2, f3, f4, p1, p2, p3, p4, e1, e2, q1, q2, q3, q4, z1, z2, z3, z4, hA, hB, hC, hD, ↓hf, hX]))
      exact KB hK (by simp [e3])
    by_cases e4 : D = Y
    · repeat' (first | with_reducible refine iteI (fun _ => ?_) (fun _ => ?_) | ((first | unfold AOpsC | unfold AOpsD | skip); simp (maxSteps := 1000000) (disch := (first | omega | assumption | (simp only [List.length_append, List.length_cons, List.length_nil, List.length_set]; omega))) only [go_sem, ↓skipC, ↓exitC, ↓retC, ↓seqC, ↓blockC, ↓condC, ↓regC, ↓drawC, ↓drawStep, ↓AOpC, ↓AOpF, ↓AOpE, ↓AEff, ↓contE_at, ↓contC_at, ↓keepC_at, ↓keepW_at, ↓keepO_at, ↓map_parts, ↓reduceIte, reduceCtorEq, Nat.reduceLT, Nat.reduceEqDiff, Nat.reduceAdd, Nat.reduceMul, Nat.reduceLeDiff, Nat.reduceSub, Nat.reduceBEq, Nat.reduceBNe, Nat.reduceBneDiff, Nat.reduceBeqDiff, ag_3, ag_39, ag_48, by_3, by_39, by_48, fi_48_0, fi_48_1, fi_48_2, fi_48_3, in_3, nf_39, nf_48, pl_39, pl_48, ps_39, ps_48, sz_3, sz_39, sz_48, ze_3, ze_39, ze_48, Sp51, SOk, STotT, STotM, D51, hb0, hb1, hb2, hb3, d1, d2, d3, d4, o1, o2, o3, o4, f1, f2, f3, f4, p1, p2, p3, p4, e1, e2, q1, q2, q3, q4, z1, z2, z3, z4, hA, hB, hC, hD, ↓hf, hX, hY]))
      exact KB hK (by simp [e3, e4])
    · repeat' (first | with_reducible refine iteI (fun _ => ?_) (fun _ => ?_) | ((first | unfold AOpsC | unfold AOpsD | skip); simp (maxSteps := 1000000) (disch := (first | omega | assumption | (simp only [List.length_append, List.length_cons, List.length_nil, List.length_set]; omega))) only [go_sem, ↓skipC, ↓exitC, ↓retC, ↓seqC, ↓blockC, ↓condC, ↓regC, ↓drawC, ↓drawStep, ↓AOpC, ↓AOpF, ↓AOpE, ↓AEff, ↓contE_at, ↓contC_at, ↓keepC_at, ↓keepW_at, ↓keepO_at, ↓map_parts, ↓reduceIte, reduceCtorEq, Nat.reduceLT, Nat.reduceEqDiff, Nat.reduceAdd, Nat.reduceMul, Nat.reduceLeDiff, Nat.reduceSub, Nat.reduceBEq, Nat.reduceBNe, Nat.reduceBneDiff, Nat.reduceBeqDiff, ag_3, ag_39, ag_48, by_3, by_39, by_48, fi_48_0, fi_48_1, fi_48_2, fi_48_3, in_3, nf_39, nf_48, pl_39, pl_48, ps_39, ps_48, sz_3, sz_39, sz_48, ze_3, ze_39, ze_48, Sp51, SOk, STotT, STotM, D51, hb0, hb1, hb2, hb3, d1, d2, d3, d4, o1, o2, o3, o4, f1, f2, f3, f4, p1, p2, p3, p4, e1, e2, q1, q2, q3, q4, z1, z2, z3, z4, hA, hB, hC, hD, ↓hf, hX, hY]))
      exact KB hK (by simp [e4])
  · exact h.elim

/- impl.LedgerHolds -/
def Sp43 (lo : Nat) : Spec := fun g args η K => match g with | 103 => SOk args η K | 115 => SSum args η K | _ => False
theorem Sp43_ok {lo : Nat} : Sound Try.prog lo (Sp43 lo) := by
  intro g args η K h
  unfold Sp43 at h
  split at h
  · exact f103_ok h
  · exact f115_ok h
  · exact h.elim
def D43 : Draws := fun id => match id with | 1 => ([0, 1, 3, 7, 15, 31, 63, 127, 255, 511, 127, 1151, 4095, 127, 8319, 32767, 127, 65663, 262143, 524287, 1048575, 2097151, 4194303, 8388607, 16777215, 4194303, 37748735, 134217727, 4194303, 272629759, 1073741823, 4194303, 2151677951, 8589934591, 17179869183, 34359738367, 68719476735], [9, 12, 24, 27], [], (.one 0 (.one 1 (.one 2 (.one 3 (.one 4 (.one 5 (.one 6 (.one 7 (.one 8 (.one 10 (.one 11 (.one 13 (.one 14 (.one 16 (.one 17 (.one 9 (.one 12 (.one 15 (.one 18 (.one 19 (.one 20 (.one 21 (.one 22 (.one 23 (.one 25 (.one 26 (.one 28 (.one 29 (.one 31 (.one 32 (.one 24 (.one 27 (.one 30 (.one 33 (.one 34 (.one 35 (.one 36 .nil)))))))))))))))))))))))))))))))))))))) | _ => ([], [], [], .nil)
theorem f43_ok {lo : Nat} {args : List AV} {η : List Blk} {K : AV → List Blk → Prop} (h : SLh args η K) : AF Try.prog lo 43 args η K := by
  unfold SLh at h
  split at h
  · obtain ⟨⟨⟨⟨l, hr, hl⟩, ⟨ms, ha, hla⟩, ⟨ts, hb, hlb⟩, ⟨bs, hc, hlc⟩⟩, ⟨⟨l2, gr, hl2⟩, ⟨ms2, ga, hla2⟩, ⟨ts2, gb, hlb2⟩, ⟨bs2, gc, hlc2⟩⟩⟩, hK⟩ := h
    rename_i r _ _ _ _ r2 _ _ _ _ p q u w
    have d1 := hr.dec3
    have d2 := ha.dec
    have d3 := hb.dec
    have d4 := hc.dec
    have o1 : ok3 45 _ _ := ⟨l, hr, hl⟩
    have o2 : okI _ _ := ⟨ms, ha, hla⟩
    have o3 : okI _ _ := ⟨ts, hb, hlb⟩
    have o4 : okI _ _ := ⟨bs, hc, hlc⟩
    simp only [d1, d2, d3, d4] at hK
    have hr' := hr
    have ha' := ha
    have hb' := hb
    have hc' := hc
    obtain ⟨b0, v0, rfl, hb0⟩ := hr'
    obtain ⟨b1, v1, rfl, hb1⟩ := ha'
    obtain ⟨b2, v2, rfl, hb2⟩ := hb'
    obtain ⟨b3, v3, rfl, hb3⟩ := hc'
    have f1 := gr.dec3
    have f2 := ga.dec
    have f3 := gb.dec
    have f4 := gc.dec
    have p1 : ok3 45 _ _ := ⟨l2, gr, hl2⟩
    have p2 : okI _ _ := ⟨ms2, ga, hla2⟩
    have p3 : okI _ _ := ⟨ts2, gb, hlb2⟩
    have p4 : okI _ _ := ⟨bs2, gc, hlc2⟩
    simp only [f1, f2, f3, f4] at hK
    obtain ⟨c0, w0, rfl, gb0⟩ := gr
    obtain ⟨c1, w1, rfl, gb1⟩ := ga
    obtain ⟨c2, w2, rfl, gb2⟩ := gb
    obtain ⟨c3, w3, rfl, gb3⟩ := gc
    refine AF_run Sp43_ok D43 [] [.tmp 6] hm Try.func43 rfl (by decide) Try.ntmps43 rfl (by kernel_rfl) (Nat.le_of_ble_eq_true rfl) ?_; intro hlo
    cases e1 : okB r l ms ts bs
    · repeat' (first | with_reducible refine iteI (fun _ => ?_) (fun _ => ?_) | ((first | unfold AOpsC | unfold AOpsD | skip); simp (maxSteps := 1000000) (disch := (first | omega | assumption | (simp only [List.length_append, List.length_cons, List.length_nil, List.length_set]; omega))) only [go_sem, ↓skipC, ↓exitC, ↓retC, ↓seqC, ↓blockC, ↓condC, ↓regC, ↓drawC, ↓drawStep, ↓AOpC, ↓AOpF, ↓AOpE, ↓AEff, ↓contE_at, ↓contC_at, ↓keepC_at, ↓keepW_at, ↓keepO_at, ↓map_parts, ↓reduceIte, reduceCtorEq, Nat.reduceLT, Nat.reduceEqDiff, Nat.reduceAdd, Nat.reduceMul, Nat.reduceLeDiff, Nat.reduceSub, Nat.reduceBEq, Nat.reduceBNe, Nat.reduceBneDiff, Nat.reduceBeqDiff, ag_28, ag_3, ag_39, ag_48, by_28, by_3, by_39, by_48, el_28, fi_39_1, fi_39_2, fi_48_0, fi_48_1, fi_48_2, fi_48_3, in_3, nf_39, nf_48, pl_39, pl_48, ps_39, ps_48, sz_28, sz_3, sz_39, sz_48, ze_28, ze_3, ze_39, ze_48, Sp43, SOk, SSum, D43, hb0, hb1, hb2, hb3, d1, d2, d3, d4, o1, o2, o3, o4, f1, f2, f3, f4, p1, p2, p3, p4, e1]))
      exact KB hK (by simp [lhB, e1])
    cases e2 : okB r2 l2 ms2 ts2 bs2
    · repeat' (first | with_reducible refine iteI (fun _ => ?_) (fun _ => ?_) | ((first | unfold AOpsC | unfold AOpsD | skip); simp (maxSteps := 1000000) (disch := (first | omega | assumption | (simp only [List.length_append, List.length_cons, List.length_nil, List.length_set]; omega))) only [go_sem, ↓skipC, ↓exitC, ↓retC, ↓seqC, ↓blockC, ↓condC, ↓regC, ↓drawC, ↓drawStep, ↓AOpC, ↓AOpF, ↓AOpE, ↓AEff, ↓contE_at, ↓contC_at, ↓keepC_at, ↓keepW_at, ↓keepO_at, ↓map_parts, ↓reduceIte, reduceCtorEq, Nat.reduceLT, Nat.reduceEqDiff, Nat.reduceAdd, Nat.reduceMul, Nat.reduceLeDiff, Nat.reduceSub, Nat.reduceBEq, Nat.reduceBNe, Nat.reduceBneDiff, Nat.reduceBeqDiff, ag_28, ag_3, ag_39, ag_48, by_28, by_3, by_39, by_48, el_28, fi_39_1, fi_39_2, fi_48_0, fi_48_1, fi_48_2, fi_48_3, in_3, nf_39, nf_48, pl_39, pl_48, ps_39, ps_48, sz_28, sz_3, sz_39, sz_48, ze_28, ze_3, ze_39, ze_48, Sp43, SOk, SSum, D43, hb0, hb1, hb2, hb3, d1, d2, d3, d4, o1, o2, o3, o4, f1, f2, f3, f4, p1, p2, p3, p4, e1, e2]))
      exact KB hK (by simp [lhB, e2])
    have q1 : totM r l ms ts bs = ms.sum := if_pos e1
    have q2 : totM r2 l2 ms2 ts2 bs2 = ms2.sum := if_pos e2
    have q3 : totT r l ms ts bs = ts.sum := if_pos e1
    have q4 : totT r2 l2 ms2 ts2 bs2 = ts2.sum := if_pos e2
    obtain ⟨k1, k2, k3, k4, k5, k6, k7, k8⟩ := okT e1
    have z1 : posB ms := cells_posM k7
    have z2 : posB ts := cells_posT k7 (by omega)
    obtain ⟨k1', k2', k3', k4', k5', k6', k7', k8'⟩ := okT e2
    have z3 : posB ms2 := cells_posM k7'
    have z4 : posB ts2 := cells_posT k7' (by omega)
    have hf : ∀ x : Int, IntKind.i64.wrap x = w64 x := fun _ => rfl
    have hcase : lhB r l ms ts bs r2 l2 ms2 ts2 bs2 p q u w = (decide (ms2.sum = w64 (w64 (ms.sum + p) - q)) && decide (ts2.sum = w64 (w64 (ts.sum + u) - w))) := by rw [lhB, e1, e2, Bool.true_and, Bool.true_and]
    rw [hcase] at hK
    clear hcase
    generalize hA : ms.sum = A at *
    generalize hB : ms2.sum = B at *
    generalize hC : ts.sum = C at *
    generalize hD : ts2.sum = D at *
    generalize hX : w64 (w64 (A + p) - q) = X at *
    generalize hY : w64 (w64 (C + u) - w) = Y at *
    by_cases e3 : B = X
    case neg =>
      repeat' (first | with_reducible refine iteI (fun _ => ?_) (fun _ => ?_) | ((first | unfold AOpsC | unfold AOpsD | skip); simp (maxSteps := 1000000) (disch := (first | omega | assumption | (simp only [List.length_append, List.length_cons, List.length_nil, List.length_set]; omega))) only [go_sem, ↓skipC, ↓exitC, ↓retC, ↓seqC, ↓blockC, ↓condC, ↓regC, ↓drawC, ↓drawStep, ↓AOpC, ↓AOpF, ↓AOpE, ↓AEff, ↓contE_at, ↓contC_at, ↓keepC_at, ↓keepW_at, ↓keepO_at, ↓map_parts, ↓reduceIte, reduceCtorEq, Nat.reduceLT, Nat.reduceEqDiff, Nat.reduceAdd, Nat.reduceMul, Nat.reduceLeDiff, Nat.reduceSub, Nat.reduceBEq, Nat.reduceBNe, Nat.reduceBneDiff, Nat.reduceBeqDiff, ag_28, ag_3, ag_39, ag_48, by_28, by_3, by_39, by_48, el_28, fi_39_1, fi_39_2, fi_48_0, fi_48_1, fi_48_2, fi_48_3, in_3, nf_39, nf_48, pl_39, pl_48, ps_39, ps_48, sz_28, sz_3, sz_39, sz_48, ze_28, ze_3, ze_39, ze_48, Sp43, SOk, SSum, D43, hb0, hb1, hb2, hb3, d1, d2, d3, d4, o1, o2, o3, o4, f1, f2, f3, f4, p1, p2, p3, p4, e1, e2, q1, q2, q3, q4, z1, z2, z3, z4, hA, hB, hC, hD, ↓hf, hX]))
      exact KB hK (by simp [e3])
    by_cases e4 : D = Y
    · repeat' (first | with_reducible refine iteI (fun _ => ?_) (fun _ => ?_) | ((first | unfold AOpsC | unfold AOpsD | skip); simp (maxSteps := 1000000) (disch := (first | omega | assumption | (simp only [List.length_append, List.length_cons, List.length_nil, List.length_set]; omega))) only [go_sem, ↓skipC, ↓exitC, ↓retC, ↓seqC, ↓blockC, ↓condC, ↓regC, ↓drawC, ↓drawStep, ↓AOpC, ↓AOpF, ↓AOpE, ↓AEff, ↓contE_at, ↓contC_at, ↓keepC_at, ↓keepW_at, ↓keepO_at, ↓map_parts, ↓reduceIte, reduceCtorEq, Nat.reduceLT, Nat.reduceEqDiff, Nat.reduceAdd, Nat.reduceMul, Nat.reduceLeDiff, Nat.reduceSub, Nat.reduceBEq, Nat.reduceBNe, Nat.reduceBneDiff, Nat.reduceBeqDiff, ag_28, ag_3, ag_39, ag_48, by_28, by_3, by_39, by_48, el_28, fi_39_1, fi_39_2, fi_48_0, fi_48_1, fi_48_2, fi_48_3, in_3, nf_39, nf_48, pl_39, pl_48, ps_39, ps_48, sz_28, sz_3, sz_39, sz_48, ze_28, ze_3, ze_39, ze_48, Sp43, SOk, SSum, D43, hb0, hb1, hb2, hb3, d1, d2, d3, d4, o1, o2, o3, o4, f1, f2, f3, f4, p1, p2, p3, p4, e1, e2, q1, q2, q3, q4, z1, z2, z3, z4, hA, hB, hC, hD, ↓hf, hX, hY]))
      exact KB hK (by simp [e3, e4])
    · repeat' (first | with_reducible refine iteI (fun _ => ?_) (fun _ => ?_) | ((first | unfold AOpsC | unfold AOpsD | skip); simp (maxSteps := 1000000) (disch := (first | omega | assumption | (simp only [List.length_append, List.length_cons, List.length_nil, List.length_set]; omega))) only [go_sem, ↓skipC, ↓exitC, ↓retC, ↓seqC, ↓blockC, ↓condC, ↓regC, ↓drawC, ↓drawStep, ↓AOpC, ↓AOpF, ↓AOpE, ↓AEff, ↓contE_at, ↓contC_at, ↓keepC_at, ↓keepW_at, ↓keepO_at, ↓map_parts, ↓reduceIte, reduceCtorEq, Nat.reduceLT, Nat.reduceEqDiff, Nat.reduceAdd, Nat.reduceMul, Nat.reduceLeDiff, Nat.reduceSub, Nat.reduceBEq, Nat.reduceBNe, Nat.reduceBneDiff, Nat.reduceBeqDiff, ag_28, ag_3, ag_39, ag_48, by_28, by_3, by_39, by_48, el_28, fi_39_1, fi_39_2, fi_48_0, fi_48_1, fi_48_2, fi_48_3, in_3, nf_39, nf_48, pl_39, pl_48, ps_39, ps_48, sz_28, sz_3, sz_39, sz_48, ze_28, ze_3, ze_39, ze_48, Sp43, SOk, SSum, D43, hb0, hb1, hb2, hb3, d1, d2, d3, d4, o1, o2, o3, o4, f1, f2, f3, f4, p1, p2, p3, p4, e1, e2, q1, q2, q3, q4, z1, z2, z3, z4, hA, hB, hC, hD, ↓hf, hX, hY]))
      exact KB hK (by simp [e4])
  · exact h.elim

end Go.Proofs.Ytffefndnnbcplaa
