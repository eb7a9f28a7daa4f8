/- What functions of the program compute, said in the abstract logic; no conditions. -/
import Derived.Test.YtffefndnnbcplaaGMacP

namespace Go.Proofs.Ytffefndnnbcplaa
open Go
set_option linter.unusedSimpArgs false
set_option linter.unusedVariables false
set_option maxRecDepth 100000
set_option maxHeartbeats 8000000
attribute [local go_sem] st0 AC thenA andC locLoadB KsSW_same KsSW_grow oldLoadB KsOS_same KsOS_grow pv ev put upd dstOk cv cvc binI setB Value.oneCell' EndA resA resA1 List.mapM_cons List.mapM_nil Option.pure_def Option.bind_eq_bind noLocV noLoc1 noLoc noLocs plainV cellsA newVarA putCells condA lam0 inBlockA cur lenA rowA avoidsB avoidB clearB Array.toList_append Op.operands Call.operands newSlot Nat.zero_add Nat.add_zero Nat.succ_ne_self Nat.lt_add_one Nat.zero_lt_succ true_and and_true true_or or_true false_or or_false and_self true_implies forall_const Bool.false_eq_true Bool.true_eq_false false_implies implies_true imp_self ne_eq not_false_eq_true not_true_eq_false false_and and_false List.getElem?_toArray List.getElem?_cons_succ List.getElem?_cons_zero Option.bind_some Option.map_some Bool.not_true Bool.not_false List.getD_cons_zero List.getD_cons_succ Option.some.injEq exists_eq_left' AV.bool.injEq List.map_cons List.map_nil List.all_cons List.all_nil Bool.and_self Bool.and_true Bool.true_and List.append_nil List.cons_append List.nil_append List.length_cons List.length_nil List.drop_zero List.take_zero List.drop_succ_cons List.take_succ_cons List.take_nil List.drop_nil List.not_mem_nil List.mem_cons List.contains_nil List.contains_cons Bool.or_self Bool.or_true Bool.true_or Bool.false_or Bool.or_false Bool.and_false Bool.false_and KsS_same KsS_grow skipV KsS_ext KsSW_ext KsOS_ext rep1 rep2 rep3 rep4 rep5 List.flatten_cons List.flatten_nil partsA isPtr fillA List.size_toArray ltT ltF leT leF ltTn ltFn leTn leFn eqTi eqFi wrapId toNat1 intGet boolGet memD app_get app_last app_lst app_set app_setL app_setF set_ne set_eq gt_iff_lt ge_iff_le decide_eq_true_eq len2 len3 get20 get21 drop2 put2 get30 get31 get32 drop3 put3 putI pairEta bneTi bneFi beqTi beqFi bne_eq_false_iff_eq beq_eq_false_iff_ne beq_iff_eq bne_iff_ne Int.toNat_natCast Nat.mul_one List.length_map Bool.not_eq_true Bool.not_eq_false Bool.decide_eq_true decide_true decide_false Bool.not_eq_true' Bool.not_eq_false' decide_eq_false_iff_not eq_self Decidable.not_not

/-- Masses and tracers after k macro steps. -/
def mcs (l : List Id3) (ms ts bs : List Int) : Nat → List Int × List Int
  | 0 => (ms, ts)
  | k + 1 => mac l (mcs l ms ts bs k).1 (mcs l ms ts bs k).2 bs 16
theorem mcs_ok {r : Int} {l : List Id3} {ms ts bs : List Int} (e1 : okB r l ms ts bs = true) : ∀ k, okB r l (mcs l ms ts bs k).1 (mcs l ms ts bs k).2 bs = true
  | 0 => e1
  | k + 1 => mac_ok (mcs_ok e1 k) 16
theorem mcs_len {r : Int} {l : List Id3} {ms ts bs : List Int} (e1 : okB r l ms ts bs = true) (k : Nat) : (mcs l ms ts bs k).1.length = ms.length ∧ (mcs l ms ts bs k).2.length = ts.length := by
  have a := okT e1
  have b := okT (mcs_ok e1 k)
  omega
def rsB (r : Int) (l : List Id3) (ms ts bs : List Int) (k : Nat) : Bool := restR r l (mcs l ms ts bs k).1 (mcs l ms ts bs k).2 bs
/-- The first step from i on, of so many, that finds rest. -/
def srN (r : Int) (l : List Id3) (ms ts bs : List Int) : Nat → Nat → Int
  | _, 0 => -1
  | i, n + 1 => if rsB r l ms ts bs i = true then (i : Int) else srN r l ms ts bs (i + 1) n
def srR (r : Int) (l : List Id3) (ms ts bs : List Int) (y : Int) : Int := if okB r l ms ts bs = true ∧ inB y 0 200 = true then srN r l ms ts bs 0 (y.toNat + 1) else -1
def SCount : List AV → List Blk → (AV → List Blk → Prop) → Prop
  | [.int .i64 x], η, K => K (.bool (inB x 0 200)) η
  | _, _, _ => False

def SSrR : List AV → List Blk → (AV → List Blk → Prop) → Prop
  | [.agg [.int .i64 r, v, a, b, c], .int .i64 y0], η, K => (ok3 45 η v ∧ okI η a ∧ okI η b ∧ okI η c) ∧ ∀ H, Ext η H → K (.int .i64 (srR r (dec3 45 η v) (decI η a) (decI η b) (decI η c) y0)) H
  | _, _, _ => False

/- impl.isCount -/
def Sp139 (lo : Nat) : Spec := fun g args η K => match g with | 118 => SIn args η K | _ => False
theorem Sp139_ok {lo : Nat} : Sound Try.prog lo (Sp139 lo) := by
  intro g args η K h
  unfold Sp139 at h
  split at h
  · exact f118_ok h
  · exact h.elim
theorem f139_ok {lo : Nat} {args : List AV} {η : List Blk} {K : AV → List Blk → Prop} (h : SCount args η K) : AF Try.prog lo 139 args η K := by
  unfold SCount at h
  split at h
  · refine AF_run Sp139_ok D0 [] [.tmp 2] hm Try.func139 rfl (by decide) Try.ntmps139 rfl (by kernel_rfl) (Nat.le_of_ble_eq_true rfl) ?_; intro hlo
    repeat' (first | with_reducible refine iteI (fun _ => ?_) (fun _ => ?_) | ((first | unfold AOpsC | unfold AOpsD | skip); simp (maxSteps := 1000000) (disch := (first | omega | assumption | (simp only [List.length_append, List.length_cons, List.length_nil, List.length_set]; omega))) only [go_sem, ↓skipC, ↓exitC, ↓retC, ↓seqC, ↓blockC, ↓condC, ↓regC, ↓drawC, ↓drawStep, ↓AOpC, ↓AOpF, ↓AOpE, ↓AEff, ↓contE_at, ↓contC_at, ↓keepC_at, ↓keepW_at, ↓keepO_at, ↓map_parts, ↓reduceIte, reduceCtorEq, Nat.reduceLT, Nat.reduceEqDiff, Nat.reduceAdd, Nat.reduceMul, Nat.reduceLeDiff, Nat.reduceSub, Nat.reduceBEq, Nat.reduceBNe, Nat.reduceBneDiff, Nat.reduceBeqDiff, Sp139, SIn]))
    exact h
  · exact h.elim

def invSrI (η : List Blk) (p : Nat) (r : Int) (q0 q1 q2 q3 : Nat) (l : List Id3) (ms ts bs : List Int) (n : Nat) (st : St) : Prop := ∃ i : Nat, ∃ H : List Blk, (i ≤ n + 1) ∧ (PtrS η.length p H r q0 q1 q2 q3 0 0 0 0 l (mcs l ms ts bs i).1 (mcs l ms ts bs i).2 bs) ∧ (Ext η H) ∧ (srN r l ms ts bs 0 (n + 1) = srN r l ms ts bs i (n + 1 - i)) ∧ st.n = 27 ∧ st.τ 5 = .ptr p 0 0 ∧ st.τ 18 = .int .i64 ((n : Int) + 1) ∧ st.τ 19 = .int .i64 i ∧ st.η = H

/- impl.StepsToRest -/
def Sp74 (lo : Nat) : Spec := fun g args η K => match g with | 62 => SRest args η K | 103 => SOk args η K | 109 => SCopyS args η K | 139 => SCount args η K | 140 => SMac lo args η K | _ => False
theorem Sp74_ok {lo : Nat} : Sound Try.prog lo (Sp74 lo) := by
  intro g args η K h
  unfold Sp74 at h
  split at h
  · exact f62_ok h
  · exact f103_ok h
  · exact f109_ok h
  · exact f139_ok h
  · exact f140_ok h
  · exact h.elim
theorem f74_ok {lo : Nat} {args : List AV} {η : List Blk} {K : AV → List Blk → Prop} (h : SSrR args η K) : AF Try.prog lo 74 args η K := by
  unfold SSrR at h
  split at h
  · obtain ⟨⟨⟨l, hr, hl⟩, ⟨ms, ha, hla⟩, ⟨ts, hb, hlb⟩, ⟨bs, hc, hlc⟩⟩, hK⟩ := h
    rename_i r _ _ _ _ y
    have d1 := hr.dec3
    have d2 := ha.dec
    have d3 := hb.dec
    have d4 := hc.dec
    have o1 : ok3 45 _ _ := ⟨l, hr, hl⟩
    have o2 : okI _ _ := ⟨ms, ha, hla⟩
    have o3 : okI _ _ := ⟨ts, hb, hlb⟩
    have o4 : okI _ _ := ⟨bs, hc, hlc⟩
    simp only [d1, d2, d3, d4] at hK
    have hr' := hr
    have ha' := ha
    have hb' := hb
    have hc' := hc
    obtain ⟨b0, v0, rfl, hb0⟩ := hr'
    obtain ⟨b1, v1, rfl, hb1⟩ := ha'
    obtain ⟨b2, v2, rfl, hb2⟩ := hb'
    obtain ⟨b3, v3, rfl, hb3⟩ := hc'
    refine AF_run Sp74_ok D0 [5] [.tmp 4] hm Try.func74 rfl (by decide) Try.ntmps74 rfl (by kernel_rfl) (Nat.le_of_ble_eq_true rfl) ?_; intro hlo
    cases e1 : okB r l ms ts bs
    · repeat' (first | with_reducible refine iteI (fun _ => ?_) (fun _ => ?_) | ((first | unfold AOpsC | unfold AOpsD | skip); simp (maxSteps := 1000000) (disch := (first | omega | assumption | (simp only [List.length_append, List.length_cons, List.length_nil, List.length_set]; omega))) only [go_sem, ↓skipC, ↓exitC, ↓retC, ↓seqC, ↓blockC, ↓condC, ↓regC, ↓drawC, ↓drawStep, ↓AOpC, ↓AOpF, ↓AOpE, ↓AEff, ↓contE_at, ↓contC_at, ↓keepC_at, ↓keepW_at, ↓keepO_at, ↓map_parts, ↓reduceIte, reduceCtorEq, Nat.reduceLT, Nat.reduceEqDiff, Nat.reduceAdd, Nat.reduceMul, Nat.reduceLeDiff, Nat.reduceSub, Nat.reduceBEq, Nat.reduceBNe, Nat.reduceBneDiff, Nat.reduceBeqDiff, ag_39, by_39, nf_39, pl_39, ps_39, sz_39, ze_39, Sp74, SOk, SCount, hb0, hb1, hb2, hb3, d1, d2, d3, d4, o1, o2, o3, o4, e1]))
      exact KI (hK _ (Ext.refl _)) (by simp [srR, e1])
    cases ey : inB y 0 200
    · repeat' (first | with_reducible refine iteI (fun _ => ?_) (fun _ => ?_) | ((first | unfold AOpsC | unfold AOpsD | skip); simp (maxSteps := 1000000) (disch := (first | omega | assumption | (simp only [List.length_append, List.length_cons, List.length_nil, List.length_set]; omega))) only [go_sem, ↓skipC, ↓exitC, ↓retC, ↓seqC, ↓blockC, ↓condC, ↓regC, ↓drawC, ↓drawStep, ↓AOpC, ↓AOpF, ↓AOpE, ↓AEff, ↓contE_at, ↓contC_at, ↓keepC_at, ↓keepW_at, ↓keepO_at, ↓map_parts, ↓reduceIte, reduceCtorEq, Nat.reduceLT, Nat.reduceEqDiff, Nat.reduceAdd, Nat.reduceMul, Nat.reduceLeDiff, Nat.reduceSub, Nat.reduceBEq, Nat.reduceBNe, Nat.reduceBneDiff, Nat.reduceBeqDiff, ag_39, by_39, nf_39, pl_39, ps_39, sz_39, ze_39, Sp74, SOk, SCount, hb0, hb1, hb2, hb3, d1, d2, d3, d4, o1, o2, o3, o4, e1, ey]))
      exact KI (hK _ (Ext.refl _)) (by simp [srR, ey])
    have z0 : srR r l ms ts bs y = srN r l ms ts bs 0 (y.toNat + 1) := if_pos ⟨e1, ey⟩
    rw [z0] at hK
    have ey' := inT ey
    obtain ⟨n, rfl⟩ : ∃ n : Nat, y = n := ⟨y.toNat, by omega⟩
    rw [Int.toNat_natCast] at hK
    obtain ⟨k1, k2, k3, k4, k5, k6, k7, k8⟩ := okT e1
    repeat' (first | with_reducible refine iteI (fun _ => ?_) (fun _ => ?_) | ((first | unfold AOpsC | unfold AOpsD | skip); simp (maxSteps := 1000000) (disch := (first | omega | assumption | (simp only [List.length_append, List.length_cons, List.length_nil, List.length_set]; omega))) only [go_sem, ↓skipC, ↓exitC, ↓retC, ↓seqC, ↓blockC, ↓condC, ↓regC, ↓drawC, ↓drawStep, ↓AOpC, ↓AOpF, ↓AOpE, ↓AEff, ↓contE_at, ↓contC_at, ↓keepC_at, ↓keepW_at, ↓keepO_at, ↓map_parts, ↓reduceIte, reduceCtorEq, Nat.reduceLT, Nat.reduceEqDiff, Nat.reduceAdd, Nat.reduceMul, Nat.reduceLeDiff, Nat.reduceSub, Nat.reduceBEq, Nat.reduceBNe, Nat.reduceBneDiff, Nat.reduceBeqDiff, ag_39, by_39, nf_39, pl_39, ps_39, sz_39, ze_39, Sp74, SOk, SCount, hb0, hb1, hb2, hb3, d1, d2, d3, d4, o1, o2, o3, o4, e1, ey]))
    refine copyN ⟨l, ms, ts, bs, ⟨hr, ha, hb, hc⟩, ⟨hl, hla, hlb, hlc⟩, fun H q0 q1 q2 q3 hN x => ?_⟩
    have hHl := x.len
    have nlt := fun c => hN.lt (c := c)
    have l0 := nlt q0 (.inl rfl)
    have l1 := nlt q1 (.inr (.inl rfl))
    have l2 := nlt q2 (.inr (.inr (.inl rfl)))
    have l3 := nlt q3 (.inr (.inr (.inr rfl)))
    repeat' (first | with_reducible refine iteI (fun _ => ?_) (fun _ => ?_) | ((first | unfold AOpsC | unfold AOpsD | skip); simp (maxSteps := 1000000) (disch := (first | omega | assumption | (simp only [List.length_append, List.length_cons, List.length_nil, List.length_set]; omega))) only [go_sem, ↓skipC, ↓exitC, ↓retC, ↓seqC, ↓blockC, ↓condC, ↓regC, ↓drawC, ↓drawStep, ↓AOpC, ↓AOpF, ↓AOpE, ↓AEff, ↓contE_at, ↓contC_at, ↓keepC_at, ↓keepW_at, ↓keepO_at, ↓map_parts, ↓reduceIte, reduceCtorEq, Nat.reduceLT, Nat.reduceEqDiff, Nat.reduceAdd, Nat.reduceMul, Nat.reduceLeDiff, Nat.reduceSub, Nat.reduceBEq, Nat.reduceBNe, Nat.reduceBneDiff, Nat.reduceBeqDiff, ag_39, by_39, nf_39, pl_39, ps_39, sz_39, ze_39, Sp74, SOk, SCount]))
    generalize hH2 : H ++ [(⟨0, 39, 5, [.int .i64 r, .sl q0 0 0 l.length, .sl q1 0 0 ms.length, .sl q2 0 0 ts.length, .sl q3 0 0 bs.length]⟩ : Blk)] = H2
    have x2 : Ext H H2 := ⟨_, hH2.symm⟩
    have hP : PtrS η.length H.length H2 r q0 q1 q2 q3 0 0 0 0 l ms ts bs := ⟨by rw [← hH2]; exact app_last _ _, hN.ext x2, hHl, by omega, by omega, by omega, by omega⟩
    have xx := x.trans x2
    generalize H.length = p at *
    refine ⟨invSrI η p r q0 q1 q2 q3 l ms ts bs n, fun st => ctr (n + 1) st 19, .inl ⟨0, H2, Nat.zero_le _, hP, xx, rfl, rfl, by simp [upd], by simp [upd], by simp [upd], by first | rfl | exact hH2⟩, ?_⟩
    clear hP xx x2 hH2 l0 l1 l2 l3
    rintro ⟨n, τ, lam, η'⟩ ⟨i, H, g0, g1, g2, g3, hn, t5, t18, t19, hη⟩; simp only at hn t5 t18 t19 hη; subst hn hη
    by_cases hlt : i < n + 1
    · have e2 := mcs_ok e1 i
      obtain ⟨n1, n2⟩ := mcs_len e1 i
      have pp := g1.pb
      have i0m : IsR 45 3 enc3 η' (.sl q0 0 0 l.length) l := ⟨_, _, rfl, g1.n4.g0⟩
      have i1m : IsI η' (.sl q1 0 0 (mcs l ms ts bs i).1.length) (mcs l ms ts bs i).1 := ⟨q1, 0, rfl, g1.n4.g1⟩
      have i2m : IsI η' (.sl q2 0 0 (mcs l ms ts bs i).2.length) (mcs l ms ts bs i).2 := ⟨q2, 0, rfl, g1.n4.g2⟩
      have i3m : IsI η' (.sl q3 0 0 bs.length) bs := ⟨q3, 0, rfl, g1.n4.g3⟩
      have D1m := i0m.dec3
      have D2m := i1m.dec
      have D3m := i2m.dec
      have D4m := i3m.dec
      have O1m : ok3 45 _ _ := ⟨l, i0m, by omega⟩
      have O2m : okI _ _ := ⟨_, i1m, by omega⟩
      have O3m : okI _ _ := ⟨_, i2m, by omega⟩
      have O4m : okI _ _ := ⟨bs, i3m, by omega⟩
      have hs : srN r l ms ts bs i (n + 1 - i) = if rsB r l ms ts bs i = true then (i : Int) else srN r l ms ts bs (i + 1) (n - i) := by
        rw [show n + 1 - i = (n - i) + 1 by omega, srN]
      repeat' (first | with_reducible refine iteI (fun _ => ?_) (fun _ => ?_) | ((first | unfold AOpsC | unfold AOpsD | skip); simp (maxSteps := 1000000) (disch := (first | omega | assumption | (simp only [List.length_append, List.length_cons, List.length_nil, List.length_set]; omega))) only [go_sem, ↓skipC, ↓exitC, ↓retC, ↓seqC, ↓blockC, ↓condC, ↓regC, ↓drawC, ↓drawStep, ↓AOpC, ↓AOpF, ↓AOpE, ↓AEff, ↓contE_at, ↓contC_at, ↓keepC_at, ↓keepW_at, ↓keepO_at, ↓map_parts, ↓reduceIte, reduceCtorEq, Nat.reduceLT, Nat.reduceEqDiff, Nat.reduceAdd, Nat.reduceMul, Nat.reduceLeDiff, Nat.reduceSub, Nat.reduceBEq, Nat.reduceBNe, Nat.reduceBneDiff, Nat.reduceBeqDiff, ag_39, by_39, nf_39, pl_39, ps_39, sz_39, ze_39, Sp74, SOk, SCount, pp, t5, t18, t19]))
      unfold SRest
      simp only [D1m, D2m, D3m, D4m, O1m, O2m, O3m, O4m, true_and, and_self]
      refine fun H3 x3 => ?_
      have hP3 : PtrS η.length p H3 r q0 q1 q2 q3 0 0 0 0 l (mcs l ms ts bs i).1 (mcs l ms ts bs i).2 bs := ⟨x3.blk pp, g1.n4.ext x3, g1.np, g1.p0, g1.p1, g1.p2, g1.p3⟩
      have hrb : restR r l (mcs l ms ts bs i).1 (mcs l ms ts bs i).2 bs = rsB r l ms ts bs i := rfl
      rw [hrb]
      cases hq : rsB r l ms ts bs i
      · rw [hq] at hs
        simp only [Bool.false_eq_true, if_false] at hs
        repeat' (first | with_reducible refine iteI (fun _ => ?_) (fun _ => ?_) | ((first | unfold AOpsC | unfold AOpsD | skip); simp (maxSteps := 1000000) (disch := (first | omega | assumption | (simp only [List.length_append, List.length_cons, List.length_nil, List.length_set]; omega))) only [go_sem, ↓skipC, ↓exitC, ↓retC, ↓seqC, ↓blockC, ↓condC, ↓regC, ↓drawC, ↓drawStep, ↓AOpC, ↓AOpF, ↓AOpE, ↓AEff, ↓contE_at, ↓contC_at, ↓keepC_at, ↓keepW_at, ↓keepO_at, ↓map_parts, ↓reduceIte, reduceCtorEq, Nat.reduceLT, Nat.reduceEqDiff, Nat.reduceAdd, Nat.reduceMul, Nat.reduceLeDiff, Nat.reduceSub, Nat.reduceBEq, Nat.reduceBNe, Nat.reduceBneDiff, Nat.reduceBeqDiff, ag_39, by_39, nf_39, pl_39, ps_39, sz_39, ze_39, Sp74, SOk, SCount, t5, t18, t19]))
        unfold SMac
        refine ⟨η.length, r, q0, q1, q2, q3, 0, 0, 0, 0, l, _, _, bs, hlo, hP3, e2, fun H4 hP4 t4 => ?_⟩
        have x4 := (g2.trans x3).after t4 (fun c hc => hP3.low hc)
        repeat' (first | with_reducible refine iteI (fun _ => ?_) (fun _ => ?_) | ((first | unfold AOpsC | unfold AOpsD | skip); simp (maxSteps := 1000000) (disch := (first | omega | assumption | (simp only [List.length_append, List.length_cons, List.length_nil, List.length_set]; omega))) only [go_sem, ↓skipC, ↓exitC, ↓retC, ↓seqC, ↓blockC, ↓condC, ↓regC, ↓drawC, ↓drawStep, ↓AOpC, ↓AOpF, ↓AOpE, ↓AEff, ↓contE_at, ↓contC_at, ↓keepC_at, ↓keepW_at, ↓keepO_at, ↓map_parts, ↓reduceIte, reduceCtorEq, Nat.reduceLT, Nat.reduceEqDiff, Nat.reduceAdd, Nat.reduceMul, Nat.reduceLeDiff, Nat.reduceSub, Nat.reduceBEq, Nat.reduceBNe, Nat.reduceBneDiff, Nat.reduceBeqDiff, ag_39, by_39, nf_39, pl_39, ps_39, sz_39, ze_39, Sp74, SOk, SCount, t5, t18, t19]))
        refine ⟨⟨i + 1, H4, hlt, hP4, x4, by rw [g3, hs, show n + 1 - (i + 1) = n - i by omega], rfl, by simp [upd, t5], by simp [upd, t18], by simp [upd], rfl⟩, by simp [ctr, upd, t19]; omega⟩
      · rw [hq] at hs
        simp only [if_true] at hs
        repeat' (first | with_reducible refine iteI (fun _ => ?_) (fun _ => ?_) | ((first | unfold AOpsC | unfold AOpsD | skip); simp (maxSteps := 1000000) (disch := (first | omega | assumption | (simp only [List.length_append, List.length_cons, List.length_nil, List.length_set]; omega))) only [go_sem, ↓skipC, ↓exitC, ↓retC, ↓seqC, ↓blockC, ↓condC, ↓regC, ↓drawC, ↓drawStep, ↓AOpC, ↓AOpF, ↓AOpE, ↓AEff, ↓contE_at, ↓contC_at, ↓keepC_at, ↓keepW_at, ↓keepO_at, ↓map_parts, ↓reduceIte, reduceCtorEq, Nat.reduceLT, Nat.reduceEqDiff, Nat.reduceAdd, Nat.reduceMul, Nat.reduceLeDiff, Nat.reduceSub, Nat.reduceBEq, Nat.reduceBNe, Nat.reduceBneDiff, Nat.reduceBeqDiff, ag_39, by_39, nf_39, pl_39, ps_39, sz_39, ze_39, Sp74, SOk, SCount, t5, t18, t19]))
        exact KI (hK _ (g2.trans x3)) (by rw [g3, hs])
    · obtain rfl : i = n + 1 := by omega
      repeat' (first | with_reducible refine iteI (fun _ => ?_) (fun _ => ?_) | ((first | unfold AOpsC | unfold AOpsD | skip); simp (maxSteps := 1000000) (disch := (first | omega | assumption | (simp only [List.length_append, List.length_cons, List.length_nil, List.length_set]; omega))) only [go_sem, ↓skipC, ↓exitC, ↓retC, ↓seqC, ↓blockC, ↓condC, ↓regC, ↓drawC, ↓drawStep, ↓AOpC, ↓AOpF, ↓AOpE, ↓AEff, ↓contE_at, ↓contC_at, ↓keepC_at, ↓keepW_at, ↓keepO_at, ↓map_parts, ↓reduceIte, reduceCtorEq, Nat.reduceLT, Nat.reduceEqDiff, Nat.reduceAdd, Nat.reduceMul, Nat.reduceLeDiff, Nat.reduceSub, Nat.reduceBEq, Nat.reduceBNe, Nat.reduceBneDiff, Nat.reduceBeqDiff, ag_39, by_39, nf_39, pl_39, ps_39, sz_39, ze_39, Sp74, SOk, SCount, t5, t18, t19]))
      exact KI (hK _ g2) (by rw [g3, Nat.sub_self, srN])
  · exact h.elim

def invSrS (η : List Blk) (r : Int) (l : List Id3) (ms ts bs : List Int) (n : Nat) (st : St) : Prop := ∃ i : Nat, ∃ c0 : Nat, ∃ c1 : Nat, ∃ c2 : Nat, ∃ c3 : Nat, ∃ u0 : Nat, ∃ u1 : Nat, ∃ u2 : Nat, ∃ u3 : Nat, ∃ H : List Blk, (i ≤ n) ∧ (Ext η H) ∧ (H[c0]? = some ⟨u0, 45, 3, (l.map enc3).flatten⟩) ∧ (H[c1]? = some ⟨u1, 3, 1, (mcs l ms ts bs i).1.map (.int .i64)⟩) ∧ (H[c2]? = some ⟨u2, 3, 1, (mcs l ms ts bs i).2.map (.int .i64)⟩) ∧ (H[c3]? = some ⟨u3, 3, 1, bs.map (.int .i64)⟩) ∧ (srN r l ms ts bs 0 (n + 1) = srN r l ms ts bs i (n + 1 - i)) ∧ st.n = 26 ∧ st.τ 1 = .int .i64 n ∧ st.τ 5 = .loc 5 1 0 ∧ st.τ 6 = .int .i64 i ∧ st.lam 5 = ⟨1, [.int .i64 r, .sl c0 u0 0 l.length, .sl c1 u1 0 ms.length, .sl c2 u2 0 ts.length, .sl c3 u3 0 bs.length]⟩ ∧ st.η = H

/- spec.StepsToRest -/
def Sp76 (lo : Nat) : Spec := fun g args η K => match g with | 44 => SOk args η K | 61 => SMacS args η K | 75 => SRest args η K | 95 => SIn args η K | _ => False
theorem Sp76_ok {lo : Nat} : Sound Try.prog lo (Sp76 lo) := by
  intro g args η K h
  unfold Sp76 at h
  split at h
  · exact f44_ok h
  · exact f61_ok h
  · exact f75_ok h
  · exact f95_ok h
  · exact h.elim
theorem f76_ok {lo : Nat} {args : List AV} {η : List Blk} {K : AV → List Blk → Prop} (h : SSrR args η K) : AF Try.prog lo 76 args η K := by
  unfold SSrR at h
  split at h
  · obtain ⟨⟨⟨l, hr, hl⟩, ⟨ms, ha, hla⟩, ⟨ts, hb, hlb⟩, ⟨bs, hc, hlc⟩⟩, hK⟩ := h
    rename_i r _ _ _ _ y
    have d1 := hr.dec3
    have d2 := ha.dec
    have d3 := hb.dec
    have d4 := hc.dec
    have o1 : ok3 45 _ _ := ⟨l, hr, hl⟩
    have o2 : okI _ _ := ⟨ms, ha, hla⟩
    have o3 : okI _ _ := ⟨ts, hb, hlb⟩
    have o4 : okI _ _ := ⟨bs, hc, hlc⟩
    simp only [d1, d2, d3, d4] at hK
    have hr' := hr
    have ha' := ha
    have hb' := hb
    have hc' := hc
    obtain ⟨b0, v0, rfl, hb0⟩ := hr'
    obtain ⟨b1, v1, rfl, hb1⟩ := ha'
    obtain ⟨b2, v2, rfl, hb2⟩ := hb'
    obtain ⟨b3, v3, rfl, hb3⟩ := hc'
    refine AF_run Sp76_ok D0 [] [.tmp 4] hm Try.func76 rfl (by decide) Try.ntmps76 rfl (by kernel_rfl) (Nat.le_of_ble_eq_true rfl) ?_; intro hlo
    cases e1 : okB r l ms ts bs
    · repeat' (first | with_reducible refine iteI (fun _ => ?_) (fun _ => ?_) | ((first | unfold AOpsC | unfold AOpsD | skip); simp (maxSteps := 1000000) (disch := (first | omega | assumption | (simp only [List.length_append, List.length_cons, List.length_nil, List.length_set]; omega))) only [go_sem, ↓skipC, ↓exitC, ↓retC, ↓seqC, ↓blockC, ↓condC, ↓regC, ↓drawC, ↓drawStep, ↓AOpC, ↓AOpF, ↓AOpE, ↓AEff, ↓contE_at, ↓contC_at, ↓keepC_at, ↓keepW_at, ↓keepO_at, ↓map_parts, ↓reduceIte, reduceCtorEq, Nat.reduceLT, Nat.reduceEqDiff, Nat.reduceAdd, Nat.reduceMul, Nat.reduceLeDiff, Nat.reduceSub, Nat.reduceBEq, Nat.reduceBNe, Nat.reduceBneDiff, Nat.reduceBeqDiff, ag_39, by_39, nf_39, pl_39, ps_39, sz_39, ze_39, Sp76, SOk, SIn, hb0, hb1, hb2, hb3, d1, d2, d3, d4, o1, o2, o3, o4, e1]))
      exact KI (hK _ (Ext.refl _)) (by simp [srR, e1])
    cases ey : inB y 0 200
    · repeat' (first | with_reducible refine iteI (fun _ => ?_) (fun _ => ?_) | ((first | unfold AOpsC | unfold AOpsD | skip); simp (maxSteps := 1000000) (disch := (first | omega | assumption | (simp only [List.length_append, List.length_cons, List.length_nil, List.length_set]; omega))) only [go_sem, ↓skipC, ↓exitC, ↓retC, ↓seqC, ↓blockC, ↓condC, ↓regC, ↓drawC, ↓drawStep, ↓AOpC, ↓AOpF, ↓AOpE, ↓AEff, ↓contE_at, ↓contC_at, ↓keepC_at, ↓keepW_at, ↓keepO_at, ↓map_parts, ↓reduceIte, reduceCtorEq, Nat.reduceLT, Nat.reduceEqDiff, Nat.reduceAdd, Nat.reduceMul, Nat.reduceLeDiff, Nat.reduceSub, Nat.reduceBEq, Nat.reduceBNe, Nat.reduceBneDiff, Nat.reduceBeqDiff, ag_39, by_39, nf_39, pl_39, ps_39, sz_39, ze_39, Sp76, SOk, SIn, hb0, hb1, hb2, hb3, d1, d2, d3, d4, o1, o2, o3, o4, e1, ey]))
      exact KI (hK _ (Ext.refl _)) (by simp [srR, ey])
    have z0 : srR r l ms ts bs y = srN r l ms ts bs 0 (y.toNat + 1) := if_pos ⟨e1, ey⟩
    rw [z0] at hK
    have ey' := inT ey
    obtain ⟨n, rfl⟩ : ∃ n : Nat, y = n := ⟨y.toNat, by omega⟩
    rw [Int.toNat_natCast] at hK
    repeat' (first | with_reducible refine iteI (fun _ => ?_) (fun _ => ?_) | ((first | unfold AOpsC | unfold AOpsD | skip); simp (maxSteps := 1000000) (disch := (first | omega | assumption | (simp only [List.length_append, List.length_cons, List.length_nil, List.length_set]; omega))) only [go_sem, ↓skipC, ↓exitC, ↓retC, ↓seqC, ↓blockC, ↓condC, ↓regC, ↓drawC, ↓drawStep, ↓AOpC, ↓AOpF, ↓AOpE, ↓AEff, ↓contE_at, ↓contC_at, ↓keepC_at, ↓keepW_at, ↓keepO_at, ↓map_parts, ↓reduceIte, reduceCtorEq, Nat.reduceLT, Nat.reduceEqDiff, Nat.reduceAdd, Nat.reduceMul, Nat.reduceLeDiff, Nat.reduceSub, Nat.reduceBEq, Nat.reduceBNe, Nat.reduceBneDiff, Nat.reduceBeqDiff, ag_39, by_39, nf_39, pl_39, ps_39, sz_39, ze_39, Sp76, SOk, SIn, hb0, hb1, hb2, hb3, d1, d2, d3, d4, o1, o2, o3, o4, e1, ey]))
    refine ⟨invSrS η r l ms ts bs n, fun st => ctr (n + 1) st 6, .inl ⟨0, b0, b1, b2, b3, v0, v1, v2, v3, η, Nat.zero_le _, Ext.refl _, hb0, hb1, hb2, hb3, rfl, rfl, by simp [upd], by simp [upd], by simp [upd], by simp [upd], rfl⟩, ?_⟩
    rintro ⟨n, τ, lam, η'⟩ ⟨i, c0, c1, c2, c3, u0, u1, u2, u3, H, g0, g1, g2, g3, g4, g5, g6, hn, t1, t5, t6, l5, hη⟩; simp only at hn t1 t5 t6 l5 hη; subst hn hη
    obtain ⟨n1, n2⟩ := mcs_len e1 i
    have e2 := mcs_ok e1 i
    have i0m : IsR 45 3 enc3 η' (.sl c0 u0 0 l.length) l := ⟨_, _, rfl, g2⟩
    have i1m : IsI η' (.sl c1 u1 0 ms.length) (mcs l ms ts bs i).1 := ⟨c1, u1, by rw [n1], g3⟩
    have i2m : IsI η' (.sl c2 u2 0 ts.length) (mcs l ms ts bs i).2 := ⟨c2, u2, by rw [n2], g4⟩
    have i3m : IsI η' (.sl c3 u3 0 bs.length) bs := ⟨c3, u3, rfl, g5⟩
    have D1m := i0m.dec3
    have D2m := i1m.dec
    have D3m := i2m.dec
    have D4m := i3m.dec
    have O1m : ok3 45 _ _ := ⟨l, i0m, by omega⟩
    have O2m : okI _ _ := ⟨_, i1m, by omega⟩
    have O3m : okI _ _ := ⟨_, i2m, by omega⟩
    have O4m : okI _ _ := ⟨bs, i3m, by omega⟩
    have hs : srN r l ms ts bs i (n + 1 - i) = if rsB r l ms ts bs i = true then (i : Int) else srN r l ms ts bs (i + 1) (n - i) := by
      rw [show n + 1 - i = (n - i) + 1 by omega, srN]
    repeat' (first | with_reducible refine iteI (fun _ => ?_) (fun _ => ?_) | ((first | unfold AOpsC | unfold AOpsD | skip); simp (maxSteps := 1000000) (disch := (first | omega | assumption | (simp only [List.length_append, List.length_cons, List.length_nil, List.length_set]; omega))) only [go_sem, ↓skipC, ↓exitC, ↓retC, ↓seqC, ↓blockC, ↓condC, ↓regC, ↓drawC, ↓drawStep, ↓AOpC, ↓AOpF, ↓AOpE, ↓AEff, ↓contE_at, ↓contC_at, ↓keepC_at, ↓keepW_at, ↓keepO_at, ↓map_parts, ↓reduceIte, reduceCtorEq, Nat.reduceLT, Nat.reduceEqDiff, Nat.reduceAdd, Nat.reduceMul, Nat.reduceLeDiff, Nat.reduceSub, Nat.reduceBEq, Nat.reduceBNe, Nat.reduceBneDiff, Nat.reduceBeqDiff, ag_39, by_39, nf_39, pl_39, ps_39, sz_39, ze_39, Sp76, SOk, SIn, t1, t5, t6, l5]))
    unfold SRest
    simp only [D1m, D2m, D3m, D4m, O1m, O2m, O3m, O4m, true_and, and_self]
    refine fun H3 x3 => ?_
    have hrb : restR r l (mcs l ms ts bs i).1 (mcs l ms ts bs i).2 bs = rsB r l ms ts bs i := rfl
    rw [hrb]
    cases hq : rsB r l ms ts bs i
    · rw [hq] at hs
      simp only [Bool.false_eq_true, if_false] at hs
      have i0k : IsR 45 3 enc3 H3 (.sl c0 u0 0 l.length) l := ⟨_, _, rfl, (x3.blk g2)⟩
      have i1k : IsI H3 (.sl c1 u1 0 ms.length) (mcs l ms ts bs i).1 := ⟨c1, u1, by rw [n1], (x3.blk g3)⟩
      have i2k : IsI H3 (.sl c2 u2 0 ts.length) (mcs l ms ts bs i).2 := ⟨c2, u2, by rw [n2], (x3.blk g4)⟩
      have i3k : IsI H3 (.sl c3 u3 0 bs.length) bs := ⟨c3, u3, rfl, (x3.blk g5)⟩
      have D1k := i0k.dec3
      have D2k := i1k.dec
      have D3k := i2k.dec
      have D4k := i3k.dec
      have O1k : ok3 45 _ _ := ⟨l, i0k, by omega⟩
      have O2k : okI _ _ := ⟨_, i1k, by omega⟩
      have O3k : okI _ _ := ⟨_, i2k, by omega⟩
      have O4k : okI _ _ := ⟨bs, i3k, by omega⟩
      by_cases hin : i = n
      · subst hin
        repeat' (first | with_reducible refine iteI (fun _ => ?_) (fun _ => ?_) | ((first | unfold AOpsC | unfold AOpsD | skip); simp (maxSteps := 1000000) (disch := (first | omega | assumption | (simp only [List.length_append, List.length_cons, List.length_nil, List.length_set]; omega))) only [go_sem, ↓skipC, ↓exitC, ↓retC, ↓seqC, ↓blockC, ↓condC, ↓regC, ↓drawC, ↓drawStep, ↓AOpC, ↓AOpF, ↓AOpE, ↓AEff, ↓contE_at, ↓contC_at, ↓keepC_at, ↓keepW_at, ↓keepO_at, ↓map_parts, ↓reduceIte, reduceCtorEq, Nat.reduceLT, Nat.reduceEqDiff, Nat.reduceAdd, Nat.reduceMul, Nat.reduceLeDiff, Nat.reduceSub, Nat.reduceBEq, Nat.reduceBNe, Nat.reduceBneDiff, Nat.reduceBeqDiff, ag_39, by_39, nf_39, pl_39, ps_39, sz_39, ze_39, Sp76, SOk, SIn, t1, t5, t6, l5]))
        exact KI (hK _ (g1.trans x3)) (by rw [g6, hs, Nat.sub_self, srN])
      repeat' (first | with_reducible refine iteI (fun _ => ?_) (fun _ => ?_) | ((first | unfold AOpsC | unfold AOpsD | skip); simp (maxSteps := 1000000) (disch := (first | omega | assumption | (simp only [List.length_append, List.length_cons, List.length_nil, List.length_set]; omega))) only [go_sem, ↓skipC, ↓exitC, ↓retC, ↓seqC, ↓blockC, ↓condC, ↓regC, ↓drawC, ↓drawStep, ↓AOpC, ↓AOpF, ↓AOpE, ↓AEff, ↓contE_at, ↓contC_at, ↓keepC_at, ↓keepW_at, ↓keepO_at, ↓map_parts, ↓reduceIte, reduceCtorEq, Nat.reduceLT, Nat.reduceEqDiff, Nat.reduceAdd, Nat.reduceMul, Nat.reduceLeDiff, Nat.reduceSub, Nat.reduceBEq, Nat.reduceBNe, Nat.reduceBneDiff, Nat.reduceBeqDiff, ag_39, by_39, nf_39, pl_39, ps_39, sz_39, ze_39, Sp76, SOk, SIn, t1, t5, t6, l5]))
      unfold SMacS
      simp only [D1k, D2k, D3k, D4k, O1k, O2k, O3k, O4k, true_and, and_self]
      refine fun H4 d0 d1 d2 d3 a0 a1 a2 a3 hN4 x4 => ?_
      have hm : mcs l ms ts bs (i + 1) = mac l (mcs l ms ts bs i).1 (mcs l ms ts bs i).2 bs 16 := by rw [mcs]
      have y0 : mcM r l (mcs l ms ts bs i).1 (mcs l ms ts bs i).2 bs = (mcs l ms ts bs (i + 1)).1 := by rw [hm, mcM, if_pos e2]
      have y1 : mcT r l (mcs l ms ts bs i).1 (mcs l ms ts bs i).2 bs = (mcs l ms ts bs (i + 1)).2 := by rw [hm, mcT, if_pos e2]
      obtain ⟨m1, m2⟩ := mcs_len e1 (i + 1)
      rw [y0, y1] at hN4 ⊢
      rw [m1, m2]
      repeat' (first | with_reducible refine iteI (fun _ => ?_) (fun _ => ?_) | ((first | unfold AOpsC | unfold AOpsD | skip); simp (maxSteps := 1000000) (disch := (first | omega | assumption | (simp only [List.length_append, List.length_cons, List.length_nil, List.length_set]; omega))) only [go_sem, ↓skipC, ↓exitC, ↓retC, ↓seqC, ↓blockC, ↓condC, ↓regC, ↓drawC, ↓drawStep, ↓AOpC, ↓AOpF, ↓AOpE, ↓AEff, ↓contE_at, ↓contC_at, ↓keepC_at, ↓keepW_at, ↓keepO_at, ↓map_parts, ↓reduceIte, reduceCtorEq, Nat.reduceLT, Nat.reduceEqDiff, Nat.reduceAdd, Nat.reduceMul, Nat.reduceLeDiff, Nat.reduceSub, Nat.reduceBEq, Nat.reduceBNe, Nat.reduceBneDiff, Nat.reduceBeqDiff, ag_39, by_39, nf_39, pl_39, ps_39, sz_39, ze_39, Sp76, SOk, SIn, t1, t5, t6, l5]))
      refine ⟨⟨i + 1, d0, d1, d2, d3, a0, a1, a2, a3, H4, by omega, (g1.trans x3).trans x4, hN4.g0, hN4.g1, hN4.g2, hN4.g3, by rw [g6, hs, show n + 1 - (i + 1) = n - i by omega], rfl, by simp [upd, t1], by simp [upd, t5], by simp [upd], by simp [upd], rfl⟩, by simp [ctr, upd, t6]; omega⟩
    · rw [hq] at hs
      simp only [if_true] at hs
      repeat' (first | with_reducible refine iteI (fun _ => ?_) (fun _ => ?_) | ((first | unfold AOpsC | unfold AOpsD | skip); simp (maxSteps := 1000000) (disch := (first | omega | assumption | (simp only [List.length_append, List.length_cons, List.length_nil, List.length_set]; omega))) only [go_sem, ↓skipC, ↓exitC, ↓retC, ↓seqC, ↓blockC, ↓condC, ↓regC, ↓drawC, ↓drawStep, ↓AOpC, ↓AOpF, ↓AOpE, ↓AEff, ↓contE_at, ↓contC_at, ↓keepC_at, ↓keepW_at, ↓keepO_at, ↓map_parts, ↓reduceIte, reduceCtorEq, Nat.reduceLT, Nat.reduceEqDiff, Nat.reduceAdd, Nat.reduceMul, Nat.reduceLeDiff, Nat.reduceSub, Nat.reduceBEq, Nat.reduceBNe, Nat.reduceBneDiff, Nat.reduceBeqDiff, ag_39, by_39, nf_39, pl_39, ps_39, sz_39, ze_39, Sp76, SOk, SIn, t1, t5, t6, l5]))
      exact KI (hK _ (g1.trans x3)) (by rw [g6, hs])
  · exact h.elim

end Go.Proofs.Ytffefndnnbcplaa
