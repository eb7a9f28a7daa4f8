/- What functions of the program compute, said in the abstract logic; no conditions. -/
import Derived.Test.YtffefndnnbcplaaGMacP

namespace Go.Proofs.Ytffefndnnbcplaa
open Go
set_option linter.unusedSimpArgs false
set_option linter.unusedVariables false
set_option maxRecDepth 100000
set_option maxHeartbeats 8000000
attribute [local go_sem] st0 AC thenA andC locLoadB KsSW_same KsSW_grow oldLoadB KsOS_same KsOS_grow pv ev put upd dstOk cv cvc binI setB Value.oneCell' EndA resA resA1 List.mapM_cons List.mapM_nil Option.pure_def Option.bind_eq_bind noLocV noLoc1 noLoc noLocs plainV cellsA newVarA putCells condA lam0 inBlockA cur lenA rowA avoidsB avoidB clearB Array.toList_append Op.operands Call.operands newSlot Nat.zero_add Nat.add_zero Nat.succ_ne_self Nat.lt_add_one Nat.zero_lt_succ true_and and_true true_or or_true false_or or_false and_self true_implies forall_const Bool.false_eq_true Bool.true_eq_false false_implies implies_true imp_self ne_eq not_false_eq_true not_true_eq_false false_and and_false List.getElem?_toArray List.getElem?_cons_succ List.getElem?_cons_zero Option.bind_some Option.map_some Bool.not_true Bool.not_false List.getD_cons_zero List.getD_cons_succ Option.some.injEq exists_eq_left' AV.bool.injEq List.map_cons List.map_nil List.all_cons List.all_nil Bool.and_self Bool.and_true Bool.true_and List.append_nil List.cons_append List.nil_append List.length_cons List.length_nil List.drop_zero List.take_zero List.drop_succ_cons List.take_succ_cons List.take_nil List.drop_nil List.not_mem_nil List.mem_cons List.contains_nil List.contains_cons Bool.or_self Bool.or_true Bool.true_or Bool.false_or Bool.or_false Bool.and_false Bool.false_and KsS_same KsS_grow skipV KsS_ext KsSW_ext KsOS_ext rep1 rep2 rep3 rep4 rep5 List.flatten_cons List.flatten_nil partsA isPtr fillA List.size_toArray ltT ltF leT leF ltTn ltFn leTn leFn eqTi eqFi wrapId toNat1 intGet boolGet memD app_get app_last app_lst app_set app_setL app_setF set_ne set_eq gt_iff_lt ge_iff_le decide_eq_true_eq len2 len3 get20 get21 drop2 put2 get30 get31 get32 drop3 put3 putI pairEta bneTi bneFi beqTi beqFi bne_eq_false_iff_eq beq_eq_false_iff_ne beq_iff_eq bne_iff_ne Int.toNat_natCast Nat.mul_one List.length_map Bool.not_eq_true Bool.not_eq_false Bool.decide_eq_true decide_true decide_false Bool.not_eq_true' Bool.not_eq_false' decide_eq_false_iff_not eq_self Decidable.not_not

/-- What flows through a face in the ticks before k. -/
def fsN (l : List Id3) (ms ts bs : List Int) (j : Nat) : Nat → Int
  | 0 => 0
  | k + 1 => fsN l ms ts bs j k + (if actB (k : Int) (faceI l j) = true then fluxI l (mac l ms ts bs k).1 bs j else 0)
def fsR (r : Int) (l : List Id3) (ms ts bs : List Int) (i : Int) : Int := if faceB r l ms ts bs i = true then fsN l ms ts bs i.toNat 16 else 0
theorem fs_bd {r : Int} {l : List Id3} {ms ts bs : List Int} (e1 : okB r l ms ts bs = true) {j : Nat} (hj : j + 1 < l.length) (k : Nat) : -10000000 ≤ fluxI l (mac l ms ts bs k).1 bs j ∧ fluxI l (mac l ms ts bs k).1 bs j ≤ 10000000 := by
  have e2 := mac_ok e1 k
  obtain ⟨k1, k2, k3, k4, k5, k6, k7, k8⟩ := okT e2
  have h := flux_bd e2 hj
  have m1 := cells_at k7 (i := j) (by omega)
  have m2 := cells_at k7 (i := j + 1) (by omega)
  have t1 := tdiv_bd (a := (mac l ms ts bs k).1.getD j 0) (b := 4) (X := 10000000) (by omega) (by omega)
  have t2 := tdiv_bd (a := (mac l ms ts bs k).1.getD (j + 1) 0) (b := 4) (X := 10000000) (by omega) (by omega)
  omega
theorem fsN_bd {r : Int} {l : List Id3} {ms ts bs : List Int} (e1 : okB r l ms ts bs = true) {j : Nat} (hj : j + 1 < l.length) : ∀ k : Nat, -(10000000 * k) ≤ fsN l ms ts bs j k ∧ fsN l ms ts bs j k ≤ 10000000 * k
  | 0 => by simp [fsN]
  | k + 1 => by
    have ih := fsN_bd e1 hj k
    have h := fs_bd e1 hj k
    rw [fsN]
    split <;> omega

def SFlS : List AV → List Blk → (AV → List Blk → Prop) → Prop
  | [.agg [.int .i64 r, v, a, b, c], .int .i64 y0], η, K => (ok3 45 η v ∧ okI η a ∧ okI η b ∧ okI η c) ∧ ∀ H, Ext η H → K (.int .i64 (fsR r (dec3 45 η v) (decI η a) (decI η b) (decI η c) y0)) H
  | _, _, _ => False

def invFsI (η : List Blk) (p : Nat) (r : Int) (v a b c : AV) (q0 q1 q2 q3 : Nat) (l : List Id3) (ms ts bs : List Int) (j : Nat) (st : St) : Prop := ∃ i : Nat, ∃ H : List Blk, (i ≤ 16) ∧ (PtrS η.length p H r q0 q1 q2 q3 0 0 0 0 l (mac l ms ts bs i).1 (mac l ms ts bs i).2 bs) ∧ (Ext η H) ∧ st.n = 35 ∧ st.τ 1 = .int .i64 j ∧ st.τ 2 = .loc 2 1 0 ∧ st.τ 5 = .ptr p 0 0 ∧ st.τ 6 = .int .i64 (fsN l ms ts bs j i) ∧ st.τ 14 = .int .i64 i ∧ st.lam 2 = ⟨1, [.int .i64 r, v, a, b, c]⟩ ∧ st.η = H

/- impl.FluxSum -/
def Sp72 (lo : Nat) : Spec := fun g args η K => match g with | 26 => SIsAct args η K | 91 => SActS args η K | 97 => SFace args η K | 104 => SFlux args η K | 107 => SHasF args η K | 109 => SCopyS args η K | 124 => SMov lo args η K | _ => False
theorem Sp72_ok {lo : Nat} : Sound Try.prog lo (Sp72 lo) := by
  intro g args η K h
  unfold Sp72 at h
  split at h
  · exact f26_ok h
  · exact f91S_ok h
  · exact f97_ok h
  · exact f104_ok h
  · exact f107_ok h
  · exact f109_ok h
  · exact f124_ok h
  · exact h.elim
theorem f72_ok {lo : Nat} {args : List AV} {η : List Blk} {K : AV → List Blk → Prop} (h : SFlS args η K) : AF Try.prog lo 72 args η K := by
  unfold SFlS at h
  split at h
  · obtain ⟨⟨⟨l, hr, hl⟩, ⟨ms, ha, hla⟩, ⟨ts, hb, hlb⟩, ⟨bs, hc, hlc⟩⟩, hK⟩ := h
    rename_i r _ _ _ _ y
    have d1 := hr.dec3
    have d2 := ha.dec
    have d3 := hb.dec
    have d4 := hc.dec
    have o1 : ok3 45 _ _ := ⟨l, hr, hl⟩
    have o2 : okI _ _ := ⟨ms, ha, hla⟩
    have o3 : okI _ _ := ⟨ts, hb, hlb⟩
    have o4 : okI _ _ := ⟨bs, hc, hlc⟩
    simp only [d1, d2, d3, d4] at hK
    have hr' := hr
    have ha' := ha
    have hb' := hb
    have hc' := hc
    obtain ⟨b0, v0, rfl, hb0⟩ := hr'
    obtain ⟨b1, v1, rfl, hb1⟩ := ha'
    obtain ⟨b2, v2, rfl, hb2⟩ := hb'
    obtain ⟨b3, v3, rfl, hb3⟩ := hc'
    refine AF_run Sp72_ok D0 [5] [.tmp 4] hm Try.func72 rfl (by decide) Try.ntmps72 rfl (by kernel_rfl) (Nat.le_of_ble_eq_true rfl) ?_; intro hlo
    cases e0 : faceB r l ms ts bs y
    · repeat' (first | with_reducible refine iteI (fun _ => ?_) (fun _ => ?_) | ((first | unfold AOpsC | unfold AOpsD | skip); simp (maxSteps := 1000000) (disch := (first | omega | assumption | (simp only [List.length_append, List.length_cons, List.length_nil, List.length_set]; omega))) only [go_sem, ↓skipC, ↓exitC, ↓retC, ↓seqC, ↓blockC, ↓condC, ↓regC, ↓drawC, ↓drawStep, ↓AOpC, ↓AOpF, ↓AOpE, ↓AEff, ↓contE_at, ↓contC_at, ↓keepC_at, ↓keepW_at, ↓keepO_at, ↓map_parts, ↓reduceIte, reduceCtorEq, Nat.reduceLT, Nat.reduceEqDiff, Nat.reduceAdd, Nat.reduceMul, Nat.reduceLeDiff, Nat.reduceSub, Nat.reduceBEq, Nat.reduceBNe, Nat.reduceBneDiff, Nat.reduceBeqDiff, ag_26, ag_39, by_26, by_39, fi_39_0, nf_26, nf_39, pl_26, pl_39, ps_26, ps_39, sz_26, sz_39, ze_26, ze_39, Sp72, SIsAct, SFace, SFlux, SHasF, hb0, hb1, hb2, hb3, d1, d2, d3, d4, o1, o2, o3, o4, e0]))
      exact KI (hK _ (Ext.refl _)) (by simp [fsR, e0])
    have z0 : fsR r l ms ts bs y = fsN l ms ts bs y.toNat 16 := if_pos e0
    rw [z0] at hK
    have e0' := e0
    simp only [faceB, Bool.and_eq_true] at e0'
    obtain ⟨e1, ey⟩ := e0'
    have ey := inT ey
    obtain ⟨j, rfl⟩ : ∃ j : Nat, y = j := ⟨y.toNat, by omega⟩
    rw [Int.toNat_natCast] at hK
    have hj : j + 1 < l.length := by omega
    obtain ⟨k1, k2, k3, k4, k5, k6, k7, k8⟩ := okT e1
    have hlv := mesh_levs k1
    repeat' (first | with_reducible refine iteI (fun _ => ?_) (fun _ => ?_) | ((first | unfold AOpsC | unfold AOpsD | skip); simp (maxSteps := 1000000) (disch := (first | omega | assumption | (simp only [List.length_append, List.length_cons, List.length_nil, List.length_set]; omega))) only [go_sem, ↓skipC, ↓exitC, ↓retC, ↓seqC, ↓blockC, ↓condC, ↓regC, ↓drawC, ↓drawStep, ↓AOpC, ↓AOpF, ↓AOpE, ↓AEff, ↓contE_at, ↓contC_at, ↓keepC_at, ↓keepW_at, ↓keepO_at, ↓map_parts, ↓reduceIte, reduceCtorEq, Nat.reduceLT, Nat.reduceEqDiff, Nat.reduceAdd, Nat.reduceMul, Nat.reduceLeDiff, Nat.reduceSub, Nat.reduceBEq, Nat.reduceBNe, Nat.reduceBneDiff, Nat.reduceBeqDiff, ag_26, ag_39, by_26, by_39, fi_39_0, nf_26, nf_39, pl_26, pl_39, ps_26, ps_39, sz_26, sz_39, ze_26, ze_39, Sp72, SIsAct, SFace, SFlux, SHasF, hb0, hb1, hb2, hb3, d1, d2, d3, d4, o1, o2, o3, o4, e0]))
    refine copyN ⟨l, ms, ts, bs, ⟨hr, ha, hb, hc⟩, ⟨hl, hla, hlb, hlc⟩, fun H q0 q1 q2 q3 hN x => ?_⟩
    have w0 := x.blk hb0
    have w1 := x.blk hb1
    have w2 := x.blk hb2
    have w3 := x.blk hb3
    have D1 : dec3 45 H (.sl b0 v0 0 l.length) = l := IsR.dec3 ⟨b0, v0, rfl, w0⟩
    have D2 : decI H (.sl b1 v1 0 ms.length) = ms := IsI.dec ⟨b1, v1, rfl, w1⟩
    have D3 : decI H (.sl b2 v2 0 ts.length) = ts := IsI.dec ⟨b2, v2, rfl, w2⟩
    have D4 : decI H (.sl b3 v3 0 bs.length) = bs := IsI.dec ⟨b3, v3, rfl, w3⟩
    have O1 : ok3 45 H (.sl b0 v0 0 l.length) := ⟨l, ⟨b0, v0, rfl, w0⟩, hl⟩
    have O2 : okI H (.sl b1 v1 0 ms.length) := ⟨ms, ⟨b1, v1, rfl, w1⟩, hla⟩
    have O3 : okI H (.sl b2 v2 0 ts.length) := ⟨ts, ⟨b2, v2, rfl, w2⟩, hlb⟩
    have O4 : okI H (.sl b3 v3 0 bs.length) := ⟨bs, ⟨b3, v3, rfl, w3⟩, hlc⟩
    have hHl := x.len
    have nlt := fun c => hN.lt (c := c)
    have l0 := nlt q0 (.inl rfl)
    have l1 := nlt q1 (.inr (.inl rfl))
    have l2 := nlt q2 (.inr (.inr (.inl rfl)))
    have l3 := nlt q3 (.inr (.inr (.inr rfl)))
    repeat' (first | with_reducible refine iteI (fun _ => ?_) (fun _ => ?_) | ((first | unfold AOpsC | unfold AOpsD | skip); simp (maxSteps := 1000000) (disch := (first | omega | assumption | (simp only [List.length_append, List.length_cons, List.length_nil, List.length_set]; omega))) only [go_sem, ↓skipC, ↓exitC, ↓retC, ↓seqC, ↓blockC, ↓condC, ↓regC, ↓drawC, ↓drawStep, ↓AOpC, ↓AOpF, ↓AOpE, ↓AEff, ↓contE_at, ↓contC_at, ↓keepC_at, ↓keepW_at, ↓keepO_at, ↓map_parts, ↓reduceIte, reduceCtorEq, Nat.reduceLT, Nat.reduceEqDiff, Nat.reduceAdd, Nat.reduceMul, Nat.reduceLeDiff, Nat.reduceSub, Nat.reduceBEq, Nat.reduceBNe, Nat.reduceBneDiff, Nat.reduceBeqDiff, ag_26, ag_39, by_26, by_39, fi_39_0, nf_26, nf_39, pl_26, pl_39, ps_26, ps_39, sz_26, sz_39, ze_26, ze_39, Sp72, SIsAct, SFace, SFlux, SHasF, w0, w1, w2, w3, D1, D2, D3, D4, O1, O2, O3, O4]))
    generalize hH2 : H ++ [(⟨0, 39, 5, [.int .i64 r, .sl q0 0 0 l.length, .sl q1 0 0 ms.length, .sl q2 0 0 ts.length, .sl q3 0 0 bs.length]⟩ : Blk)] = H2
    have x2 : Ext H H2 := ⟨_, hH2.symm⟩
    have hP : PtrS η.length H.length H2 r q0 q1 q2 q3 0 0 0 0 l ms ts bs := ⟨by rw [← hH2]; exact app_last _ _, hN.ext x2, hHl, by omega, by omega, by omega, by omega⟩
    have xx := x.trans x2
    generalize H.length = p at *
    refine ⟨invFsI η p r (.sl b0 v0 0 l.length) (.sl b1 v1 0 ms.length) (.sl b2 v2 0 ts.length) (.sl b3 v3 0 bs.length) q0 q1 q2 q3 l ms ts bs j, fun st => ctr 16 st 14, .inl ⟨0, H2, Nat.zero_le _, hP, xx, rfl, by simp [upd], by simp [upd], by simp [upd], by simp [upd, fsN], by simp [upd], by simp [upd], by first | rfl | exact hH2⟩, ?_⟩
    clear hP xx x2 hH2 w0 w1 w2 w3 D1 D2 D3 D4 O1 O2 O3 O4 l0 l1 l2 l3
    rintro ⟨n, τ, lam, η'⟩ ⟨i, H, g0, g1, g2, hn, t1, t2, t5, t6, t14, l2, hη⟩; simp only at hn t1 t2 t5 t6 t14 l2 hη; subst hn hη
    have w0k := g2.blk hb0
    have w1k := g2.blk hb1
    have w2k := g2.blk hb2
    have w3k := g2.blk hb3
    have D1k : dec3 45 η' (.sl b0 v0 0 l.length) = l := IsR.dec3 ⟨b0, v0, rfl, w0k⟩
    have D2k : decI η' (.sl b1 v1 0 ms.length) = ms := IsI.dec ⟨b1, v1, rfl, w1k⟩
    have D3k : decI η' (.sl b2 v2 0 ts.length) = ts := IsI.dec ⟨b2, v2, rfl, w2k⟩
    have D4k : decI η' (.sl b3 v3 0 bs.length) = bs := IsI.dec ⟨b3, v3, rfl, w3k⟩
    have O1k : ok3 45 η' (.sl b0 v0 0 l.length) := ⟨l, ⟨b0, v0, rfl, w0k⟩, hl⟩
    have O2k : okI η' (.sl b1 v1 0 ms.length) := ⟨ms, ⟨b1, v1, rfl, w1k⟩, hla⟩
    have O3k : okI η' (.sl b2 v2 0 ts.length) := ⟨ts, ⟨b2, v2, rfl, w2k⟩, hlb⟩
    have O4k : okI η' (.sl b3 v3 0 bs.length) := ⟨bs, ⟨b3, v3, rfl, w3k⟩, hlc⟩
    have fb := fsN_bd e1 hj i
    by_cases hlt : i < 16
    · have e2 := mac_ok e1 i
      have k3 := (okT e2).2.2.1
      obtain ⟨n1, n2⟩ := mac_len e1 i
      have fs := fs_bd e1 hj i
      have pp := g1.pb
      have i0m : IsR 45 3 enc3 η' (.sl q0 0 0 l.length) l := ⟨_, _, rfl, g1.n4.g0⟩
      have i1m : IsI η' (.sl q1 0 0 (mac l ms ts bs i).1.length) (mac l ms ts bs i).1 := ⟨q1, 0, rfl, g1.n4.g1⟩
      have i2m : IsI η' (.sl q2 0 0 (mac l ms ts bs i).2.length) (mac l ms ts bs i).2 := ⟨q2, 0, rfl, g1.n4.g2⟩
      have i3m : IsI η' (.sl q3 0 0 bs.length) bs := ⟨q3, 0, rfl, g1.n4.g3⟩
      have D1m := i0m.dec3
      have D2m := i1m.dec
      have D3m := i2m.dec
      have D4m := i3m.dec
      have O1m : ok3 45 _ _ := ⟨l, i0m, by omega⟩
      have O2m : okI _ _ := ⟨_, i1m, by omega⟩
      have O3m : okI _ _ := ⟨_, i2m, by omega⟩
      have O4m : okI _ _ := ⟨bs, i3m, by omega⟩
      have hfs : fsN l ms ts bs j (i + 1) = fsN l ms ts bs j i + (if actB (i : Int) (faceI l j) = true then fluxI l (mac l ms ts bs i).1 bs j else 0) := rfl
      cases hac : actB (i : Int) (faceI l j)
      · rw [hac] at hfs
        simp only [Bool.false_eq_true, if_false, Int.add_zero] at hfs
        repeat' (first | with_reducible refine iteI (fun _ => ?_) (fun _ => ?_) | ((first | unfold AOpsC | unfold AOpsD | skip); simp (maxSteps := 1000000) (disch := (first | omega | assumption | (simp only [List.length_append, List.length_cons, List.length_nil, List.length_set]; omega))) only [go_sem, ↓skipC, ↓exitC, ↓retC, ↓seqC, ↓blockC, ↓condC, ↓regC, ↓drawC, ↓drawStep, ↓AOpC, ↓AOpF, ↓AOpE, ↓AEff, ↓contE_at, ↓contC_at, ↓keepC_at, ↓keepW_at, ↓keepO_at, ↓map_parts, ↓reduceIte, reduceCtorEq, Nat.reduceLT, Nat.reduceEqDiff, Nat.reduceAdd, Nat.reduceMul, Nat.reduceLeDiff, Nat.reduceSub, Nat.reduceBEq, Nat.reduceBNe, Nat.reduceBneDiff, Nat.reduceBeqDiff, ag_26, ag_39, by_26, by_39, fi_39_0, nf_26, nf_39, pl_26, pl_39, ps_26, ps_39, sz_26, sz_39, ze_26, ze_39, Sp72, SIsAct, SFace, SFlux, SHasF, w0k, w1k, w2k, w3k, D1k, D2k, D3k, D4k, O1k, O2k, O3k, O4k, hlv, hac, t1, t2, t5, t6, t14, l2]))
        unfold SActS
        simp only [D1k]
        refine ⟨⟨O1k, hlv⟩, fun H3 bl wer hbl hnb x3 => ?_⟩
        have hP3 : PtrS η.length p H3 r q0 q1 q2 q3 0 0 0 0 l (mac l ms ts bs i).1 (mac l ms ts bs i).2 bs := ⟨x3.blk pp, g1.n4.ext x3, g1.np, g1.p0, g1.p1, g1.p2, g1.p3⟩
        repeat' (first | with_reducible refine iteI (fun _ => ?_) (fun _ => ?_) | ((first | unfold AOpsC | unfold AOpsD | skip); simp (maxSteps := 1000000) (disch := (first | omega | assumption | (simp only [List.length_append, List.length_cons, List.length_nil, List.length_set]; omega))) only [go_sem, ↓skipC, ↓exitC, ↓retC, ↓seqC, ↓blockC, ↓condC, ↓regC, ↓drawC, ↓drawStep, ↓AOpC, ↓AOpF, ↓AOpE, ↓AEff, ↓contE_at, ↓contC_at, ↓keepC_at, ↓keepW_at, ↓keepO_at, ↓map_parts, ↓reduceIte, reduceCtorEq, Nat.reduceLT, Nat.reduceEqDiff, Nat.reduceAdd, Nat.reduceMul, Nat.reduceLeDiff, Nat.reduceSub, Nat.reduceBEq, Nat.reduceBNe, Nat.reduceBneDiff, Nat.reduceBeqDiff, ag_26, ag_39, by_26, by_39, fi_39_0, nf_26, nf_39, pl_26, pl_39, ps_26, ps_39, sz_26, sz_39, ze_26, ze_39, Sp72, SIsAct, SFace, SFlux, SHasF, t1, t2, t5, t6, t14, l2]))
        unfold SMov
        have hal := act_len l (i : Int) (l.length - 1)
        refine ⟨η.length, r, q0, q1, q2, q3, 0, 0, 0, 0, l, _, _, bs, actL l (i : Int), hlo, hP3, e2, ⟨rfl, hbl, by unfold actL; omega⟩, act_faces k3, fun H4 hP4 t4 => ?_⟩
        have x4 := (g2.trans x3).after t4 (fun c hc => hP3.low hc)
        repeat' (first | with_reducible refine iteI (fun _ => ?_) (fun _ => ?_) | ((first | unfold AOpsC | unfold AOpsD | skip); simp (maxSteps := 1000000) (disch := (first | omega | assumption | (simp only [List.length_append, List.length_cons, List.length_nil, List.length_set]; omega))) only [go_sem, ↓skipC, ↓exitC, ↓retC, ↓seqC, ↓blockC, ↓condC, ↓regC, ↓drawC, ↓drawStep, ↓AOpC, ↓AOpF, ↓AOpE, ↓AEff, ↓contE_at, ↓contC_at, ↓keepC_at, ↓keepW_at, ↓keepO_at, ↓map_parts, ↓reduceIte, reduceCtorEq, Nat.reduceLT, Nat.reduceEqDiff, Nat.reduceAdd, Nat.reduceMul, Nat.reduceLeDiff, Nat.reduceSub, Nat.reduceBEq, Nat.reduceBNe, Nat.reduceBneDiff, Nat.reduceBeqDiff, ag_26, ag_39, by_26, by_39, fi_39_0, nf_26, nf_39, pl_26, pl_39, ps_26, ps_39, sz_26, sz_39, ze_26, ze_39, Sp72, SIsAct, SFace, SFlux, SHasF, t1, t2, t5, t6, t14, l2]))
        refine ⟨⟨i + 1, H4, hlt, hP4, x4, rfl, by simp [upd, t1], by simp [upd, t2], by simp [upd, t5], by simp [upd, t6, hfs], by simp [upd], by simp [upd, l2], rfl⟩, by simp [ctr, upd, t14]; omega⟩
      · rw [hac] at hfs
        simp only [if_true] at hfs
        repeat' (first | with_reducible refine iteI (fun _ => ?_) (fun _ => ?_) | ((first | unfold AOpsC | unfold AOpsD | skip); simp (maxSteps := 1000000) (disch := (first | omega | assumption | (simp only [List.length_append, List.length_cons, List.length_nil, List.length_set]; omega))) only [go_sem, ↓skipC, ↓exitC, ↓retC, ↓seqC, ↓blockC, ↓condC, ↓regC, ↓drawC, ↓drawStep, ↓AOpC, ↓AOpF, ↓AOpE, ↓AEff, ↓contE_at, ↓contC_at, ↓keepC_at, ↓keepW_at, ↓keepO_at, ↓map_parts, ↓reduceIte, reduceCtorEq, Nat.reduceLT, Nat.reduceEqDiff, Nat.reduceAdd, Nat.reduceMul, Nat.reduceLeDiff, Nat.reduceSub, Nat.reduceBEq, Nat.reduceBNe, Nat.reduceBneDiff, Nat.reduceBeqDiff, ag_26, ag_39, by_26, by_39, fi_39_0, nf_26, nf_39, pl_26, pl_39, ps_26, ps_39, sz_26, sz_39, ze_26, ze_39, Sp72, SIsAct, SFace, SFlux, SHasF, w0k, w1k, w2k, w3k, D1k, D2k, D3k, D4k, O1k, O2k, O3k, O4k, hlv, hac, pp, D1m, D2m, D3m, D4m, O1m, O2m, O3m, O4m, e2, t1, t2, t5, t6, t14, l2]))
        unfold SActS
        simp only [D1k]
        refine ⟨⟨O1k, hlv⟩, fun H3 bl wer hbl hnb x3 => ?_⟩
        have hP3 : PtrS η.length p H3 r q0 q1 q2 q3 0 0 0 0 l (mac l ms ts bs i).1 (mac l ms ts bs i).2 bs := ⟨x3.blk pp, g1.n4.ext x3, g1.np, g1.p0, g1.p1, g1.p2, g1.p3⟩
        repeat' (first | with_reducible refine iteI (fun _ => ?_) (fun _ => ?_) | ((first | unfold AOpsC | unfold AOpsD | skip); simp (maxSteps := 1000000) (disch := (first | omega | assumption | (simp only [List.length_append, List.length_cons, List.length_nil, List.length_set]; omega))) only [go_sem, ↓skipC, ↓exitC, ↓retC, ↓seqC, ↓blockC, ↓condC, ↓regC, ↓drawC, ↓drawStep, ↓AOpC, ↓AOpF, ↓AOpE, ↓AEff, ↓contE_at, ↓contC_at, ↓keepC_at, ↓keepW_at, ↓keepO_at, ↓map_parts, ↓reduceIte, reduceCtorEq, Nat.reduceLT, Nat.reduceEqDiff, Nat.reduceAdd, Nat.reduceMul, Nat.reduceLeDiff, Nat.reduceSub, Nat.reduceBEq, Nat.reduceBNe, Nat.reduceBneDiff, Nat.reduceBeqDiff, ag_26, ag_39, by_26, by_39, fi_39_0, nf_26, nf_39, pl_26, pl_39, ps_26, ps_39, sz_26, sz_39, ze_26, ze_39, Sp72, SIsAct, SFace, SFlux, SHasF, t1, t2, t5, t6, t14, l2]))
        unfold SMov
        have hal := act_len l (i : Int) (l.length - 1)
        refine ⟨η.length, r, q0, q1, q2, q3, 0, 0, 0, 0, l, _, _, bs, actL l (i : Int), hlo, hP3, e2, ⟨rfl, hbl, by unfold actL; omega⟩, act_faces k3, fun H4 hP4 t4 => ?_⟩
        have x4 := (g2.trans x3).after t4 (fun c hc => hP3.low hc)
        repeat' (first | with_reducible refine iteI (fun _ => ?_) (fun _ => ?_) | ((first | unfold AOpsC | unfold AOpsD | skip); simp (maxSteps := 1000000) (disch := (first | omega | assumption | (simp only [List.length_append, List.length_cons, List.length_nil, List.length_set]; omega))) only [go_sem, ↓skipC, ↓exitC, ↓retC, ↓seqC, ↓blockC, ↓condC, ↓regC, ↓drawC, ↓drawStep, ↓AOpC, ↓AOpF, ↓AOpE, ↓AEff, ↓contE_at, ↓contC_at, ↓keepC_at, ↓keepW_at, ↓keepO_at, ↓map_parts, ↓reduceIte, reduceCtorEq, Nat.reduceLT, Nat.reduceEqDiff, Nat.reduceAdd, Nat.reduceMul, Nat.reduceLeDiff, Nat.reduceSub, Nat.reduceBEq, Nat.reduceBNe, Nat.reduceBneDiff, Nat.reduceBeqDiff, ag_26, ag_39, by_26, by_39, fi_39_0, nf_26, nf_39, pl_26, pl_39, ps_26, ps_39, sz_26, sz_39, ze_26, ze_39, Sp72, SIsAct, SFace, SFlux, SHasF, t1, t2, t5, t6, t14, l2]))
        refine ⟨⟨i + 1, H4, hlt, hP4, x4, rfl, by simp [upd, t1], by simp [upd, t2], by simp [upd, t5], by simp [upd, t6, hfs], by simp [upd], by simp [upd, l2], rfl⟩, by simp [ctr, upd, t14]; omega⟩
    · obtain rfl : i = 16 := by omega
      repeat' (first | with_reducible refine iteI (fun _ => ?_) (fun _ => ?_) | ((first | unfold AOpsC | unfold AOpsD | skip); simp (maxSteps := 1000000) (disch := (first | omega | assumption | (simp only [List.length_append, List.length_cons, List.length_nil, List.length_set]; omega))) only [go_sem, ↓skipC, ↓exitC, ↓retC, ↓seqC, ↓blockC, ↓condC, ↓regC, ↓drawC, ↓drawStep, ↓AOpC, ↓AOpF, ↓AOpE, ↓AEff, ↓contE_at, ↓contC_at, ↓keepC_at, ↓keepW_at, ↓keepO_at, ↓map_parts, ↓reduceIte, reduceCtorEq, Nat.reduceLT, Nat.reduceEqDiff, Nat.reduceAdd, Nat.reduceMul, Nat.reduceLeDiff, Nat.reduceSub, Nat.reduceBEq, Nat.reduceBNe, Nat.reduceBneDiff, Nat.reduceBeqDiff, ag_26, ag_39, by_26, by_39, fi_39_0, nf_26, nf_39, pl_26, pl_39, ps_26, ps_39, sz_26, sz_39, ze_26, ze_39, Sp72, SIsAct, SFace, SFlux, SHasF, w0k, w1k, w2k, w3k, D1k, D2k, D3k, D4k, O1k, O2k, O3k, O4k, t1, t2, t5, t6, t14, l2]))
      exact hK _ g2
  · exact h.elim

def invFsS (η : List Blk) (r : Int) (l : List Id3) (ms ts bs : List Int) (j : Nat) (st : St) : Prop := ∃ i : Nat, ∃ c0 : Nat, ∃ c1 : Nat, ∃ c2 : Nat, ∃ c3 : Nat, ∃ u0 : Nat, ∃ u1 : Nat, ∃ u2 : Nat, ∃ u3 : Nat, ∃ H : List Blk, (i ≤ 16) ∧ (Ext η H) ∧ (H[c0]? = some ⟨u0, 45, 3, (l.map enc3).flatten⟩) ∧ (H[c1]? = some ⟨u1, 3, 1, (mac l ms ts bs i).1.map (.int .i64)⟩) ∧ (H[c2]? = some ⟨u2, 3, 1, (mac l ms ts bs i).2.map (.int .i64)⟩) ∧ (H[c3]? = some ⟨u3, 3, 1, bs.map (.int .i64)⟩) ∧ st.n = 38 ∧ st.τ 1 = .int .i64 j ∧ st.τ 2 = .loc 2 1 0 ∧ st.τ 5 = .int .i64 (fsN l ms ts bs j i) ∧ st.τ 6 = .int .i64 i ∧ st.lam 2 = ⟨1, [.int .i64 r, .sl c0 u0 0 l.length, .sl c1 u1 0 ms.length, .sl c2 u2 0 ts.length, .sl c3 u3 0 bs.length]⟩ ∧ st.η = H

/- spec.FluxSum -/
def Sp70 (lo : Nat) : Spec := fun g args η K => match g with | 44 => SOk args η K | 95 => SIn args η K | 96 => SFace args η K | 127 => SStepQ args η K | 133 => SIsAct args η K | 134 => SFlux args η K | _ => False
theorem Sp70_ok {lo : Nat} : Sound Try.prog lo (Sp70 lo) := by
  intro g args η K h
  unfold Sp70 at h
  split at h
  · exact f44_ok h
  · exact f95_ok h
  · exact f96_ok h
  · exact f127_ok h
  · exact f133_ok h
  · exact f134_ok h
  · exact h.elim
theorem f70_ok {lo : Nat} {args : List AV} {η : List Blk} {K : AV → List Blk → Prop} (h : SFlS args η K) : AF Try.prog lo 70 args η K := by
  unfold SFlS at h
  split at h
  · obtain ⟨⟨⟨l, hr, hl⟩, ⟨ms, ha, hla⟩, ⟨ts, hb, hlb⟩, ⟨bs, hc, hlc⟩⟩, hK⟩ := h
    rename_i r _ _ _ _ y
    have d1 := hr.dec3
    have d2 := ha.dec
    have d3 := hb.dec
    have d4 := hc.dec
    have o1 : ok3 45 _ _ := ⟨l, hr, hl⟩
    have o2 : okI _ _ := ⟨ms, ha, hla⟩
    have o3 : okI _ _ := ⟨ts, hb, hlb⟩
    have o4 : okI _ _ := ⟨bs, hc, hlc⟩
    simp only [d1, d2, d3, d4] at hK
    have hr' := hr
    have ha' := ha
    have hb' := hb
    have hc' := hc
    obtain ⟨b0, v0, rfl, hb0⟩ := hr'
    obtain ⟨b1, v1, rfl, hb1⟩ := ha'
    obtain ⟨b2, v2, rfl, hb2⟩ := hb'
    obtain ⟨b3, v3, rfl, hb3⟩ := hc'
    refine AF_run Sp70_ok D0 [] [.tmp 4] hm Try.func70 rfl (by decide) Try.ntmps70 rfl (by kernel_rfl) (Nat.le_of_ble_eq_true rfl) ?_; intro hlo
    cases e1 : okB r l ms ts bs
    · repeat' (first | with_reducible refine iteI (fun _ => ?_) (fun _ => ?_) | ((first | unfold AOpsC | unfold AOpsD | skip); simp (maxSteps := 1000000) (disch := (first | omega | assumption | (simp only [List.length_append, List.length_cons, List.length_nil, List.length_set]; omega))) only [go_sem, ↓skipC, ↓exitC, ↓retC, ↓seqC, ↓blockC, ↓condC, ↓regC, ↓drawC, ↓drawStep, ↓AOpC, ↓AOpF, ↓AOpE, ↓AEff, ↓contE_at, ↓contC_at, ↓keepC_at, ↓keepW_at, ↓keepO_at, ↓map_parts, ↓reduceIte, reduceCtorEq, Nat.reduceLT, Nat.reduceEqDiff, Nat.reduceAdd, Nat.reduceMul, Nat.reduceLeDiff, Nat.reduceSub, Nat.reduceBEq, Nat.reduceBNe, Nat.reduceBneDiff, Nat.reduceBeqDiff, ag_26, ag_28, ag_3, ag_39, by_26, by_28, by_3, by_39, el_28, fi_39_0, fi_39_1, in_3, nf_26, nf_39, pl_26, pl_39, ps_26, ps_39, sz_26, sz_28, sz_3, sz_39, ze_26, ze_28, ze_3, ze_39, Sp70, SOk, SIn, SFace, SIsAct, SFlux, hb0, hb1, hb2, hb3, d1, d2, d3, d4, o1, o2, o3, o4, e1]))
      exact KI (hK _ (Ext.refl _)) (by simp [fsR, faceB, e1])
    obtain ⟨k1, k2, k3, k4, k5, k6, k7, k8⟩ := okT e1
    cases ey : inB y 0 ((l.length : Int) - 2)
    · have eym : inB y 0 ((ms.length : Int) - 2) = false := by rw [k3]; exact ey
      repeat' (first | with_reducible refine iteI (fun _ => ?_) (fun _ => ?_) | ((first | unfold AOpsC | unfold AOpsD | skip); simp (maxSteps := 1000000) (disch := (first | omega | assumption | (simp only [List.length_append, List.length_cons, List.length_nil, List.length_set]; omega))) only [go_sem, ↓skipC, ↓exitC, ↓retC, ↓seqC, ↓blockC, ↓condC, ↓regC, ↓drawC, ↓drawStep, ↓AOpC, ↓AOpF, ↓AOpE, ↓AEff, ↓contE_at, ↓contC_at, ↓keepC_at, ↓keepW_at, ↓keepO_at, ↓map_parts, ↓reduceIte, reduceCtorEq, Nat.reduceLT, Nat.reduceEqDiff, Nat.reduceAdd, Nat.reduceMul, Nat.reduceLeDiff, Nat.reduceSub, Nat.reduceBEq, Nat.reduceBNe, Nat.reduceBneDiff, Nat.reduceBeqDiff, ag_26, ag_28, ag_3, ag_39, by_26, by_28, by_3, by_39, el_28, fi_39_0, fi_39_1, in_3, nf_26, nf_39, pl_26, pl_39, ps_26, ps_39, sz_26, sz_28, sz_3, sz_39, ze_26, ze_28, ze_3, ze_39, Sp70, SOk, SIn, SFace, SIsAct, SFlux, hb0, hb1, hb2, hb3, d1, d2, d3, d4, o1, o2, o3, o4, e1, ey, eym]))
      exact KI (hK _ (Ext.refl _)) (by simp [fsR, faceB, ey])
    have eym : inB y 0 ((ms.length : Int) - 2) = true := by rw [k3]; exact ey
    have z0 : fsR r l ms ts bs y = fsN l ms ts bs y.toNat 16 := if_pos (by simp [faceB, e1, ey])
    rw [z0] at hK
    have ey' := inT ey
    obtain ⟨j, rfl⟩ : ∃ j : Nat, y = j := ⟨y.toNat, by omega⟩
    rw [Int.toNat_natCast] at hK
    have hj : j + 1 < l.length := by omega
    have hlv := mesh_levs k1
    repeat' (first | with_reducible refine iteI (fun _ => ?_) (fun _ => ?_) | ((first | unfold AOpsC | unfold AOpsD | skip); simp (maxSteps := 1000000) (disch := (first | omega | assumption | (simp only [List.length_append, List.length_cons, List.length_nil, List.length_set]; omega))) only [go_sem, ↓skipC, ↓exitC, ↓retC, ↓seqC, ↓blockC, ↓condC, ↓regC, ↓drawC, ↓drawStep, ↓AOpC, ↓AOpF, ↓AOpE, ↓AEff, ↓contE_at, ↓contC_at, ↓keepC_at, ↓keepW_at, ↓keepO_at, ↓map_parts, ↓reduceIte, reduceCtorEq, Nat.reduceLT, Nat.reduceEqDiff, Nat.reduceAdd, Nat.reduceMul, Nat.reduceLeDiff, Nat.reduceSub, Nat.reduceBEq, Nat.reduceBNe, Nat.reduceBneDiff, Nat.reduceBeqDiff, ag_26, ag_28, ag_3, ag_39, by_26, by_28, by_3, by_39, el_28, fi_39_0, fi_39_1, in_3, nf_26, nf_39, pl_26, pl_39, ps_26, ps_39, sz_26, sz_28, sz_3, sz_39, ze_26, ze_28, ze_3, ze_39, Sp70, SOk, SIn, SFace, SIsAct, SFlux, hb0, hb1, hb2, hb3, d1, d2, d3, d4, o1, o2, o3, o4, e1, ey, eym]))
    refine ⟨invFsS η r l ms ts bs j, fun st => ctr 16 st 6, .inl ⟨0, b0, b1, b2, b3, v0, v1, v2, v3, η, Nat.zero_le _, Ext.refl _, hb0, hb1, hb2, hb3, rfl, by simp [upd], by simp [upd], by simp [upd, fsN], by simp [upd], by simp [upd], rfl⟩, ?_⟩
    rintro ⟨n, τ, lam, η'⟩ ⟨i, c0, c1, c2, c3, u0, u1, u2, u3, H, g0, g1, g2, g3, g4, g5, hn, t1, t2, t5, t6, l2, hη⟩; simp only at hn t1 t2 t5 t6 l2 hη; subst hn hη
    obtain ⟨n1, n2⟩ := mac_len e1 i
    have i0m : IsR 45 3 enc3 η' (.sl c0 u0 0 l.length) l := ⟨_, _, rfl, g2⟩
    have i1m : IsI η' (.sl c1 u1 0 ms.length) (mac l ms ts bs i).1 := ⟨c1, u1, by rw [n1], g3⟩
    have i2m : IsI η' (.sl c2 u2 0 ts.length) (mac l ms ts bs i).2 := ⟨c2, u2, by rw [n2], g4⟩
    have i3m : IsI η' (.sl c3 u3 0 bs.length) bs := ⟨c3, u3, rfl, g5⟩
    have D1m := i0m.dec3
    have D2m := i1m.dec
    have D3m := i2m.dec
    have D4m := i3m.dec
    have O1m : ok3 45 _ _ := ⟨l, i0m, by omega⟩
    have O2m : okI _ _ := ⟨_, i1m, by omega⟩
    have O3m : okI _ _ := ⟨_, i2m, by omega⟩
    have O4m : okI _ _ := ⟨bs, i3m, by omega⟩
    have fb := fsN_bd e1 hj i
    by_cases hlt : i < 16
    · have e2 := mac_ok e1 i
      have fs := fs_bd e1 hj i
      have hfs : fsN l ms ts bs j (i + 1) = fsN l ms ts bs j i + (if actB (i : Int) (faceI l j) = true then fluxI l (mac l ms ts bs i).1 bs j else 0) := rfl
      cases hac : actB (i : Int) (faceI l j)
      · rw [hac] at hfs
        simp only [Bool.false_eq_true, if_false, Int.add_zero] at hfs
        repeat' (first | with_reducible refine iteI (fun _ => ?_) (fun _ => ?_) | ((first | unfold AOpsC | unfold AOpsD | skip); simp (maxSteps := 1000000) (disch := (first | omega | assumption | (simp only [List.length_append, List.length_cons, List.length_nil, List.length_set]; omega))) only [go_sem, ↓skipC, ↓exitC, ↓retC, ↓seqC, ↓blockC, ↓condC, ↓regC, ↓drawC, ↓drawStep, ↓AOpC, ↓AOpF, ↓AOpE, ↓AEff, ↓contE_at, ↓contC_at, ↓keepC_at, ↓keepW_at, ↓keepO_at, ↓map_parts, ↓reduceIte, reduceCtorEq, Nat.reduceLT, Nat.reduceEqDiff, Nat.reduceAdd, Nat.reduceMul, Nat.reduceLeDiff, Nat.reduceSub, Nat.reduceBEq, Nat.reduceBNe, Nat.reduceBneDiff, Nat.reduceBeqDiff, ag_26, ag_28, ag_3, ag_39, by_26, by_28, by_3, by_39, el_28, fi_39_0, fi_39_1, in_3, nf_26, nf_39, pl_26, pl_39, ps_26, ps_39, sz_26, sz_28, sz_3, sz_39, ze_26, ze_28, ze_3, ze_39, Sp70, SOk, SIn, SFace, SIsAct, SFlux, D1m, D2m, D3m, D4m, O1m, O2m, O3m, O4m, hlv, hac, t1, t2, t5, t6, l2]))
        unfold SStepQ
        refine ⟨l, _, _, bs, ⟨i0m, i1m, i2m, i3m⟩, e2, by omega, fun H2 d0 d1 d2 d3 hN2 x2 => ?_⟩
        rw [n1, n2]
        repeat' (first | with_reducible refine iteI (fun _ => ?_) (fun _ => ?_) | ((first | unfold AOpsC | unfold AOpsD | skip); simp (maxSteps := 1000000) (disch := (first | omega | assumption | (simp only [List.length_append, List.length_cons, List.length_nil, List.length_set]; omega))) only [go_sem, ↓skipC, ↓exitC, ↓retC, ↓seqC, ↓blockC, ↓condC, ↓regC, ↓drawC, ↓drawStep, ↓AOpC, ↓AOpF, ↓AOpE, ↓AEff, ↓contE_at, ↓contC_at, ↓keepC_at, ↓keepW_at, ↓keepO_at, ↓map_parts, ↓reduceIte, reduceCtorEq, Nat.reduceLT, Nat.reduceEqDiff, Nat.reduceAdd, Nat.reduceMul, Nat.reduceLeDiff, Nat.reduceSub, Nat.reduceBEq, Nat.reduceBNe, Nat.reduceBneDiff, Nat.reduceBeqDiff, ag_26, ag_28, ag_3, ag_39, by_26, by_28, by_3, by_39, el_28, fi_39_0, fi_39_1, in_3, nf_26, nf_39, pl_26, pl_39, ps_26, ps_39, sz_26, sz_28, sz_3, sz_39, ze_26, ze_28, ze_3, ze_39, Sp70, SOk, SIn, SFace, SIsAct, SFlux, t1, t2, t5, t6, l2]))
        refine ⟨⟨i + 1, d0, d1, d2, d3, 0, 0, 0, 0, H2, hlt, g1.trans x2, hN2.g0, hN2.g1, hN2.g2, hN2.g3, rfl, by simp [upd, t1], by simp [upd, t2], by simp [upd, t5, hfs], by simp [upd], by simp [upd], rfl⟩, by simp [ctr, upd, t6]; omega⟩
      · rw [hac] at hfs
        simp only [if_true] at hfs
        repeat' (first | with_reducible refine iteI (fun _ => ?_) (fun _ => ?_) | ((first | unfold AOpsC | unfold AOpsD | skip); simp (maxSteps := 1000000) (disch := (first | omega | assumption | (simp only [List.length_append, List.length_cons, List.length_nil, List.length_set]; omega))) only [go_sem, ↓skipC, ↓exitC, ↓retC, ↓seqC, ↓blockC, ↓condC, ↓regC, ↓drawC, ↓drawStep, ↓AOpC, ↓AOpF, ↓AOpE, ↓AEff, ↓contE_at, ↓contC_at, ↓keepC_at, ↓keepW_at, ↓keepO_at, ↓map_parts, ↓reduceIte, reduceCtorEq, Nat.reduceLT, Nat.reduceEqDiff, Nat.reduceAdd, Nat.reduceMul, Nat.reduceLeDiff, Nat.reduceSub, Nat.reduceBEq, Nat.reduceBNe, Nat.reduceBneDiff, Nat.reduceBeqDiff, ag_26, ag_28, ag_3, ag_39, by_26, by_28, by_3, by_39, el_28, fi_39_0, fi_39_1, in_3, nf_26, nf_39, pl_26, pl_39, ps_26, ps_39, sz_26, sz_28, sz_3, sz_39, ze_26, ze_28, ze_3, ze_39, Sp70, SOk, SIn, SFace, SIsAct, SFlux, D1m, D2m, D3m, D4m, O1m, O2m, O3m, O4m, hlv, hac, e2, t1, t2, t5, t6, l2]))
        unfold SStepQ
        refine ⟨l, _, _, bs, ⟨i0m, i1m, i2m, i3m⟩, e2, by omega, fun H2 d0 d1 d2 d3 hN2 x2 => ?_⟩
        rw [n1, n2]
        repeat' (first | with_reducible refine iteI (fun _ => ?_) (fun _ => ?_) | ((first | unfold AOpsC | unfold AOpsD | skip); simp (maxSteps := 1000000) (disch := (first | omega | assumption | (simp only [List.length_append, List.length_cons, List.length_nil, List.length_set]; omega))) only [go_sem, ↓skipC, ↓exitC, ↓retC, ↓seqC, ↓blockC, ↓condC, ↓regC, ↓drawC, ↓drawStep, ↓AOpC, ↓AOpF, ↓AOpE, ↓AEff, ↓contE_at, ↓contC_at, ↓keepC_at, ↓keepW_at, ↓keepO_at, ↓map_parts, ↓reduceIte, reduceCtorEq, Nat.reduceLT, Nat.reduceEqDiff, Nat.reduceAdd, Nat.reduceMul, Nat.reduceLeDiff, Nat.reduceSub, Nat.reduceBEq, Nat.reduceBNe, Nat.reduceBneDiff, Nat.reduceBeqDiff, ag_26, ag_28, ag_3, ag_39, by_26, by_28, by_3, by_39, el_28, fi_39_0, fi_39_1, in_3, nf_26, nf_39, pl_26, pl_39, ps_26, ps_39, sz_26, sz_28, sz_3, sz_39, ze_26, ze_28, ze_3, ze_39, Sp70, SOk, SIn, SFace, SIsAct, SFlux, t1, t2, t5, t6, l2]))
        refine ⟨⟨i + 1, d0, d1, d2, d3, 0, 0, 0, 0, H2, hlt, g1.trans x2, hN2.g0, hN2.g1, hN2.g2, hN2.g3, rfl, by simp [upd, t1], by simp [upd, t2], by simp [upd, t5, hfs], by simp [upd], by simp [upd], rfl⟩, by simp [ctr, upd, t6]; omega⟩
    · obtain rfl : i = 16 := by omega
      repeat' (first | with_reducible refine iteI (fun _ => ?_) (fun _ => ?_) | ((first | unfold AOpsC | unfold AOpsD | skip); simp (maxSteps := 1000000) (disch := (first | omega | assumption | (simp only [List.length_append, List.length_cons, List.length_nil, List.length_set]; omega))) only [go_sem, ↓skipC, ↓exitC, ↓retC, ↓seqC, ↓blockC, ↓condC, ↓regC, ↓drawC, ↓drawStep, ↓AOpC, ↓AOpF, ↓AOpE, ↓AEff, ↓contE_at, ↓contC_at, ↓keepC_at, ↓keepW_at, ↓keepO_at, ↓map_parts, ↓reduceIte, reduceCtorEq, Nat.reduceLT, Nat.reduceEqDiff, Nat.reduceAdd, Nat.reduceMul, Nat.reduceLeDiff, Nat.reduceSub, Nat.reduceBEq, Nat.reduceBNe, Nat.reduceBneDiff, Nat.reduceBeqDiff, ag_26, ag_28, ag_3, ag_39, by_26, by_28, by_3, by_39, el_28, fi_39_0, fi_39_1, in_3, nf_26, nf_39, pl_26, pl_39, ps_26, ps_39, sz_26, sz_28, sz_3, sz_39, ze_26, ze_28, ze_3, ze_39, Sp70, SOk, SIn, SFace, SIsAct, SFlux, t1, t2, t5, t6, l2]))
      exact hK _ g1
  · exact h.elim

end Go.Proofs.Ytffefndnnbcplaa
