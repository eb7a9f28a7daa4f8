/- What functions of the program compute, said in the abstract logic; no conditions. -/
import Derived.Test.YtffefndnnbcplaaGRes
import Derived.Test.YtffefndnnbcplaaGFlux

namespace Go.Proofs.Ytffefndnnbcplaa
open Go
set_option linter.unusedSimpArgs false
set_option linter.unusedVariables false
set_option maxRecDepth 100000
set_option maxHeartbeats 8000000
attribute [local go_sem] st0 AC thenA andC locLoadB KsSW_same KsSW_grow oldLoadB KsOS_same KsOS_grow pv ev put upd dstOk cv cvc binI setB Value.oneCell' EndA resA resA1 List.mapM_cons List.mapM_nil Option.pure_def Option.bind_eq_bind noLocV noLoc1 noLoc noLocs plainV cellsA newVarA putCells condA lam0 inBlockA cur lenA rowA avoidsB avoidB clearB Array.toList_append Op.operands Call.operands newSlot Nat.zero_add Nat.add_zero Nat.succ_ne_self Nat.lt_add_one Nat.zero_lt_succ true_and and_true true_or or_true false_or or_false and_self true_implies forall_const Bool.false_eq_true Bool.true_eq_false false_implies implies_true imp_self ne_eq not_false_eq_true not_true_eq_false false_and and_false List.getElem?_toArray List.getElem?_cons_succ List.getElem?_cons_zero Option.bind_some Option.map_some Bool.not_true Bool.not_false List.getD_cons_zero List.getD_cons_succ Option.some.injEq exists_eq_left' AV.bool.injEq List.map_cons List.map_nil List.all_cons List.all_nil Bool.and_self Bool.and_true Bool.true_and List.append_nil List.cons_append List.nil_append List.length_cons List.length_nil List.drop_zero List.take_zero List.drop_succ_cons List.take_succ_cons List.take_nil List.drop_nil List.not_mem_nil List.mem_cons List.contains_nil List.contains_cons Bool.or_self Bool.or_true Bool.true_or Bool.false_or Bool.or_false Bool.and_false Bool.false_and KsS_same KsS_grow skipV KsS_ext KsSW_ext KsOS_ext rep1 rep2 rep3 rep4 rep5 List.flatten_cons List.flatten_nil partsA isPtr fillA List.size_toArray ltT ltF leT leF ltTn ltFn leTn leFn eqTi eqFi wrapId toNat1 intGet boolGet memD app_get app_last app_lst app_set app_setL app_setF set_ne set_eq gt_iff_lt ge_iff_le decide_eq_true_eq len2 len3 get20 get21 drop2 put2 get30 get31 get32 drop3 put3 putI pairEta bneTi bneFi beqTi beqFi bne_eq_false_iff_eq beq_eq_false_iff_ne beq_iff_eq bne_iff_ne Int.toNat_natCast Nat.mul_one List.length_map Bool.not_eq_true Bool.not_eq_false Bool.decide_eq_true decide_true decide_false Bool.not_eq_true' Bool.not_eq_false' decide_eq_false_iff_not eq_self Decidable.not_not

theorem clamp_eq {n lo hi : Int} (h : lo ≤ hi) : (if (if hi < n then hi else n) < lo then lo else (if hi < n then hi else n)) = clampI n lo hi := by
  unfold clampI
  have h0 : ¬ hi < lo := by omega
  by_cases h1 : hi < n
  · have h2 : ¬ n < lo := by omega
    simp only [h0, h1, h2, if_true, if_false]
  · by_cases h2 : n < lo
    · simp only [h0, h1, h2, if_true, if_false]
    · simp only [h0, h1, h2, if_false]
def SFluxQ : List AV → List Blk → (AV → List Blk → Prop) → Prop
  | [.int .i64 sa, .int .i64 sb, .int .i64 ma, .int .i64 mb, .int .i64 la, .int .i64 lb], η, K => ((0 ≤ ma ∧ ma ≤ 10000000) ∧ (0 ≤ mb ∧ mb ≤ 10000000) ∧ (0 ≤ sa ∧ sa ≤ 1000000000) ∧ (0 ≤ sb ∧ sb ≤ 1000000000)) ∧ K (.int .i64 (fluxP la ma sa lb mb sb)) η
  | _, _, _ => False
def flxN (l : List Id3) (ms bs : List Int) (i : Nat) : List Int := (List.range i).map (fluxI l ms bs)
def flxR (r : Int) (l : List Id3) (ms ts bs : List Int) : List Int := if okB r l ms ts bs = true then flxN l ms bs (l.length - 1) else []
theorem flxN_succ (l : List Id3) (ms bs : List Int) (i : Nat) : flxN l ms bs (i + 1) = flxN l ms bs i ++ [fluxI l ms bs i] := by simp [flxN, List.range_succ]
theorem flxN_len (l : List Id3) (ms bs : List Int) (i : Nat) : (flxN l ms bs i).length = i := by simp [flxN]
theorem flxR_len {r : Int} {l : List Id3} {ms ts bs : List Int} (h : l.length ≤ 1048576) : (flxR r l ms ts bs).length ≤ 1048576 := by
  unfold flxR
  split
  · rw [flxN_len]; omega
  · simp
def restR (r : Int) (l : List Id3) (ms ts bs : List Int) : Bool := okB r l ms ts bs && (flxR r l ms ts bs).all (fun x => decide (x = 0))
theorem clampI_bd {n lo hi : Int} (h : lo ≤ hi) : lo ≤ clampI n lo hi ∧ clampI n lo hi ≤ hi := by
  unfold clampI
  rw [if_neg (by omega)]
  repeat' split
  all_goals omega
theorem flux_bd {r : Int} {l : List Id3} {ms ts bs : List Int} (h : okB r l ms ts bs = true) {i : Nat} (hi : i + 1 < l.length) : -((ms.getD (i + 1) 0).tdiv 4) ≤ fluxI l ms bs i ∧ fluxI l ms bs i ≤ (ms.getD i 0).tdiv 4 := by
  obtain ⟨k1, k2, k3, k4, k5, k6, k7, k8⟩ := okT h
  have m1 := cells_at k7 (i := i) (by omega)
  have m2 := cells_at k7 (i := i + 1) (by omega)
  have q1 : 0 ≤ (ms.getD i 0).tdiv 4 := Int.tdiv_nonneg m1.1 (by omega)
  have q2 : 0 ≤ (ms.getD (i + 1) 0).tdiv 4 := Int.tdiv_nonneg m2.1 (by omega)
  exact clampI_bd (by omega)

/- spec.l09Pair -/
def Sp178 (lo : Nat) : Spec := fun g args η K => match g with | 177 => SWd args η K | 192 => SDivT args η K | _ => False
theorem Sp178_ok {lo : Nat} : Sound Try.prog lo (Sp178 lo) := by
  intro g args η K h
  unfold Sp178 at h
  split at h
  · exact f177_ok h
  · exact f192_ok h
  · exact h.elim
theorem f178_ok {lo : Nat} {args : List AV} {η : List Blk} {K : AV → List Blk → Prop} (h : SFluxQ args η K) : AF Try.prog lo 178 args η K := by
  unfold SFluxQ at h
  split at h
  · obtain ⟨⟨⟨h1, h2⟩, ⟨h3, h4⟩, ⟨h5, h6⟩, h7, h8⟩, hK⟩ := h
    rename_i sa sb ma mb la lb
    have w1 := wd_bd la
    have w2 := wd_bd lb
    have w3 := wd_bd (maxI la lb)
    have p := mul16 (X := 1000000000) (d := sa - sb) (by omega) w3 (by omega)
    have q1 := tdiv_bd (a := ma) (b := 4) (X := 10000000) (by omega) (by omega)
    have q2 := tdiv_bd (a := mb) (b := 4) (X := 10000000) (by omega) (by omega)
    have q3 : 0 ≤ ma.tdiv 4 := Int.tdiv_nonneg h1 (by omega)
    have q4 : 0 ≤ mb.tdiv 4 := Int.tdiv_nonneg h3 (by omega)
    unfold fluxP at hK
    rw [← clamp_eq (by omega)] at hK
    unfold maxI at p w3 hK
    refine AF_run Sp178_ok D0 [] [.tmp 12] hm Try.func178 rfl (by decide) Try.ntmps178 rfl (by kernel_rfl) (Nat.le_of_ble_eq_true rfl) ?_; intro hlo
    by_cases hm' : la < lb
    · rw [if_pos hm'] at p w3 hK
      repeat' (first | with_reducible refine iteI (fun _ => ?_) (fun _ => ?_) | ((first | unfold AOpsC | unfold AOpsD | skip); simp (maxSteps := 1000000) (disch := (first | omega | assumption | (simp only [List.length_append, List.length_cons, List.length_nil, List.length_set]; omega))) only [go_sem, ↓skipC, ↓exitC, ↓retC, ↓seqC, ↓blockC, ↓condC, ↓regC, ↓drawC, ↓drawStep, ↓AOpC, ↓AOpF, ↓AOpE, ↓AEff, ↓contE_at, ↓contC_at, ↓keepC_at, ↓keepW_at, ↓keepO_at, ↓map_parts, ↓reduceIte, reduceCtorEq, Nat.reduceLT, Nat.reduceEqDiff, Nat.reduceAdd, Nat.reduceMul, Nat.reduceLeDiff, Nat.reduceSub, Nat.reduceBEq, Nat.reduceBNe, Nat.reduceBneDiff, Nat.reduceBeqDiff, by_3, ze_3, Sp178, SWd, SDivT, maxStep, minStep, List.foldl_cons, List.foldl_nil, Int.zero_sub]))
      exact hK
    · rw [if_neg hm'] at p w3 hK
      repeat' (first | with_reducible refine iteI (fun _ => ?_) (fun _ => ?_) | ((first | unfold AOpsC | unfold AOpsD | skip); simp (maxSteps := 1000000) (disch := (first | omega | assumption | (simp only [List.length_append, List.length_cons, List.length_nil, List.length_set]; omega))) only [go_sem, ↓skipC, ↓exitC, ↓retC, ↓seqC, ↓blockC, ↓condC, ↓regC, ↓drawC, ↓drawStep, ↓AOpC, ↓AOpF, ↓AOpE, ↓AEff, ↓contE_at, ↓contC_at, ↓keepC_at, ↓keepW_at, ↓keepO_at, ↓map_parts, ↓reduceIte, reduceCtorEq, Nat.reduceLT, Nat.reduceEqDiff, Nat.reduceAdd, Nat.reduceMul, Nat.reduceLeDiff, Nat.reduceSub, Nat.reduceBEq, Nat.reduceBNe, Nat.reduceBneDiff, Nat.reduceBeqDiff, by_3, ze_3, Sp178, SWd, SDivT, maxStep, minStep, List.foldl_cons, List.foldl_nil, Int.zero_sub]))
      exact hK
  · exact h.elim

/- spec.l09Flux -/
def Sp134 (lo : Nat) : Spec := fun g args η K => match g with | 120 => SSurf args η K | 178 => SFluxQ args η K | _ => False
theorem Sp134_ok {lo : Nat} : Sound Try.prog lo (Sp134 lo) := by
  intro g args η K h
  unfold Sp134 at h
  split at h
  · exact f120_ok h
  · exact f178_ok h
  · exact h.elim
def D134 : Draws := fun id => match id with | 1 => ([0, 0, 3, 0, 0, 16, 63, 0, 128, 0, 896, 1920, 0, 4096, 0, 16384, 61440, 126976, 0, 262144, 786432, 0, 3932160, 8126464, 16515072, 0, 33554432, 100663296, 0, 268435456, 1040187392, 2113929216, 4261412864, 8589934591, 17179869183], [2, 6], [], (.one 0 (.one 1 (.one 3 (.one 4 (.one 5 (.one 7 (.one 8 (.one 9 (.one 10 (.one 11 (.one 12 (.one 13 (.one 14 (.one 15 (.one 16 (.one 17 (.one 18 (.one 19 (.one 20 (.one 21 (.one 22 (.one 23 (.one 24 (.one 25 (.one 26 (.one 27 (.one 28 (.one 29 (.one 30 (.one 31 (.one 32 (.one 2 (.one 6 (.one 33 (.one 34 .nil)))))))))))))))))))))))))))))))))))) | _ => ([], [], [], .nil)
theorem f134_ok {lo : Nat} {args : List AV} {η : List Blk} {K : AV → List Blk → Prop} (h : SFlux args η K) : AF Try.prog lo 134 args η K := by
  unfold SFlux at h
  split at h
  · obtain ⟨⟨⟨⟨l, hr, hl⟩, ⟨ms, ha, hla⟩, ⟨ts, hb, hlb⟩, ⟨bs, hc, hlc⟩⟩, e1, i0, i1⟩, hK⟩ := h
    rename_i r _ _ _ _ i
    rw [hr.dec3] at i1 e1
    rw [ha.dec, hb.dec, hc.dec] at e1
    have d1 := hr.dec3
    have d2 := ha.dec
    have d3 := hb.dec
    have d4 := hc.dec
    have o1 : ok3 45 _ _ := ⟨l, hr, hl⟩
    have o2 : okI _ _ := ⟨ms, ha, hla⟩
    have o3 : okI _ _ := ⟨ts, hb, hlb⟩
    have o4 : okI _ _ := ⟨bs, hc, hlc⟩
    simp only [d1, d2, d3, d4] at hK
    have hr' := hr
    have ha' := ha
    have hb' := hb
    have hc' := hc
    obtain ⟨b0, v0, rfl, hb0⟩ := hr'
    obtain ⟨b1, v1, rfl, hb1⟩ := ha'
    obtain ⟨b2, v2, rfl, hb2⟩ := hb'
    obtain ⟨b3, v3, rfl, hb3⟩ := hc'
    obtain ⟨j, rfl⟩ : ∃ j : Nat, i = j := ⟨i.toNat, by omega⟩
    rw [Int.toNat_natCast] at hK
    obtain ⟨k1, k2, k3, k4, k5, k6, k7, k8⟩ := okT e1
    have j1 : j < l.length := by omega
    have m1 := cells_at k7 (i := j) (by omega)
    have j2 : j + 1 < l.length := by omega
    have m2 := cells_at k7 (i := j + 1) (by omega)
    have s1 := surf_bd e1 j1
    have s2 := surf_bd e1 j2
    refine AF_run Sp134_ok D134 [] [.tmp 4] hm Try.func134 rfl (by decide) Try.ntmps134 rfl (by kernel_rfl) (Nat.le_of_ble_eq_true rfl) ?_; intro hlo
    repeat' (first | with_reducible refine iteI (fun _ => ?_) (fun _ => ?_) | ((first | unfold AOpsC | unfold AOpsD | skip); simp (maxSteps := 1000000) (disch := (first | omega | assumption | (simp only [List.length_append, List.length_cons, List.length_nil, List.length_set]; omega))) only [go_sem, ↓skipC, ↓exitC, ↓retC, ↓seqC, ↓blockC, ↓condC, ↓regC, ↓drawC, ↓drawStep, ↓AOpC, ↓AOpF, ↓AOpE, ↓AEff, ↓contE_at, ↓contC_at, ↓keepC_at, ↓keepW_at, ↓keepO_at, ↓map_parts, ↓reduceIte, reduceCtorEq, Nat.reduceLT, Nat.reduceEqDiff, Nat.reduceAdd, Nat.reduceMul, Nat.reduceLeDiff, Nat.reduceSub, Nat.reduceBEq, Nat.reduceBNe, Nat.reduceBneDiff, Nat.reduceBeqDiff, ag_24, ag_28, ag_3, ag_39, ag_45, by_24, by_28, by_3, by_39, by_45, el_24, el_28, fi_26_1, fi_39_0, fi_39_1, fi_45_1, in_3, nf_39, nf_45, pl_39, pl_45, ps_39, ps_45, sz_24, sz_28, sz_3, sz_39, sz_45, ze_24, ze_28, ze_3, ze_39, ze_45, Sp134, SSurf, SFluxQ, D134, hb0, hb1, hb2, hb3, d1, d2, d3, d4, o1, o2, o3, o4, e1]))
    exact hK
  · exact h.elim

/- impl.hasFace -/
/- impl.FaceFlux -/
def SFlxR : List AV → List Blk → (AV → List Blk → Prop) → Prop
  | [.agg [.int .i64 r, v, a, b, c]], η, K => (ok3 45 η v ∧ okI η a ∧ okI η b ∧ okI η c) ∧ ∀ H u, NewI η.length H u (flxR r (dec3 45 η v) (decI η a) (decI η b) (decI η c)) → Ext η H → K u H
  | _, _, _ => False

/- spec.AllFluxes -/
def invFlxI (η : List Blk) (r : Int) (l : List Id3) (v a b c : AV) (ms ts bs : List Int) (st : St) : Prop := ∃ i : Nat, ∃ H : List Blk, ∃ bl : Nat, ∃ wer : Nat, (i ≤ l.length - 1) ∧ (Ext η H) ∧ (η.length ≤ bl) ∧ (H[bl]? = some ⟨wer, 3, 1, (flxN l ms bs i).map (.int .i64)⟩) ∧ st.n = 25 ∧ st.τ 1 = .loc 1 1 0 ∧ st.τ 3 = .sl bl wer 0 (flxN l ms bs i).length ∧ st.τ 13 = .int .i64 ((l.length : Int) - 1) ∧ st.τ 14 = .int .i64 i ∧ st.lam 1 = ⟨1, [.int .i64 r, v, a, b, c]⟩ ∧ st.η = H

/- impl.AllFluxes -/
def Sp33 (lo : Nat) : Spec := fun g args η K => match g with | 103 => SOk args η K | 104 => SFlux args η K | _ => False
theorem Sp33_ok {lo : Nat} : Sound Try.prog lo (Sp33 lo) := by
  intro g args η K h
  unfold Sp33 at h
  split at h
  · exact f103_ok h
  · exact f104_ok h
  · exact h.elim
theorem f33_ok {lo : Nat} {args : List AV} {η : List Blk} {K : AV → List Blk → Prop} (h : SFlxR args η K) : AF Try.prog lo 33 args η K := by
  unfold SFlxR at h
  split at h
  · obtain ⟨⟨⟨l, hr, hl⟩, ⟨ms, ha, hla⟩, ⟨ts, hb, hlb⟩, ⟨bs, hc, hlc⟩⟩, hK⟩ := h
    rename_i r _ _ _ _
    have d1 := hr.dec3
    have d2 := ha.dec
    have d3 := hb.dec
    have d4 := hc.dec
    have o1 : ok3 45 _ _ := ⟨l, hr, hl⟩
    have o2 : okI _ _ := ⟨ms, ha, hla⟩
    have o3 : okI _ _ := ⟨ts, hb, hlb⟩
    have o4 : okI _ _ := ⟨bs, hc, hlc⟩
    simp only [d1, d2, d3, d4] at hK
    have hr' := hr
    have ha' := ha
    have hb' := hb
    have hc' := hc
    obtain ⟨b0, v0, rfl, hb0⟩ := hr'
    obtain ⟨b1, v1, rfl, hb1⟩ := ha'
    obtain ⟨b2, v2, rfl, hb2⟩ := hb'
    obtain ⟨b3, v3, rfl, hb3⟩ := hc'
    refine AF_run Sp33_ok D0 [] [.tmp 2] hm Try.func33 rfl (by decide) Try.ntmps33 rfl (by kernel_rfl) (Nat.le_of_ble_eq_true rfl) ?_; intro hlo
    cases e1 : okB r l ms ts bs
    · repeat' (first | with_reducible refine iteI (fun _ => ?_) (fun _ => ?_) | ((first | unfold AOpsC | unfold AOpsD | skip); simp (maxSteps := 1000000) (disch := (first | omega | assumption | (simp only [List.length_append, List.length_cons, List.length_nil, List.length_set]; omega))) only [go_sem, ↓skipC, ↓exitC, ↓retC, ↓seqC, ↓blockC, ↓condC, ↓regC, ↓drawC, ↓drawStep, ↓AOpC, ↓AOpF, ↓AOpE, ↓AEff, ↓contE_at, ↓contC_at, ↓keepC_at, ↓keepW_at, ↓keepO_at, ↓map_parts, ↓reduceIte, reduceCtorEq, Nat.reduceLT, Nat.reduceEqDiff, Nat.reduceAdd, Nat.reduceMul, Nat.reduceLeDiff, Nat.reduceSub, Nat.reduceBEq, Nat.reduceBNe, Nat.reduceBneDiff, Nat.reduceBeqDiff, ag_24, ag_28, ag_3, ag_39, ag_45, by_24, by_28, by_3, by_39, by_45, el_24, el_28, fi_26_1, fi_39_0, in_3, nf_39, nf_45, pl_39, pl_45, ps_39, ps_45, sz_24, sz_28, sz_3, sz_39, sz_45, ze_24, ze_28, ze_3, ze_39, ze_45, Sp33, SOk, SFlux, hb0, hb1, hb2, hb3, d1, d2, d3, d4, o1, o2, o3, o4, e1]))
      exact hK _ _ (((NewI.nil _ _)).eq (by simp [flxR, e1])) (Ext.refl _)
    obtain ⟨k1, k2, k3, k4, k5, k6, k7, k8⟩ := okT e1
    repeat' (first | with_reducible refine iteI (fun _ => ?_) (fun _ => ?_) | ((first | unfold AOpsC | unfold AOpsD | skip); simp (maxSteps := 1000000) (disch := (first | omega | assumption | (simp only [List.length_append, List.length_cons, List.length_nil, List.length_set]; omega))) only [go_sem, ↓skipC, ↓exitC, ↓retC, ↓seqC, ↓blockC, ↓condC, ↓regC, ↓drawC, ↓drawStep, ↓AOpC, ↓AOpF, ↓AOpE, ↓AEff, ↓contE_at, ↓contC_at, ↓keepC_at, ↓keepW_at, ↓keepO_at, ↓map_parts, ↓reduceIte, reduceCtorEq, Nat.reduceLT, Nat.reduceEqDiff, Nat.reduceAdd, Nat.reduceMul, Nat.reduceLeDiff, Nat.reduceSub, Nat.reduceBEq, Nat.reduceBNe, Nat.reduceBneDiff, Nat.reduceBeqDiff, ag_24, ag_28, ag_3, ag_39, ag_45, by_24, by_28, by_3, by_39, by_45, el_24, el_28, fi_26_1, fi_39_0, in_3, nf_39, nf_45, pl_39, pl_45, ps_39, ps_45, sz_24, sz_28, sz_3, sz_39, sz_45, ze_24, ze_28, ze_3, ze_39, ze_45, Sp33, SOk, SFlux, hb0, hb1, hb2, hb3, d1, d2, d3, d4, o1, o2, o3, o4, e1]))
    refine ⟨invFlxI η r l (.sl b0 v0 0 l.length) (.sl b1 v1 0 ms.length) (.sl b2 v2 0 ts.length) (.sl b3 v3 0 bs.length) ms ts bs, fun st => ctr l.length st 14, .inr ⟨3, 3, 1, Nat.le_of_ble_eq_true rfl, rfl, 0, _, η.length, 0, Nat.zero_le _, (Ext.refl η).app _, Nat.le_refl _, by simp [RecE, flxN], rfl, by simp [RecE, upd, flxN], by simp [RecE, upd, flxN], by simp [RecE, upd, flxN], by simp [RecE, upd, flxN], by simp [RecE, upd], rfl⟩, ?_⟩
    rintro ⟨n, τ, lam, η'⟩ ⟨i, H, bl, wer, g0, g1, g2, g3, hn, t1, t3, t13, t14, l1, hη⟩; simp only at hn t1 t3 t13 t14 l1 hη; subst hn hη
    have w0 := g1.blk hb0
    have w1 := g1.blk hb1
    have w2 := g1.blk hb2
    have w3 := g1.blk hb3
    have D1 : dec3 45 η' (.sl b0 v0 0 l.length) = l := IsR.dec3 ⟨b0, v0, rfl, w0⟩
    have D2 : decI η' (.sl b1 v1 0 ms.length) = ms := IsI.dec ⟨b1, v1, rfl, w1⟩
    have D3 : decI η' (.sl b2 v2 0 ts.length) = ts := IsI.dec ⟨b2, v2, rfl, w2⟩
    have D4 : decI η' (.sl b3 v3 0 bs.length) = bs := IsI.dec ⟨b3, v3, rfl, w3⟩
    have O1 : ok3 45 η' (.sl b0 v0 0 l.length) := ⟨l, ⟨b0, v0, rfl, w0⟩, hl⟩
    have O2 : okI η' (.sl b1 v1 0 ms.length) := ⟨ms, ⟨b1, v1, rfl, w1⟩, hla⟩
    have O3 : okI η' (.sl b2 v2 0 ts.length) := ⟨ts, ⟨b2, v2, rfl, w2⟩, hlb⟩
    have O4 : okI η' (.sl b3 v3 0 bs.length) := ⟨bs, ⟨b3, v3, rfl, w3⟩, hlc⟩
    have hHl := blt g3
    have hal := flxN_len l ms bs i
    by_cases hlt : i + 1 < l.length
    · have hac := flxN_succ l ms bs i
      repeat' (first | with_reducible refine iteI (fun _ => ?_) (fun _ => ?_) | ((first | unfold AOpsC | unfold AOpsD | skip); simp (maxSteps := 1000000) (disch := (first | omega | assumption | (simp only [List.length_append, List.length_cons, List.length_nil, List.length_set]; omega))) only [go_sem, ↓skipC, ↓exitC, ↓retC, ↓seqC, ↓blockC, ↓condC, ↓regC, ↓drawC, ↓drawStep, ↓AOpC, ↓AOpF, ↓AOpE, ↓AEff, ↓contE_at, ↓contC_at, ↓keepC_at, ↓keepW_at, ↓keepO_at, ↓map_parts, ↓reduceIte, reduceCtorEq, Nat.reduceLT, Nat.reduceEqDiff, Nat.reduceAdd, Nat.reduceMul, Nat.reduceLeDiff, Nat.reduceSub, Nat.reduceBEq, Nat.reduceBNe, Nat.reduceBneDiff, Nat.reduceBeqDiff, ag_24, ag_28, ag_3, ag_39, ag_45, by_24, by_28, by_3, by_39, by_45, el_24, el_28, fi_26_1, fi_39_0, in_3, nf_39, nf_45, pl_39, pl_45, ps_39, ps_45, sz_24, sz_28, sz_3, sz_39, sz_45, ze_24, ze_28, ze_3, ze_39, ze_45, Sp33, SOk, SFlux, w0, w1, w2, w3, D1, D2, D3, D4, O1, O2, O3, O4, t1, t3, t13, t14, l1, e1, g3, takeMap]))
      refine ⟨⟨i + 1, _, bl, wer + 1, by omega, (g1.set g2 _).app _, g2, by rw [hac, app_get (by simpa using hHl), set_eq hHl]; simp, rfl, by simp [upd, t1, t3, t13, t14, flxN_succ], by simp [upd, t1, t3, t13, t14, flxN_succ], by simp [upd, t1, t3, t13, t14, flxN_succ], by simp [upd, t1, t3, t13, t14, flxN_succ], by simp [upd, l1], rfl⟩, by simp [ctr, upd, t14]; omega⟩
    · obtain rfl : i = l.length - 1 := by omega
      repeat' (first | with_reducible refine iteI (fun _ => ?_) (fun _ => ?_) | ((first | unfold AOpsC | unfold AOpsD | skip); simp (maxSteps := 1000000) (disch := (first | omega | assumption | (simp only [List.length_append, List.length_cons, List.length_nil, List.length_set]; omega))) only [go_sem, ↓skipC, ↓exitC, ↓retC, ↓seqC, ↓blockC, ↓condC, ↓regC, ↓drawC, ↓drawStep, ↓AOpC, ↓AOpF, ↓AOpE, ↓AEff, ↓contE_at, ↓contC_at, ↓keepC_at, ↓keepW_at, ↓keepO_at, ↓map_parts, ↓reduceIte, reduceCtorEq, Nat.reduceLT, Nat.reduceEqDiff, Nat.reduceAdd, Nat.reduceMul, Nat.reduceLeDiff, Nat.reduceSub, Nat.reduceBEq, Nat.reduceBNe, Nat.reduceBneDiff, Nat.reduceBeqDiff, ag_24, ag_28, ag_3, ag_39, ag_45, by_24, by_28, by_3, by_39, by_45, el_24, el_28, fi_26_1, fi_39_0, in_3, nf_39, nf_45, pl_39, pl_45, ps_39, ps_45, sz_24, sz_28, sz_3, sz_39, sz_45, ze_24, ze_28, ze_3, ze_39, ze_45, Sp33, SOk, SFlux, w0, w1, w2, w3, D1, D2, D3, D4, O1, O2, O3, O4, t1, t3, t13, t14, l1, e1]))
      exact hK _ _ ((NewI.mk g2 g3).eq (by rw [flxR, if_pos e1])) g1
  · exact h.elim

def SRest : List AV → List Blk → (AV → List Blk → Prop) → Prop
  | [.agg [.int .i64 r, v, a, b, c]], η, K => (ok3 45 η v ∧ okI η a ∧ okI η b ∧ okI η c) ∧ ∀ H, Ext η H → K (.bool (restR r (dec3 45 η v) (decI η a) (decI η b) (decI η c))) H
  | _, _, _ => False

/- spec.IsAtRest -/
def invRestI (H : List Blk) (r : Int) (v a b c : AV) (L : List Int) (u : AV) (st : St) : Prop := ∃ i : Nat, (i ≤ L.length) ∧ ((L.take i).all (fun x => decide (x = 0)) = true) ∧ st.n = 18 ∧ st.τ 9 = u ∧ st.τ 10 = .int .i64 L.length ∧ st.τ 11 = .int .i64 i ∧ st.lam 1 = ⟨1, [.int .i64 r, v, a, b, c]⟩ ∧ st.η = H

/- impl.IsAtRest -/
def Sp62 (lo : Nat) : Spec := fun g args η K => match g with | 33 => SFlxR args η K | 103 => SOk args η K | _ => False
theorem Sp62_ok {lo : Nat} : Sound Try.prog lo (Sp62 lo) := by
  intro g args η K h
  unfold Sp62 at h
  split at h
  · exact f33_ok h
  · exact f103_ok h
  · exact h.elim
theorem f62_ok {lo : Nat} {args : List AV} {η : List Blk} {K : AV → List Blk → Prop} (h : SRest args η K) : AF Try.prog lo 62 args η K := by
  unfold SRest at h
  split at h
  · obtain ⟨⟨⟨l, hr, hl⟩, ⟨ms, ha, hla⟩, ⟨ts, hb, hlb⟩, ⟨bs, hc, hlc⟩⟩, hK⟩ := h
    rename_i r _ _ _ _
    have d1 := hr.dec3
    have d2 := ha.dec
    have d3 := hb.dec
    have d4 := hc.dec
    have o1 : ok3 45 _ _ := ⟨l, hr, hl⟩
    have o2 : okI _ _ := ⟨ms, ha, hla⟩
    have o3 : okI _ _ := ⟨ts, hb, hlb⟩
    have o4 : okI _ _ := ⟨bs, hc, hlc⟩
    simp only [d1, d2, d3, d4] at hK
    have hr' := hr
    have ha' := ha
    have hb' := hb
    have hc' := hc
    obtain ⟨b0, v0, rfl, hb0⟩ := hr'
    obtain ⟨b1, v1, rfl, hb1⟩ := ha'
    obtain ⟨b2, v2, rfl, hb2⟩ := hb'
    obtain ⟨b3, v3, rfl, hb3⟩ := hc'
    refine AF_run Sp62_ok D0 [] [.tmp 2] hm Try.func62 rfl (by decide) Try.ntmps62 rfl (by kernel_rfl) (Nat.le_of_ble_eq_true rfl) ?_; intro hlo
    cases e1 : okB r l ms ts bs
    · repeat' (first | with_reducible refine iteI (fun _ => ?_) (fun _ => ?_) | ((first | unfold AOpsC | unfold AOpsD | skip); simp (maxSteps := 1000000) (disch := (first | omega | assumption | (simp only [List.length_append, List.length_cons, List.length_nil, List.length_set]; omega))) only [go_sem, ↓skipC, ↓exitC, ↓retC, ↓seqC, ↓blockC, ↓condC, ↓regC, ↓drawC, ↓drawStep, ↓AOpC, ↓AOpF, ↓AOpE, ↓AEff, ↓contE_at, ↓contC_at, ↓keepC_at, ↓keepW_at, ↓keepO_at, ↓map_parts, ↓reduceIte, reduceCtorEq, Nat.reduceLT, Nat.reduceEqDiff, Nat.reduceAdd, Nat.reduceMul, Nat.reduceLeDiff, Nat.reduceSub, Nat.reduceBEq, Nat.reduceBNe, Nat.reduceBneDiff, Nat.reduceBeqDiff, ag_28, ag_3, ag_39, by_28, by_3, by_39, el_28, in_3, nf_39, pl_39, ps_39, sz_28, sz_3, sz_39, ze_28, ze_3, ze_39, Sp62, SOk, hb0, hb1, hb2, hb3, d1, d2, d3, d4, o1, o2, o3, o4, e1]))
      exact KB (hK _ (Ext.refl _)) (by simp [restR, e1])
    repeat' (first | with_reducible refine iteI (fun _ => ?_) (fun _ => ?_) | ((first | unfold AOpsC | unfold AOpsD | skip); simp (maxSteps := 1000000) (disch := (first | omega | assumption | (simp only [List.length_append, List.length_cons, List.length_nil, List.length_set]; omega))) only [go_sem, ↓skipC, ↓exitC, ↓retC, ↓seqC, ↓blockC, ↓condC, ↓regC, ↓drawC, ↓drawStep, ↓AOpC, ↓AOpF, ↓AOpE, ↓AEff, ↓contE_at, ↓contC_at, ↓keepC_at, ↓keepW_at, ↓keepO_at, ↓map_parts, ↓reduceIte, reduceCtorEq, Nat.reduceLT, Nat.reduceEqDiff, Nat.reduceAdd, Nat.reduceMul, Nat.reduceLeDiff, Nat.reduceSub, Nat.reduceBEq, Nat.reduceBNe, Nat.reduceBneDiff, Nat.reduceBeqDiff, ag_28, ag_3, ag_39, by_28, by_3, by_39, el_28, in_3, nf_39, pl_39, ps_39, sz_28, sz_3, sz_39, ze_28, ze_3, ze_39, Sp62, SOk, hb0, hb1, hb2, hb3, d1, d2, d3, d4, o1, o2, o3, o4, e1]))
    unfold SFlxR
    simp only [hb0, hb1, hb2, hb3, d1, d2, d3, d4, o1, o2, o3, o4, true_and, and_self]
    refine fun H u hu x => ?_
    have w0 := x.blk hb0
    have w1 := x.blk hb1
    have w2 := x.blk hb2
    have w3 := x.blk hb3
    have D1 : dec3 45 H (.sl b0 v0 0 l.length) = l := IsR.dec3 ⟨b0, v0, rfl, w0⟩
    have D2 : decI H (.sl b1 v1 0 ms.length) = ms := IsI.dec ⟨b1, v1, rfl, w1⟩
    have D3 : decI H (.sl b2 v2 0 ts.length) = ts := IsI.dec ⟨b2, v2, rfl, w2⟩
    have D4 : decI H (.sl b3 v3 0 bs.length) = bs := IsI.dec ⟨b3, v3, rfl, w3⟩
    have O1 : ok3 45 H (.sl b0 v0 0 l.length) := ⟨l, ⟨b0, v0, rfl, w0⟩, hl⟩
    have O2 : okI H (.sl b1 v1 0 ms.length) := ⟨ms, ⟨b1, v1, rfl, w1⟩, hla⟩
    have O3 : okI H (.sl b2 v2 0 ts.length) := ⟨ts, ⟨b2, v2, rfl, w2⟩, hlb⟩
    have O4 : okI H (.sl b3 v3 0 bs.length) := ⟨bs, ⟨b3, v3, rfl, w3⟩, hlc⟩
    have hlen := flxR_len (r := r) (ms := ms) (ts := ts) (bs := bs) hl
    have hn1 := hu.1.noLoc.1
    obtain ⟨hu, _⟩ := hu
    rcases hu with ⟨hu, hL⟩ | ⟨bf, wf, rfl, hbf⟩
    · rcases hu with rfl | rfl
      all_goals
        repeat' (first | with_reducible refine iteI (fun _ => ?_) (fun _ => ?_) | ((first | unfold AOpsC | unfold AOpsD | skip); simp (maxSteps := 1000000) (disch := (first | omega | assumption | (simp only [List.length_append, List.length_cons, List.length_nil, List.length_set]; omega))) only [go_sem, ↓skipC, ↓exitC, ↓retC, ↓seqC, ↓blockC, ↓condC, ↓regC, ↓drawC, ↓drawStep, ↓AOpC, ↓AOpF, ↓AOpE, ↓AEff, ↓contE_at, ↓contC_at, ↓keepC_at, ↓keepW_at, ↓keepO_at, ↓map_parts, ↓reduceIte, reduceCtorEq, Nat.reduceLT, Nat.reduceEqDiff, Nat.reduceAdd, Nat.reduceMul, Nat.reduceLeDiff, Nat.reduceSub, Nat.reduceBEq, Nat.reduceBNe, Nat.reduceBneDiff, Nat.reduceBeqDiff, ag_28, ag_3, ag_39, by_28, by_3, by_39, el_28, in_3, nf_39, pl_39, ps_39, sz_28, sz_3, sz_39, ze_28, ze_3, ze_39, Sp62, SOk, w0, w1, w2, w3, D1, D2, D3, D4, O1, O2, O3, O4, ↓hn1, e1]))
        refine ⟨invRestI H r (.sl b0 v0 0 l.length) (.sl b1 v1 0 ms.length) (.sl b2 v2 0 ts.length) (.sl b3 v3 0 bs.length) [] _, fun st => ctr 0 st 11, .inl ⟨0, Nat.zero_le _, rfl, rfl, (by first | (simp [upd]; done) | (simp [upd, *]; done) | rfl), (by first | (simp [upd]; done) | (simp [upd, *]; done) | rfl), (by first | (simp [upd]; done) | (simp [upd, *]; done) | rfl), (by first | (simp [upd]; done) | (simp [upd, *]; done) | rfl), rfl⟩, ?_⟩
        rintro ⟨n, τ, lam, η'⟩ ⟨i, g0, g1, hn, t9, t10, t11, l1, hη⟩; simp only at hn t9 t10 t11 l1 hη; subst hn hη
        obtain rfl : i = 0 := by simpa using g0
        repeat' (first | with_reducible refine iteI (fun _ => ?_) (fun _ => ?_) | ((first | unfold AOpsC | unfold AOpsD | skip); simp (maxSteps := 1000000) (disch := (first | omega | assumption | (simp only [List.length_append, List.length_cons, List.length_nil, List.length_set]; omega))) only [go_sem, ↓skipC, ↓exitC, ↓retC, ↓seqC, ↓blockC, ↓condC, ↓regC, ↓drawC, ↓drawStep, ↓AOpC, ↓AOpF, ↓AOpE, ↓AEff, ↓contE_at, ↓contC_at, ↓keepC_at, ↓keepW_at, ↓keepO_at, ↓map_parts, ↓reduceIte, reduceCtorEq, Nat.reduceLT, Nat.reduceEqDiff, Nat.reduceAdd, Nat.reduceMul, Nat.reduceLeDiff, Nat.reduceSub, Nat.reduceBEq, Nat.reduceBNe, Nat.reduceBneDiff, Nat.reduceBeqDiff, ag_28, ag_3, ag_39, by_28, by_3, by_39, el_28, in_3, nf_39, pl_39, ps_39, sz_28, sz_3, sz_39, ze_28, ze_3, ze_39, Sp62, SOk, w0, w1, w2, w3, D1, D2, D3, D4, O1, O2, O3, O4, t9, t10, t11, l1]))
        exact KB (hK _ x) (by rw [restR, hL, e1]; rfl)
    · repeat' (first | with_reducible refine iteI (fun _ => ?_) (fun _ => ?_) | ((first | unfold AOpsC | unfold AOpsD | skip); simp (maxSteps := 1000000) (disch := (first | omega | assumption | (simp only [List.length_append, List.length_cons, List.length_nil, List.length_set]; omega))) only [go_sem, ↓skipC, ↓exitC, ↓retC, ↓seqC, ↓blockC, ↓condC, ↓regC, ↓drawC, ↓drawStep, ↓AOpC, ↓AOpF, ↓AOpE, ↓AEff, ↓contE_at, ↓contC_at, ↓keepC_at, ↓keepW_at, ↓keepO_at, ↓map_parts, ↓reduceIte, reduceCtorEq, Nat.reduceLT, Nat.reduceEqDiff, Nat.reduceAdd, Nat.reduceMul, Nat.reduceLeDiff, Nat.reduceSub, Nat.reduceBEq, Nat.reduceBNe, Nat.reduceBneDiff, Nat.reduceBeqDiff, ag_28, ag_3, ag_39, by_28, by_3, by_39, el_28, in_3, nf_39, pl_39, ps_39, sz_28, sz_3, sz_39, ze_28, ze_3, ze_39, Sp62, SOk, w0, w1, w2, w3, D1, D2, D3, D4, O1, O2, O3, O4, hbf, e1]))
      refine ⟨invRestI H r (.sl b0 v0 0 l.length) (.sl b1 v1 0 ms.length) (.sl b2 v2 0 ts.length) (.sl b3 v3 0 bs.length) (flxR r l ms ts bs) (.sl bf wf 0 (flxR r l ms ts bs).length), fun st => ctr (flxR r l ms ts bs).length st 11, .inl ⟨0, Nat.zero_le _, rfl, rfl, (by first | (simp [upd]; done) | (simp [upd, *]; done) | rfl), (by first | (simp [upd]; done) | (simp [upd, *]; done) | rfl), (by first | (simp [upd]; done) | (simp [upd, *]; done) | rfl), (by first | (simp [upd]; done) | (simp [upd, *]; done) | rfl), rfl⟩, ?_⟩
      rintro ⟨n, τ, lam, η'⟩ ⟨i, g0, g1, hn, t9, t10, t11, l1, hη⟩; simp only at hn t9 t10 t11 l1 hη; subst hn hη
      by_cases hlt : i < (flxR r l ms ts bs).length
      · by_cases hx : (flxR r l ms ts bs).getD i 0 = 0
        · have hnx := all1I hlt g1 (by simpa using hx)
          repeat' (first | with_reducible refine iteI (fun _ => ?_) (fun _ => ?_) | ((first | unfold AOpsC | unfold AOpsD | skip); simp (maxSteps := 1000000) (disch := (first | omega | assumption | (simp only [List.length_append, List.length_cons, List.length_nil, List.length_set]; omega))) only [go_sem, ↓skipC, ↓exitC, ↓retC, ↓seqC, ↓blockC, ↓condC, ↓regC, ↓drawC, ↓drawStep, ↓AOpC, ↓AOpF, ↓AOpE, ↓AEff, ↓contE_at, ↓contC_at, ↓keepC_at, ↓keepW_at, ↓keepO_at, ↓map_parts, ↓reduceIte, reduceCtorEq, Nat.reduceLT, Nat.reduceEqDiff, Nat.reduceAdd, Nat.reduceMul, Nat.reduceLeDiff, Nat.reduceSub, Nat.reduceBEq, Nat.reduceBNe, Nat.reduceBneDiff, Nat.reduceBeqDiff, ag_28, ag_3, ag_39, by_28, by_3, by_39, el_28, in_3, nf_39, pl_39, ps_39, sz_28, sz_3, sz_39, ze_28, ze_3, ze_39, Sp62, SOk, w0, w1, w2, w3, D1, D2, D3, D4, O1, O2, O3, O4, t9, t10, t11, l1, hbf, hx]))
          refine ⟨⟨i + 1, hlt, hnx, rfl, (by simp [upd, t9, t10, t11]), (by simp [upd, t9, t10, t11]), (by simp [upd, t9, t10, t11]), (by simp [upd, l1]), rfl⟩, (by simp [ctr, upd, t9, t10, t11]; omega)⟩
        · have hbad : (flxR r l ms ts bs).all (fun x => decide (x = 0)) = false := all_bad (d := 0) hlt (by simpa using hx)
          repeat' (first | with_reducible refine iteI (fun _ => ?_) (fun _ => ?_) | ((first | unfold AOpsC | unfold AOpsD | skip); simp (maxSteps := 1000000) (disch := (first | omega | assumption | (simp only [List.length_append, List.length_cons, List.length_nil, List.length_set]; omega))) only [go_sem, ↓skipC, ↓exitC, ↓retC, ↓seqC, ↓blockC, ↓condC, ↓regC, ↓drawC, ↓drawStep, ↓AOpC, ↓AOpF, ↓AOpE, ↓AEff, ↓contE_at, ↓contC_at, ↓keepC_at, ↓keepW_at, ↓keepO_at, ↓map_parts, ↓reduceIte, reduceCtorEq, Nat.reduceLT, Nat.reduceEqDiff, Nat.reduceAdd, Nat.reduceMul, Nat.reduceLeDiff, Nat.reduceSub, Nat.reduceBEq, Nat.reduceBNe, Nat.reduceBneDiff, Nat.reduceBeqDiff, ag_28, ag_3, ag_39, by_28, by_3, by_39, el_28, in_3, nf_39, pl_39, ps_39, sz_28, sz_3, sz_39, ze_28, ze_3, ze_39, Sp62, SOk, w0, w1, w2, w3, D1, D2, D3, D4, O1, O2, O3, O4, t9, t10, t11, l1, hbf, hx]))
          exact KB (hK _ x) (by rw [restR, hbad, Bool.and_false])
      · obtain rfl : i = (flxR r l ms ts bs).length := by omega
        rw [List.take_length] at g1
        repeat' (first | with_reducible refine iteI (fun _ => ?_) (fun _ => ?_) | ((first | unfold AOpsC | unfold AOpsD | skip); simp (maxSteps := 1000000) (disch := (first | omega | assumption | (simp only [List.length_append, List.length_cons, List.length_nil, List.length_set]; omega))) only [go_sem, ↓skipC, ↓exitC, ↓retC, ↓seqC, ↓blockC, ↓condC, ↓regC, ↓drawC, ↓drawStep, ↓AOpC, ↓AOpF, ↓AOpE, ↓AEff, ↓contE_at, ↓contC_at, ↓keepC_at, ↓keepW_at, ↓keepO_at, ↓map_parts, ↓reduceIte, reduceCtorEq, Nat.reduceLT, Nat.reduceEqDiff, Nat.reduceAdd, Nat.reduceMul, Nat.reduceLeDiff, Nat.reduceSub, Nat.reduceBEq, Nat.reduceBNe, Nat.reduceBneDiff, Nat.reduceBeqDiff, ag_28, ag_3, ag_39, by_28, by_3, by_39, el_28, in_3, nf_39, pl_39, ps_39, sz_28, sz_3, sz_39, ze_28, ze_3, ze_39, Sp62, SOk, w0, w1, w2, w3, D1, D2, D3, D4, O1, O2, O3, O4, t9, t10, t11, l1, hbf]))
        exact KB (hK _ x) (by rw [restR, g1, e1]; rfl)
  · exact h.elim

end Go.Proofs.Ytffefndnnbcplaa
