/- What functions of the program compute, said in the abstract logic; no conditions. -/
import Derived.Test.YtaalpmbopkbdiaaGreatGRmW

namespace Go.Proofs.YtaalpmbopkbdiaaGreat
open Go
set_option linter.unusedSimpArgs false
set_option linter.unusedVariables false
set_option maxRecDepth 100000
set_option maxHeartbeats 8000000
attribute [local go_sem] st0 AC thenA andC locLoadB KsSW_same KsSW_grow oldLoadB noBlkB KsSL_same KsOS_same KsOS_grow pv ev put upd dstOk cv cvc binI setB Value.oneCell' EndA resA resA1 List.mapM_cons List.mapM_nil Option.pure_def Option.bind_eq_bind noLocV noLoc1 noLoc noLocs plainV cellsA newVarA putCells condA lam0 inBlockA cur lenA rowA writeA dstA appendC appendZ mapPut mapGet avoidsB avoidB clearB Array.toList_append Op.operands Call.operands newSlot Nat.zero_add Nat.add_zero Nat.succ_ne_self Nat.lt_add_one Nat.zero_lt_succ true_and and_true true_or or_true false_or or_false and_self true_implies forall_const Bool.false_eq_true Bool.true_eq_false false_implies implies_true imp_self ne_eq not_false_eq_true not_true_eq_false false_and and_false List.getElem?_toArray List.getElem?_cons_succ List.getElem?_cons_zero Option.bind_some Option.map_some Bool.not_true Bool.not_false List.getD_cons_zero List.getD_cons_succ Option.some.injEq exists_eq_left' AV.bool.injEq List.map_cons List.map_nil List.all_cons List.all_nil Bool.and_self Bool.and_true Bool.true_and List.append_nil List.cons_append List.nil_append List.length_cons List.length_nil List.drop_zero List.take_zero List.drop_succ_cons List.take_succ_cons List.take_nil List.drop_nil List.not_mem_nil List.mem_cons List.contains_nil List.contains_cons Bool.or_self Bool.or_true Bool.true_or Bool.false_or Bool.or_false Bool.and_false Bool.false_and KsS_same KsS_grow skipV KsS_ext KsSW_ext KsOS_ext rep1 rep2 rep3 rep4 rep5 List.flatten_cons List.flatten_nil partsA isPtr fillA List.size_toArray ltT ltF leT leF ltTn ltFn leTn leFn eqTi eqFi wrapId toNat1 intGet boolGet memD app_get app_last app_lst app_set app_setL app_setF set_ne set_eq gt_iff_lt ge_iff_le decide_eq_true_eq len2 len3 get20 get21 drop2 put2 get30 get31 get32 drop3 put3 putI pairEta bneTi bneFi beqTi beqFi bne_eq_false_iff_eq beq_eq_false_iff_ne beq_iff_eq bne_iff_ne Int.toNat_natCast Nat.mul_one List.length_map Bool.not_eq_true Bool.not_eq_false Bool.decide_eq_true decide_true decide_false Bool.not_eq_true' Bool.not_eq_false' decide_eq_false_iff_not eq_self Decidable.not_not
attribute [local go_sem ↓] skipC exitC retC seqC blockC condC regC drawC drawStep AOpC AOpF AOpE AEff contE_at contC_at keepC_at keepW_at keepO_at keepL_at map_parts
attribute [local go_sem] reduceCtorEq Nat.reduceLT Nat.reduceEqDiff Nat.reduceAdd Nat.reduceMul Nat.reduceLeDiff Nat.reduceSub Nat.reduceBEq Nat.reduceBNe Nat.reduceBneDiff Nat.reduceBeqDiff
attribute [local go_sem ↓] reduceIte
attribute [local go_sem] ag_3 ag_30 ag_32 ag_34 ag_69 by_3 by_30 by_32 by_34 by_69 el_30 en_3 fi_32_0 fi_32_1 fi_34_0 in_3 nf_32 nf_34 nf_69 pl_32 pl_34 pl_69 ps_32 ps_34 ps_69 sz_3 sz_30 sz_32 sz_34 sz_69 ze_3 ze_30 ze_32 ze_34 ze_69

def rmG (r : Int) (l : List Id3) (ms ts bs : List Int) (q : Int) (m : List Id3) : Bool := okB r l ms ts bs && (balB q m && decide (r = q))
def SRms (lo : Nat) : List AV → List Blk → (AV → List Blk → Prop) → Prop
  | [.agg [.int .i64 r, v, a, b, c], .agg [.int .i64 q, u]], η, K => ((ok3 69 η v ∧ okI η a ∧ okI η b ∧ okI η c) ∧ ok3 69 η u) ∧
      (rmG r (dec3 69 η v) (decI η a) (decI η b) (decI η c) q (dec3 69 η u) = true → ∀ H b0 b1 b2 b3 v0 v1 v2 v3, New4 η.length H b0 b1 b2 b3 v0 v1 v2 v3 (rmR r (dec3 69 η u) (dec3 69 η v) (decI η a) (decI η b)).1 (rmR r (dec3 69 η u) (dec3 69 η v) (decI η a) (decI η b)).2.1 (rmR r (dec3 69 η u) (dec3 69 η v) (decI η a) (decI η b)).2.2 (decI η c) → Ext η H →
        K (.tup [.agg [.int .i64 r, .sl b0 v0 0 (rmR r (dec3 69 η u) (dec3 69 η v) (decI η a) (decI η b)).1.length, .sl b1 v1 0 (rmR r (dec3 69 η u) (dec3 69 η v) (decI η a) (decI η b)).2.1.length, .sl b2 v2 0 (rmR r (dec3 69 η u) (dec3 69 η v) (decI η a) (decI η b)).2.2.length, .sl b3 v3 0 (decI η c).length], .bool true]) H) ∧
      (rmG r (dec3 69 η v) (decI η a) (decI η b) (decI η c) q (dec3 69 η u) = false → ∀ H, Ext η H → K (.tup [.agg [.int .i64 0, .nils, .nils, .nils, .nils], .bool false]) H)
  | _, _, _ => False
noncomputable def muRp (p : Nat) (r : Int) (m : List Id3) (st : St) : Nat := match st.η[p]? with | some ⟨_, _, _, _ :: v :: _⟩ => muR r m (dec3 69 st.η v) | _ => 0
noncomputable def muRl (r : Int) (m : List Id3) (st : St) : Nat := match (st.lam 6).cells with | _ :: v :: _ => muR r m (dec3 69 st.η v) | _ => 0
theorem rmG_t {r : Int} {l : List Id3} {ms ts bs : List Int} {q : Int} {m : List Id3} (h : rmG r l ms ts bs q m = true) : okB r l ms ts bs = true ∧ balB q m = true ∧ r = q := by
  simpa only [rmG, Bool.and_eq_true, decide_eq_true_eq] using h

def invRI (η : List Blk) (n p pm : Nat) (r : Int) (m : List Id3) (bs : List Int) (b3 v3 : Nat) (R : List Id3 × List Int × List Int) (st : St) : Prop := ∃ i : Nat, ∃ H : List Blk, ∃ c0 : Nat, ∃ c1 : Nat, ∃ c2 : Nat, ∃ u0 : Nat, ∃ u1 : Nat, ∃ u2 : Nat, ∃ l1 : List Id3, ∃ ms1 : List Int, ∃ ts1 : List Int, (i = 0) ∧ (PtrS n p H r c0 c1 c2 b3 u0 u1 u2 v3 l1 ms1 ts1 bs) ∧ (Keep n η H) ∧ (meshB r l1 = true ∧ celB r l1 ms1 ts1 bs = true) ∧ (R = rmR r m l1 ms1 ts1) ∧ st.n = 38 ∧ st.τ 3 = .ptr pm 0 0 ∧ st.τ 4 = .loc 4 1 0 ∧ st.τ 6 = .ptr p 0 0 ∧ st.lam 4 = ⟨1, [.int .i64 0, .nils, .nils, .nils, .nils]⟩ ∧ st.η = H

/- impl.RemapState -/
def Sp12 (lo : Nat) : Spec := fun g args η K => match g with | 39 => SOk args η K | 40 => SBal args η K | 41 => SCopyS args η K | 42 => SIdxR lo args η K | 45 => SRmp lo args η K | _ => False
theorem Sp12_ok {lo : Nat} : Sound Tryz.prog lo (Sp12 lo) := by
  intro g args η K h
  unfold Sp12 at h
  split at h
  · exact .inl (f39_ok h)
  · exact .inl (f40_ok h)
  · exact .inl (f41_ok h)
  · exact .inl (f42_ok h)
  · exact .inl (f45_ok h)
  · exact h.elim
theorem f12_ok {lo : Nat} {args : List AV} {η : List Blk} {K : AV → List Blk → Prop} (h : SRms lo args η K) : AF Tryz.prog lo 12 args η K := by
  unfold SRms at h
  split at h
  · obtain ⟨⟨⟨⟨l, hr, hl⟩, ⟨ms, ha, hla⟩, ⟨ts, hb, hlb⟩, ⟨bs, hc, hlc⟩⟩, ⟨m, hs, hmn⟩⟩, hK1, hK2⟩ := h
    rename_i r _ _ _ _ q _
    have d1 := hr.dec3
    have d2 := ha.dec
    have d3 := hb.dec
    have d4 := hc.dec
    have o1 : ok3 69 _ _ := ⟨l, hr, hl⟩
    have o2 : okI _ _ := ⟨ms, ha, hla⟩
    have o3 : okI _ _ := ⟨ts, hb, hlb⟩
    have o4 : okI _ _ := ⟨bs, hc, hlc⟩
    have d5 := hs.dec3
    simp only [d1, d2, d3, d4, d5] at hK1 hK2
    obtain ⟨bu, vu, rfl, hbu⟩ := hs
    have hr' := hr
    have ha' := ha
    have hb' := hb
    have hc' := hc
    obtain ⟨b0, v0, rfl, hb0⟩ := hr'
    obtain ⟨b1, v1, rfl, hb1⟩ := ha'
    obtain ⟨b2, v2, rfl, hb2⟩ := hb'
    obtain ⟨b3, v3, rfl, hb3⟩ := hc'
    refine AF_run Sp12_ok D0 [3, 6] [.cell 4 34, .tmp 5] hm Tryz.func12 rfl (by decide) Tryz.ntmps12 rfl (by kernel_rfl) (Nat.le_of_ble_eq_true rfl) ?_; intro hlo
    generalize hH : η ++ [(⟨0, 32, 2, [.int .i64 q, .sl bu vu 0 m.length]⟩ : Blk)] = H0
    have x0 : Ext η H0 := ⟨_, hH.symm⟩
    have hpm : H0[η.length]? = some ⟨0, 32, 2, [.int .i64 q, .sl bu vu 0 m.length]⟩ := by rw [← hH]; exact app_last _ _
    have hl0 : H0.length = η.length + 1 := by rw [← hH]; simp
    have w0z := x0.blk hb0
    have w1z := x0.blk hb1
    have w2z := x0.blk hb2
    have w3z := x0.blk hb3
    have D1z : dec3 69 H0 (.sl b0 v0 0 l.length) = l := IsR.dec3 ⟨b0, v0, rfl, w0z⟩
    have D2z : decI H0 (.sl b1 v1 0 ms.length) = ms := IsI.dec ⟨b1, v1, rfl, w1z⟩
    have D3z : decI H0 (.sl b2 v2 0 ts.length) = ts := IsI.dec ⟨b2, v2, rfl, w2z⟩
    have D4z : decI H0 (.sl b3 v3 0 bs.length) = bs := IsI.dec ⟨b3, v3, rfl, w3z⟩
    have O1z : ok3 69 H0 (.sl b0 v0 0 l.length) := ⟨l, ⟨b0, v0, rfl, w0z⟩, hl⟩
    have O2z : okI H0 (.sl b1 v1 0 ms.length) := ⟨ms, ⟨b1, v1, rfl, w1z⟩, hla⟩
    have O3z : okI H0 (.sl b2 v2 0 ts.length) := ⟨ts, ⟨b2, v2, rfl, w2z⟩, hlb⟩
    have O4z : okI H0 (.sl b3 v3 0 bs.length) := ⟨bs, ⟨b3, v3, rfl, w3z⟩, hlc⟩
    have hbu0 := x0.blk hbu
    have D5 : dec3 69 H0 (.sl bu vu 0 m.length) = m := IsR.dec3 ⟨bu, vu, rfl, hbu0⟩
    have O5 : ok3 69 H0 (.sl bu vu 0 m.length) := ⟨m, ⟨bu, vu, rfl, hbu0⟩, hmn⟩
    have lu := blt hbu
    cases eg : rmG r l ms ts bs q m
    · have hk := hK2 eg
      cases e1 : okB r l ms ts bs
      · repeat' (first | with_reducible refine iteI (fun _ => ?_) (fun _ => ?_) | ((first | unfold AOpsC | unfold AOpsD | skip); simp (maxSteps := 1000000) (disch := (first | omega | assumption | (simp only [List.length_append, List.length_cons, List.length_nil, List.length_set]; omega))) only [go_sem, Sp12, SOk, SBal, hH, hpm, w0z, w1z, w2z, w3z, D1z, D2z, D3z, D4z, O1z, O2z, O3z, O4z, hbu0, D5, O5, e1]))
        exact hk _ x0
      cases e2 : balB q m
      · repeat' (first | with_reducible refine iteI (fun _ => ?_) (fun _ => ?_) | ((first | unfold AOpsC | unfold AOpsD | skip); simp (maxSteps := 1000000) (disch := (first | omega | assumption | (simp only [List.length_append, List.length_cons, List.length_nil, List.length_set]; omega))) only [go_sem, Sp12, SOk, SBal, hH, hpm, w0z, w1z, w2z, w3z, D1z, D2z, D3z, D4z, O1z, O2z, O3z, O4z, hbu0, D5, O5, e1, e2]))
        exact hk _ x0
      have e3 : ¬ r = q := fun e => by rw [rmG, e1, e2, decide_eq_true e] at eg; cases eg
      repeat' (first | with_reducible refine iteI (fun _ => ?_) (fun _ => ?_) | ((first | unfold AOpsC | unfold AOpsD | skip); simp (maxSteps := 1000000) (disch := (first | omega | assumption | (simp only [List.length_append, List.length_cons, List.length_nil, List.length_set]; omega))) only [go_sem, Sp12, SOk, SBal, hH, hpm, w0z, w1z, w2z, w3z, D1z, D2z, D3z, D4z, O1z, O2z, O3z, O4z, hbu0, D5, O5, e1, e2, e3]))
      exact hk _ x0
    · obtain ⟨e1, e2, e3⟩ := rmG_t eg
      subst e3
      have hK := hK1 eg
      obtain ⟨k1, k2, k3, k4, k5, k6, k7, k8⟩ := okT e1
      have hC : celB r l ms ts bs = true := by simp only [okB, Bool.and_eq_true] at e1; exact e1.2
      have hMm : meshB r m = true := by simp only [balB, Bool.and_eq_true] at e2; exact e2.1
      have hlm := mesh_len hMm
      repeat' (first | with_reducible refine iteI (fun _ => ?_) (fun _ => ?_) | ((first | unfold AOpsC | unfold AOpsD | skip); simp (maxSteps := 1000000) (disch := (first | omega | assumption | (simp only [List.length_append, List.length_cons, List.length_nil, List.length_set]; omega))) only [go_sem, Sp12, SOk, SBal, hH, hpm, w0z, w1z, w2z, w3z, D1z, D2z, D3z, D4z, O1z, O2z, O3z, O4z, hbu0, D5, O5, e1, e2]))
      refine copyN ⟨l, ms, ts, bs, ⟨⟨b0, v0, rfl, w0z⟩, ⟨b1, v1, rfl, w1z⟩, ⟨b2, v2, rfl, w2z⟩, ⟨b3, v3, rfl, w3z⟩⟩, ⟨hl, hla, hlb, hlc⟩, fun H q0 q1 q2 q3 hN x => ?_⟩
      have hHl := x.len
      have nlt := fun c => hN.lt (c := c)
      have l0 := nlt q0 (.inl rfl)
      have l1 := nlt q1 (.inr (.inl rfl))
      have l2 := nlt q2 (.inr (.inr (.inl rfl)))
      have l3 := nlt q3 (.inr (.inr (.inr rfl)))
      generalize hH2 : H ++ [(⟨0, 34, 5, [.int .i64 r, .sl q0 0 0 l.length, .sl q1 0 0 ms.length, .sl q2 0 0 ts.length, .sl q3 0 0 bs.length]⟩ : Blk)] = H2
      have x2 : Ext H H2 := ⟨_, hH2.symm⟩
      have hP : PtrS H0.length H.length H2 r q0 q1 q2 q3 0 0 0 0 l ms ts bs := ⟨by rw [← hH2]; exact app_last _ _, hN.ext x2, hHl, by omega, by omega, by omega, by omega⟩
      have kH : Keep H0.length H0 H2 := (x.trans x2).keep
      repeat' (first | with_reducible refine iteI (fun _ => ?_) (fun _ => ?_) | ((first | unfold AOpsC | unfold AOpsD | skip); simp (maxSteps := 1000000) (disch := (first | omega | assumption | (simp only [List.length_append, List.length_cons, List.length_nil, List.length_set]; omega))) only [go_sem, Sp12, SOk, SBal, hH2]))
      refine ⟨invRI H0 H0.length H.length η.length r m bs q3 0 (rmR r m l ms ts), muRp H.length r m, .inl ⟨0, H2, q0, q1, q2, 0, 0, 0, l, ms, ts, rfl, hP, kH, ⟨k1, hC⟩, rfl, rfl, by simp [upd], by simp [upd], by simp [upd], by simp [upd], rfl⟩, ?_⟩
      clear kH hP hH2 x2 hN x nlt l0 l1 l2 l3
      rintro ⟨n, τ, lam, η'⟩ ⟨i, H, c0, c1, c2, u0, u1, u2, l1, ms1, ts1, g0, g1, g2, g3, g4, hn, t3, t4, t6, l4, hη⟩; simp only at hn t3 t4 t6 l4 hη; subst hn hη
      obtain ⟨hM1, hC1⟩ := g3
      have pp := g1.pb
      have w0 := g1.n4.g0
      have hln := mesh_len hM1
      have hpm2 : η'[η.length]? = _ := (g2.2 _ (by omega)).trans hpm
      have hbu2 : η'[bu]? = _ := (g2.2 _ (by omega)).trans hbu0
      repeat' (first | with_reducible refine iteI (fun _ => ?_) (fun _ => ?_) | ((first | unfold AOpsC | unfold AOpsD | skip); simp (maxSteps := 1000000) (disch := (first | omega | assumption | (simp only [List.length_append, List.length_cons, List.length_nil, List.length_set]; omega))) only [go_sem, Sp12, SOk, SBal, pp, t3, t4, t6, l4]))
      unfold SIdxR
      refine ⟨l1, fun x => decide (ixL m x < 0), ⟨c0, u0, rfl, w0⟩, by omega, ?_, fun H3 x3 => ?_⟩
      · intro lo' H' y _ hx _ K' hK'
        obtain ⟨y1, y2, y3⟩ := y
        exact f43_ok (lo := lo') (show SRs1 [.agg [.int .i64 y1, .int .i64 y2, .int .i64 y3], .ptr η.length 0 0] H' K' from ⟨_, _, _, m, hx.blk hpm2, ⟨bu, vu, rfl, hx.blk hbu2⟩, by omega, hK' _ (Ext.refl _)⟩)
      rw [show (idxR l1 fun x => decide (ixL m x < 0)) = stnI l1 m from rfl]
      have hP3 : PtrS H0.length H.length H3 r c0 c1 c2 q3 u0 u1 u2 0 l1 ms1 ts1 bs := ⟨x3.blk pp, g1.n4.ext x3, g1.np, g1.p0, g1.p1, g1.p2, g1.p3⟩
      have kH3 : Keep H0.length H0 H3 := g2.ext x3
      have pp3 := hP3.pb
      have hpm3 := x3.blk hpm2
      have hbu3 := x3.blk hbu2
      by_cases hu : stnI l1 m < 0
      · rw [rm_end hu] at g4
        rw [g4] at hK
        repeat' (first | with_reducible refine iteI (fun _ => ?_) (fun _ => ?_) | ((first | unfold AOpsC | unfold AOpsD | skip); simp (maxSteps := 1000000) (disch := (first | omega | assumption | (simp only [List.length_append, List.length_cons, List.length_nil, List.length_set]; omega))) only [go_sem, Sp12, SOk, SBal, pp3, t3, t4, t6, l4, hu]))
        exact hK _ _ _ _ _ _ _ _ _ (hP3.n4.mono (by omega)) (x0.trans kH3.toExt)
      · obtain ⟨j, hj⟩ : ∃ j : Nat, stnI l1 m = j := ⟨(stnI l1 m).toNat, by omega⟩
        rw [hj]
        repeat' (first | with_reducible refine iteI (fun _ => ?_) (fun _ => ?_) | ((first | unfold AOpsC | unfold AOpsD | skip); simp (maxSteps := 1000000) (disch := (first | omega | assumption | (simp only [List.length_append, List.length_cons, List.length_nil, List.length_set]; omega))) only [go_sem, Sp12, SOk, SBal, hpm3, t3, t4, t6, l4]))
        unfold SRmp
        refine ⟨H0.length, r, c0, c1, c2, q3, u0, u1, u2, 0, l1, ms1, ts1, bs, m, j, ⟨by omega, rfl⟩, hP3, ⟨⟨bu, vu, rfl, hbu3⟩, hMm, hM1, hC1, hj⟩, fun H4 d0 d1 d2 y0 y1 y2 l2 ms2 ts2 hP4 k4 hh => ?_⟩
        obtain ⟨mu, hM2, hC2, hr2⟩ := hh
        have pp4 := hP4.pb
        have E1 : dec3 69 η' (.sl c0 u0 0 l1.length) = l1 := IsR.dec3 ⟨c0, u0, rfl, w0⟩
        have E4 : dec3 69 H4 (.sl d0 y0 0 l2.length) = l2 := IsR.dec3 ⟨d0, y0, rfl, hP4.n4.g0⟩
        repeat' (first | with_reducible refine iteI (fun _ => ?_) (fun _ => ?_) | ((first | unfold AOpsC | unfold AOpsD | skip); simp (maxSteps := 1000000) (disch := (first | omega | assumption | (simp only [List.length_append, List.length_cons, List.length_nil, List.length_set]; omega))) only [go_sem, Sp12, SOk, SBal, t3, t4, t6, l4]))
        refine ⟨⟨0, H4, d0, d1, d2, y0, y1, y2, l2, ms2, ts2, rfl, hP4, kH3.trans k4, ⟨hM2, hC2⟩, g4.trans hr2, rfl, by simp [upd, t3], by simp [upd, t4], by simp [upd, t6], by simp [upd, l4], rfl⟩, ?_⟩
        simp only [muRp, pp, pp4, E1, E4]
        exact mu
  · exact h.elim

def invRS (η : List Blk) (r : Int) (bu vu : Nat) (m : List Id3) (bs : List Int) (R : List Id3 × List Int × List Int) (st : St) : Prop := ∃ i : Nat, ∃ H : List Blk, ∃ p0 : Nat, ∃ p1 : Nat, ∃ p2 : Nat, ∃ p3 : Nat, ∃ u0 : Nat, ∃ u1 : Nat, ∃ u2 : Nat, ∃ u3 : Nat, ∃ l1 : List Id3, ∃ ms1 : List Int, ∃ ts1 : List Int, (i = 0) ∧ (Ext η H) ∧ (New4 η.length H p0 p1 p2 p3 u0 u1 u2 u3 l1 ms1 ts1 bs) ∧ (meshB r l1 = true ∧ celB r l1 ms1 ts1 bs = true) ∧ (R = rmR r m l1 ms1 ts1) ∧ st.n = 63 ∧ st.τ 3 = .loc 3 1 0 ∧ st.τ 4 = .loc 4 1 0 ∧ st.τ 6 = .loc 6 1 0 ∧ st.τ 7 = .int .i64 (stnI l1 m) ∧ st.lam 3 = ⟨1, [.int .i64 r, .sl bu vu 0 m.length]⟩ ∧ st.lam 4 = ⟨1, [.int .i64 0, .nils, .nils, .nils, .nils]⟩ ∧ st.lam 6 = ⟨1, [.int .i64 r, .sl p0 u0 0 l1.length, .sl p1 u1 0 ms1.length, .sl p2 u2 0 ts1.length, .sl p3 u3 0 bs.length]⟩ ∧ st.η = H

/- spec.RemapState -/
def Sp9 (lo : Nat) : Spec := fun g args η K => match g with | 28 => SOk args η K | 29 => SBal args η K | 30 => SCopyS args η K | 31 => SStn args η K | 32 => SWth args η K | 33 => SSpl args η K | 34 => SMgS args η K | 35 => SDp args η K | 36 => SOuter args η K | _ => False
theorem Sp9_ok {lo : Nat} : Sound Tryz.prog lo (Sp9 lo) := by
  intro g args η K h
  unfold Sp9 at h
  split at h
  · exact .inl (f28_ok h)
  · exact .inl (f29_ok h)
  · exact .inl (f30_ok h)
  · exact .inl (f31_ok h)
  · exact .inl (f32_ok h)
  · exact .inl (f33_ok h)
  · exact .inl (f34_ok h)
  · exact .inl (f35_ok h)
  · exact .inl (f36_ok h)
  · exact h.elim
def Dr9 : Draws := fun id => match id with | 10 => ([0, 0, 2, 0, 8, 0, 0, 96, 248, 504, 1022, 2047, 4095], [7, 10], [], (.one 0 (.one 1 (.one 2 (.one 3 (.one 4 (.one 5 (.one 6 (.one 7 (.one 8 (.one 9 (.one 10 (.one 11 (.one 12 .nil)))))))))))))) | _ => ([], [], [], .nil)
theorem f9_ok {lo : Nat} {args : List AV} {η : List Blk} {K : AV → List Blk → Prop} (h : SRms lo args η K) : AF Tryz.prog lo 9 args η K := by
  unfold SRms at h
  split at h
  · obtain ⟨⟨⟨⟨l, hr, hl⟩, ⟨ms, ha, hla⟩, ⟨ts, hb, hlb⟩, ⟨bs, hc, hlc⟩⟩, ⟨m, hs, hmn⟩⟩, hK1, hK2⟩ := h
    rename_i r _ _ _ _ q _
    have d1 := hr.dec3
    have d2 := ha.dec
    have d3 := hb.dec
    have d4 := hc.dec
    have o1 : ok3 69 _ _ := ⟨l, hr, hl⟩
    have o2 : okI _ _ := ⟨ms, ha, hla⟩
    have o3 : okI _ _ := ⟨ts, hb, hlb⟩
    have o4 : okI _ _ := ⟨bs, hc, hlc⟩
    have d5 := hs.dec3
    simp only [d1, d2, d3, d4, d5] at hK1 hK2
    obtain ⟨bu, vu, rfl, hbu⟩ := hs
    have hr' := hr
    have ha' := ha
    have hb' := hb
    have hc' := hc
    obtain ⟨b0, v0, rfl, hb0⟩ := hr'
    obtain ⟨b1, v1, rfl, hb1⟩ := ha'
    obtain ⟨b2, v2, rfl, hb2⟩ := hb'
    obtain ⟨b3, v3, rfl, hb3⟩ := hc'
    have o5 : ok3 69 η (.sl bu vu 0 m.length) := ⟨m, ⟨bu, vu, rfl, hbu⟩, hmn⟩
    refine AF_run Sp9_ok Dr9 [] [.cell 4 34, .tmp 5] hm Tryz.func9 rfl (by decide) Tryz.ntmps9 rfl (by kernel_rfl) (Nat.le_of_ble_eq_true rfl) ?_; intro hlo
    cases eg : rmG r l ms ts bs q m
    · have hk := hK2 eg
      cases e1 : okB r l ms ts bs
      · repeat' (first | with_reducible refine iteI (fun _ => ?_) (fun _ => ?_) | ((first | unfold AOpsC | unfold AOpsD | skip); simp (maxSteps := 1000000) (disch := (first | omega | assumption | (simp only [List.length_append, List.length_cons, List.length_nil, List.length_set]; omega))) only [go_sem, Sp9, SOk, SBal, SStn, SWth, SDp, SOuter, Dr9, hb0, hb1, hb2, hb3, d1, d2, d3, d4, o1, o2, o3, o4, hbu, d5, o5, e1]))
        exact hk _ (Ext.refl _)
      cases e2 : balB q m
      · repeat' (first | with_reducible refine iteI (fun _ => ?_) (fun _ => ?_) | ((first | unfold AOpsC | unfold AOpsD | skip); simp (maxSteps := 1000000) (disch := (first | omega | assumption | (simp only [List.length_append, List.length_cons, List.length_nil, List.length_set]; omega))) only [go_sem, Sp9, SOk, SBal, SStn, SWth, SDp, SOuter, Dr9, hb0, hb1, hb2, hb3, d1, d2, d3, d4, o1, o2, o3, o4, hbu, d5, o5, e1, e2]))
        exact hk _ (Ext.refl _)
      have e3 : ¬ q = r := fun e => by rw [rmG, e1, e2, decide_eq_true e.symm] at eg; cases eg
      repeat' (first | with_reducible refine iteI (fun _ => ?_) (fun _ => ?_) | ((first | unfold AOpsC | unfold AOpsD | skip); simp (maxSteps := 1000000) (disch := (first | omega | assumption | (simp only [List.length_append, List.length_cons, List.length_nil, List.length_set]; omega))) only [go_sem, Sp9, SOk, SBal, SStn, SWth, SDp, SOuter, Dr9, hb0, hb1, hb2, hb3, d1, d2, d3, d4, o1, o2, o3, o4, hbu, d5, o5, e1, e2, e3]))
      exact hk _ (Ext.refl _)
    · obtain ⟨e1, e2, e3⟩ := rmG_t eg
      subst e3
      have hK := hK1 eg
      obtain ⟨k1, k2, k3, k4, k5, k6, k7, k8⟩ := okT e1
      have hC : celB r l ms ts bs = true := by simp only [okB, Bool.and_eq_true] at e1; exact e1.2
      have hMm : meshB r m = true := by simp only [balB, Bool.and_eq_true] at e2; exact e2.1
      have hlm := mesh_len hMm
      repeat' (first | with_reducible refine iteI (fun _ => ?_) (fun _ => ?_) | ((first | unfold AOpsC | unfold AOpsD | skip); simp (maxSteps := 1000000) (disch := (first | omega | assumption | (simp only [List.length_append, List.length_cons, List.length_nil, List.length_set]; omega))) only [go_sem, Sp9, SOk, SBal, SStn, SWth, SDp, SOuter, Dr9, hb0, hb1, hb2, hb3, d1, d2, d3, d4, o1, o2, o3, o4, hbu, d5, o5, e1, e2]))
      refine copyN ⟨l, ms, ts, bs, ⟨⟨b0, v0, rfl, hb0⟩, ⟨b1, v1, rfl, hb1⟩, ⟨b2, v2, rfl, hb2⟩, ⟨b3, v3, rfl, hb3⟩⟩, ⟨hl, hla, hlb, hlc⟩, fun H q0 q1 q2 q3 hN x => ?_⟩
      have w0 := hN.g0
      have hbu1 := x.blk hbu
      have D1 : dec3 69 H (.sl q0 0 0 l.length) = l := IsR.dec3 ⟨q0, 0, rfl, w0⟩
      have O1 : ok3 69 H (.sl q0 0 0 l.length) := ⟨l, ⟨q0, 0, rfl, w0⟩, hl⟩
      have D5 : dec3 69 H (.sl bu vu 0 m.length) = m := IsR.dec3 ⟨bu, vu, rfl, hbu1⟩
      have O5 : ok3 69 H (.sl bu vu 0 m.length) := ⟨m, ⟨bu, vu, rfl, hbu1⟩, hmn⟩
      repeat' (first | with_reducible refine iteI (fun _ => ?_) (fun _ => ?_) | ((first | unfold AOpsC | unfold AOpsD | skip); simp (maxSteps := 1000000) (disch := (first | omega | assumption | (simp only [List.length_append, List.length_cons, List.length_nil, List.length_set]; omega))) only [go_sem, Sp9, SOk, SBal, SStn, SWth, SDp, SOuter, Dr9, D1, O1, D5, O5]))
      refine ⟨invRS η r bu vu m bs (rmR r m l ms ts), muRl r m, .inl ⟨0, H, q0, q1, q2, q3, 0, 0, 0, 0, l, ms, ts, rfl, x, hN, ⟨k1, hC⟩, rfl, rfl, by simp [upd], by simp [upd], by simp [upd], by simp [upd], by simp [upd], by simp [upd], by simp [upd], rfl⟩, ?_⟩
      clear w0 hbu1 D1 O1 D5 O5 hN x
      rintro ⟨n, τ, lam, η'⟩ ⟨i, H, p0, p1, p2, p3, u0, u1, u2, u3, l1, ms1, ts1, g0, g1, g2, g3, g4, hn, t3, t4, t6, t7, l3, l4, l6, hη⟩; simp only at hn t3 t4 t6 t7 l3 l4 l6 hη; subst hn hη
      obtain ⟨hM1, hC1⟩ := g3
      have hln := mesh_len hM1
      have w0 := g2.g0
      have hbu2 := g1.blk hbu
      have D1 : dec3 69 η' (.sl p0 u0 0 l1.length) = l1 := IsR.dec3 ⟨p0, u0, rfl, w0⟩
      have O1 : ok3 69 η' (.sl p0 u0 0 l1.length) := ⟨l1, ⟨p0, u0, rfl, w0⟩, by omega⟩
      have D5 : dec3 69 η' (.sl bu vu 0 m.length) = m := IsR.dec3 ⟨bu, vu, rfl, hbu2⟩
      have O5 : ok3 69 η' (.sl bu vu 0 m.length) := ⟨m, ⟨bu, vu, rfl, hbu2⟩, hmn⟩
      obtain ⟨c3, c4, c5, c6, c7, c8⟩ := celT hC1
      by_cases hu : 0 ≤ stnI l1 m
      · obtain ⟨j, j1, j2, hcase⟩ := rm_step (ms := ms1) (ts := ts1) hMm hM1 hC1 hu
        rw [j1] at t7
        have hw1 : wthB m ((l1.getD j (0, 0, 0)).1, (l1.getD j (0, 0, 0)).2.1, (l1.getD j (0, 0, 0)).2.2) = wthB m (l1.getD j z3) := rfl
        rcases hcase with ⟨a, bneg, f4, mu, hM2, hC2, hr2⟩ | ⟨a, k, d, z1, z2, z4, z5, z6, mu, hM2, hC2, hr2⟩
        · rw [a] at hw1
          repeat' (first | with_reducible refine iteI (fun _ => ?_) (fun _ => ?_) | ((first | unfold AOpsC | unfold AOpsD | skip); simp (maxSteps := 1000000) (disch := (first | omega | assumption | (simp only [List.length_append, List.length_cons, List.length_nil, List.length_set]; omega))) only [go_sem, Sp9, SOk, SBal, SStn, SWth, SDp, SOuter, Dr9, w0, hbu2, D1, O1, D5, O5, hw1, t3, t4, t6, t7, l3, l4, l6]))
          unfold SSpl
          refine ⟨_, _, _, bs, ⟨⟨p0, u0, rfl, g2.g0⟩, ⟨p1, u1, rfl, g2.g1⟩, ⟨p2, u2, rfl, g2.g2⟩, ⟨p3, u3, rfl, g2.g3⟩⟩, ⟨by omega, hM1, hC1, by omega, by omega, by rw [Int.toNat_natCast]; exact f4⟩, fun G d0 d1 d2 d3 y0 y1 y2 y3 hG x => ?_⟩
          rw [Int.toNat_natCast] at hG ⊢
          have hlnG := mesh_len hM2
          have y00 := hG.g0
          have hbuG := x.blk hbu2
          have DG : dec3 69 G (.sl d0 y0 0 (splitL l1 j).length) = splitL l1 j := IsR.dec3 ⟨d0, y0, rfl, y00⟩
          have OG : ok3 69 G (.sl d0 y0 0 (splitL l1 j).length) := ⟨_, ⟨d0, y0, rfl, y00⟩, by omega⟩
          have D5G : dec3 69 G (.sl bu vu 0 m.length) = m := IsR.dec3 ⟨bu, vu, rfl, hbuG⟩
          have O5G : ok3 69 G (.sl bu vu 0 m.length) := ⟨m, ⟨bu, vu, rfl, hbuG⟩, hmn⟩
          repeat' (first | with_reducible refine iteI (fun _ => ?_) (fun _ => ?_) | ((first | unfold AOpsC | unfold AOpsD | skip); simp (maxSteps := 1000000) (disch := (first | omega | assumption | (simp only [List.length_append, List.length_cons, List.length_nil, List.length_set]; omega))) only [go_sem, Sp9, SOk, SBal, SStn, SWth, SDp, SOuter, Dr9, DG, OG, D5G, O5G, t3, t4, t6, t7, l3, l4, l6]))
          refine ⟨⟨0, G, d0, d1, d2, d3, y0, y1, y2, y3, _, _, _, rfl, g1.trans x, hG.mono g1.len, ⟨hM2, hC2⟩, g4.trans hr2, rfl, by simp [upd, t3], by simp [upd, t4], by simp [upd, t6], by simp [upd], by simp [upd, l3], by simp [upd, l4], by simp [upd], rfl⟩, ?_⟩
          simp only [muRl, upd, l6, DG, D1, ↓reduceIte]
          exact mu
        · rw [a] at hw1
          have ho : (idxR m fun x => contB x ((l1.getD j (0, 0, 0)).1, (l1.getD j (0, 0, 0)).2.1, (l1.getD j (0, 0, 0)).2.2)) = k := z1
          have hd : dpI l1 ((m.getD k (0, 0, 0)).1, (m.getD k (0, 0, 0)).2.1, (m.getD k (0, 0, 0)).2.2) = d := z4
          repeat' (first | with_reducible refine iteI (fun _ => ?_) (fun _ => ?_) | ((first | unfold AOpsC | unfold AOpsD | skip); simp (maxSteps := 1000000) (disch := (first | omega | assumption | (simp only [List.length_append, List.length_cons, List.length_nil, List.length_set]; omega))) only [go_sem, Sp9, SOk, SBal, SStn, SWth, SDp, SOuter, Dr9, w0, hbu2, D1, O1, D5, O5, hw1, ho, hd, t3, t4, t6, t7, l3, l4, l6]))
          unfold SMgS
          refine ⟨l1, ms1, ts1, bs, ⟨⟨p0, u0, rfl, g2.g0⟩, ⟨p1, u1, rfl, g2.g1⟩, ⟨p2, u2, rfl, g2.g2⟩, ⟨p3, u3, rfl, g2.g3⟩⟩, ⟨by omega, by omega, hC1, by omega, by omega, by rw [Int.toNat_natCast]; exact (sib_par z6).1⟩, fun G d0 d1 d2 d3 y0 y1 y2 y3 hG x => ?_⟩
          rw [Int.toNat_natCast] at hG ⊢
          have hlnG := mesh_len hM2
          have y00 := hG.g0
          have hbuG := x.blk hbu2
          have DG : dec3 69 G (.sl d0 y0 0 (mrgL l1 d).length) = mrgL l1 d := IsR.dec3 ⟨d0, y0, rfl, y00⟩
          have OG : ok3 69 G (.sl d0 y0 0 (mrgL l1 d).length) := ⟨_, ⟨d0, y0, rfl, y00⟩, by omega⟩
          have D5G : dec3 69 G (.sl bu vu 0 m.length) = m := IsR.dec3 ⟨bu, vu, rfl, hbuG⟩
          have O5G : ok3 69 G (.sl bu vu 0 m.length) := ⟨m, ⟨bu, vu, rfl, hbuG⟩, hmn⟩
          repeat' (first | with_reducible refine iteI (fun _ => ?_) (fun _ => ?_) | ((first | unfold AOpsC | unfold AOpsD | skip); simp (maxSteps := 1000000) (disch := (first | omega | assumption | (simp only [List.length_append, List.length_cons, List.length_nil, List.length_set]; omega))) only [go_sem, Sp9, SOk, SBal, SStn, SWth, SDp, SOuter, Dr9, DG, OG, D5G, O5G, t3, t4, t6, t7, l3, l4, l6]))
          refine ⟨⟨0, G, d0, d1, d2, d3, y0, y1, y2, y3, _, _, _, rfl, g1.trans x, hG.mono g1.len, ⟨hM2, hC2⟩, g4.trans hr2, rfl, by simp [upd, t3], by simp [upd, t4], by simp [upd, t6], by simp [upd], by simp [upd, l3], by simp [upd, l4], by simp [upd], rfl⟩, ?_⟩
          simp only [muRl, upd, l6, DG, D1, ↓reduceIte]
          exact mu
      · have hu' : stnI l1 m < 0 := by omega
        rw [rm_end hu'] at g4
        rw [g4] at hK
        repeat' (first | with_reducible refine iteI (fun _ => ?_) (fun _ => ?_) | ((first | unfold AOpsC | unfold AOpsD | skip); simp (maxSteps := 1000000) (disch := (first | omega | assumption | (simp only [List.length_append, List.length_cons, List.length_nil, List.length_set]; omega))) only [go_sem, Sp9, SOk, SBal, SStn, SWth, SDp, SOuter, Dr9, t3, t4, t6, t7, l3, l4, l6]))
        exact hK _ _ _ _ _ _ _ _ _ g2 g1
  · exact h.elim

end Go.Proofs.YtaalpmbopkbdiaaGreat
