/- What functions of the program compute, said in the abstract logic; no conditions. -/
import Derived.Test.YtffefndnnbcplaaGBase
import Derived.Test.YtffefndnnbcplaaGIn
import Derived.Test.YtffefndnnbcplaaGDraw
import Derived.Test.YtffefndnnbcplaaGMesh
import Derived.Test.YtffefndnnbcplaaGIds
import Derived.Test.YtffefndnnbcplaaGEv
import Derived.Test.YtffefndnnbcplaaGRes
import Derived.Test.YtffefndnnbcplaaGBal
import Derived.Test.YtffefndnnbcplaaGCost
import Derived.Test.YtffefndnnbcplaaGMeshN
import Derived.Test.YtffefndnnbcplaaGDrawM
import Derived.Test.YtffefndnnbcplaaGDrawN
import Derived.Test.YtffefndnnbcplaaGIdx
import Derived.Test.YtffefndnnbcplaaGState
import Derived.Test.YtffefndnnbcplaaGCopy
import Derived.Test.YtffefndnnbcplaaGBalc
import Derived.Test.YtffefndnnbcplaaGBalw
import Derived.Test.YtffefndnnbcplaaGInts
import Derived.Test.YtffefndnnbcplaaGStTo
import Derived.Test.YtffefndnnbcplaaGResS
import Derived.Test.YtffefndnnbcplaaGOwn
import Derived.Test.YtffefndnnbcplaaGDrawS
import Derived.Test.YtffefndnnbcplaaGDLaw
import Derived.Test.YtffefndnnbcplaaGLake
import Derived.Test.YtffefndnnbcplaaGDiv
import Derived.Test.YtffefndnnbcplaaGShare
import Derived.Test.YtffefndnnbcplaaGFlux
import Derived.Test.YtffefndnnbcplaaGFlux2
import Derived.Test.YtffefndnnbcplaaGOut
import Derived.Test.YtffefndnnbcplaaGRem
import Derived.Test.YtffefndnnbcplaaGAct
import Derived.Test.YtffefndnnbcplaaGMove
import Derived.Test.YtffefndnnbcplaaGStepQ
import Derived.Test.YtffefndnnbcplaaGSteep
import Derived.Test.YtffefndnnbcplaaGLedP
import Derived.Test.YtffefndnnbcplaaGStepOk
import Derived.Test.YtffefndnnbcplaaGLakeP
import Derived.Test.YtffefndnnbcplaaGMoveW
import Derived.Test.YtffefndnnbcplaaGStepS
import Derived.Test.YtffefndnnbcplaaGMacP
import Derived.Test.YtffefndnnbcplaaGNb
import Derived.Test.YtffefndnnbcplaaGLvW
import Derived.Test.YtffefndnnbcplaaGSmI

namespace Go.Proofs.Ytffefndnnbcplaa
open Go
set_option linter.unusedSimpArgs false
set_option linter.unusedVariables false
set_option maxRecDepth 100000
set_option maxHeartbeats 8000000
attribute [local go_sem] st0 AC thenA andC locLoadB KsSW_same KsSW_grow oldLoadB KsOS_same KsOS_grow pv ev put upd dstOk cv cvc binI setB Value.oneCell' EndA resA resA1 List.mapM_cons List.mapM_nil Option.pure_def Option.bind_eq_bind noLocV noLoc1 noLoc noLocs plainV cellsA newVarA putCells condA lam0 inBlockA cur lenA rowA avoidsB avoidB clearB Array.toList_append Op.operands Call.operands newSlot Nat.zero_add Nat.add_zero Nat.succ_ne_self Nat.lt_add_one Nat.zero_lt_succ true_and and_true true_or or_true false_or or_false and_self true_implies forall_const Bool.false_eq_true Bool.true_eq_false false_implies implies_true imp_self ne_eq not_false_eq_true not_true_eq_false false_and and_false List.getElem?_toArray List.getElem?_cons_succ List.getElem?_cons_zero Option.bind_some Option.map_some Bool.not_true Bool.not_false List.getD_cons_zero List.getD_cons_succ Option.some.injEq exists_eq_left' AV.bool.injEq List.map_cons List.map_nil List.all_cons List.all_nil Bool.and_self Bool.and_true Bool.true_and List.append_nil List.cons_append List.nil_append List.length_cons List.length_nil List.drop_zero List.take_zero List.drop_succ_cons List.take_succ_cons List.take_nil List.drop_nil List.not_mem_nil List.mem_cons List.contains_nil List.contains_cons Bool.or_self Bool.or_true Bool.true_or Bool.false_or Bool.or_false Bool.and_false Bool.false_and KsS_same KsS_grow skipV KsS_ext KsSW_ext KsOS_ext rep1 rep2 rep3 rep4 rep5 List.flatten_cons List.flatten_nil partsA isPtr fillA List.size_toArray ltT ltF leT leF ltTn ltFn leTn leFn eqTi eqFi wrapId toNat1 intGet boolGet memD app_get app_last app_lst app_set app_setL app_setF set_ne set_eq gt_iff_lt ge_iff_le decide_eq_true_eq len2 len3 get20 get21 drop2 put2 get30 get31 get32 drop3 put3 putI pairEta bneTi bneFi beqTi beqFi bne_eq_false_iff_eq beq_eq_false_iff_ne beq_iff_eq bne_iff_ne Int.toNat_natCast Nat.mul_one List.length_map Bool.not_eq_true Bool.not_eq_false Bool.decide_eq_true decide_true decide_false Bool.not_eq_true' Bool.not_eq_false' decide_eq_false_iff_not eq_self Decidable.not_not

/- laws.FnLakes -/
def Sp13 (lo : Nat) : Spec := fun g args η K => match g with | 22 => SBig lo args η K | 52 => SSmI args η K | 59 => SLake lo args η K | 60 => SFill args η K | 61 => SMacS args η K | 62 => SRest args η K | 63 => SLw args η K | _ => False
theorem Sp13_ok {lo : Nat} : Sound Try.prog lo (Sp13 lo) := by
  intro g args η K h
  unfold Sp13 at h
  split at h
  · exact f22_ok h
  · exact f52_ok h
  · exact f59_ok h
  · exact f60_ok h
  · exact f61_ok h
  · exact f62_ok h
  · exact f63_ok h
  · exact h.elim
theorem f13_ok {lo : Nat} {args : List AV} {η : List Blk} {K : AV → List Blk → Prop} (h : SDL lo args η K) : AF Try.prog lo 13 args η K := by
  unfold SDL at h
  split at h
  · obtain ⟨g, hr, hml, hK⟩ := h
    have hn := (noLoc8 hr).1
    refine AF_run Sp13_ok D0 [] [.tmp 2] hm Try.func13 rfl (by decide) Try.ntmps13 rfl (by kernel_rfl) (Nat.le_of_ble_eq_true rfl) ?_; intro hlo
    repeat' (first | with_reducible refine iteI (fun _ => ?_) (fun _ => ?_) | ((first | unfold AOpsC | unfold AOpsD | skip); simp (maxSteps := 1000000) (disch := (first | omega | assumption | (simp only [List.length_append, List.length_cons, List.length_nil, List.length_set]; omega))) only [go_sem, ↓skipC, ↓exitC, ↓retC, ↓seqC, ↓blockC, ↓condC, ↓regC, ↓drawC, ↓drawStep, ↓AOpC, ↓AOpF, ↓AOpE, ↓AEff, ↓contE_at, ↓contC_at, ↓keepC_at, ↓keepW_at, ↓keepO_at, ↓map_parts, ↓reduceIte, reduceCtorEq, Nat.reduceLT, Nat.reduceEqDiff, Nat.reduceAdd, Nat.reduceMul, Nat.reduceLeDiff, Nat.reduceSub, Nat.reduceBEq, Nat.reduceBNe, Nat.reduceBneDiff, Nat.reduceBeqDiff, ag_26, ag_28, ag_3, ag_39, by_26, by_28, by_3, by_39, el_28, fi_39_1, in_3, nf_26, nf_39, pl_26, pl_39, ps_26, ps_39, sz_26, sz_28, sz_3, sz_39, ze_26, ze_28, ze_3, ze_39, Sp13, ↓hn]))
    unfold SBig
    refine ⟨g, hr, hml, ?_⟩
    by_cases hl : (1048576 : Int) < g.length
    · repeat' (first | with_reducible refine iteI (fun _ => ?_) (fun _ => ?_) | ((first | unfold AOpsC | unfold AOpsD | skip); simp (maxSteps := 1000000) (disch := (first | omega | assumption | (simp only [List.length_append, List.length_cons, List.length_nil, List.length_set]; omega))) only [go_sem, ↓skipC, ↓exitC, ↓retC, ↓seqC, ↓blockC, ↓condC, ↓regC, ↓drawC, ↓drawStep, ↓AOpC, ↓AOpF, ↓AOpE, ↓AEff, ↓contE_at, ↓contC_at, ↓keepC_at, ↓keepW_at, ↓keepO_at, ↓map_parts, ↓reduceIte, reduceCtorEq, Nat.reduceLT, Nat.reduceEqDiff, Nat.reduceAdd, Nat.reduceMul, Nat.reduceLeDiff, Nat.reduceSub, Nat.reduceBEq, Nat.reduceBNe, Nat.reduceBneDiff, Nat.reduceBeqDiff, ag_26, ag_28, ag_3, ag_39, by_26, by_28, by_3, by_39, el_28, fi_39_1, in_3, nf_26, nf_39, pl_26, pl_39, ps_26, ps_39, sz_26, sz_28, sz_3, sz_39, ze_26, ze_28, ze_3, ze_39, Sp13, ↓hn, hl]))
      exact hK _
    repeat' (first | with_reducible refine iteI (fun _ => ?_) (fun _ => ?_) | ((first | unfold AOpsC | unfold AOpsD | skip); simp (maxSteps := 1000000) (disch := (first | omega | assumption | (simp only [List.length_append, List.length_cons, List.length_nil, List.length_set]; omega))) only [go_sem, ↓skipC, ↓exitC, ↓retC, ↓seqC, ↓blockC, ↓condC, ↓regC, ↓drawC, ↓drawStep, ↓AOpC, ↓AOpF, ↓AOpE, ↓AEff, ↓contE_at, ↓contC_at, ↓keepC_at, ↓keepW_at, ↓keepO_at, ↓map_parts, ↓reduceIte, reduceCtorEq, Nat.reduceLT, Nat.reduceEqDiff, Nat.reduceAdd, Nat.reduceMul, Nat.reduceLeDiff, Nat.reduceSub, Nat.reduceBEq, Nat.reduceBNe, Nat.reduceBneDiff, Nat.reduceBeqDiff, ag_26, ag_28, ag_3, ag_39, by_26, by_28, by_3, by_39, el_28, fi_39_1, in_3, nf_26, nf_39, pl_26, pl_39, ps_26, ps_39, sz_26, sz_28, sz_3, sz_39, ze_26, ze_28, ze_3, ze_39, Sp13, ↓hn, hl]))
    unfold SLake
    refine ⟨g, hr, hml, fun H1 r l bs h b0 b3 v0 v3 hB hr3 hbl hbd hh q0 q3 x1 => ?_⟩
    have hm1 : meshB r l = true := by
      simp only [balB, Bool.and_eq_true] at hB
      exact hB.1
    have hln := mesh_len hm1
    repeat' (first | with_reducible refine iteI (fun _ => ?_) (fun _ => ?_) | ((first | unfold AOpsC | unfold AOpsD | skip); simp (maxSteps := 1000000) (disch := (first | omega | assumption | (simp only [List.length_append, List.length_cons, List.length_nil, List.length_set]; omega))) only [go_sem, ↓skipC, ↓exitC, ↓retC, ↓seqC, ↓blockC, ↓condC, ↓regC, ↓drawC, ↓drawStep, ↓AOpC, ↓AOpF, ↓AOpE, ↓AEff, ↓contE_at, ↓contC_at, ↓keepC_at, ↓keepW_at, ↓keepO_at, ↓map_parts, ↓reduceIte, reduceCtorEq, Nat.reduceLT, Nat.reduceEqDiff, Nat.reduceAdd, Nat.reduceMul, Nat.reduceLeDiff, Nat.reduceSub, Nat.reduceBEq, Nat.reduceBNe, Nat.reduceBneDiff, Nat.reduceBeqDiff, ag_26, ag_28, ag_3, ag_39, by_26, by_28, by_3, by_39, el_28, fi_39_1, in_3, nf_26, nf_39, pl_26, pl_39, ps_26, ps_39, sz_26, sz_28, sz_3, sz_39, ze_26, ze_28, ze_3, ze_39, Sp13]))
    unfold SFill
    refine ⟨l, bs, ⟨⟨b0, v0, rfl, q0⟩, ⟨b3, v3, rfl, q3⟩⟩, hB, hr3, hbl, hbd, hh, fun H2 c0 c1 c2 c3 u0 u1 u2 u3 hN e1 x2 => ?_⟩
    have fx : ∀ i, i + 1 < l.length → fluxI l (lkN l bs h l.length) bs i = 0 := fun i hi => lk_flux hm1 hbl hbd hh hi
    have hmac := rest_mac e1 fx 16
    have lnk := lkN_len l bs h l.length
    have lnz := zsN_len l.length
    have y0 : mcM r l (lkN l bs h l.length) (zsN l.length) bs = lkN l bs h l.length := by rw [mcM, if_pos e1, hmac]
    have y1 : mcT r l (lkN l bs h l.length) (zsN l.length) bs = zsN l.length := by rw [mcT, if_pos e1, hmac]
    have hrest : restR r l (lkN l bs h l.length) (zsN l.length) bs = true := by
      rw [restR, e1, Bool.true_and, List.all_eq_true]
      intro x hx
      rw [flxR, if_pos e1, flxN, List.mem_map] at hx
      obtain ⟨i, hi, rfl⟩ := hx
      rw [List.mem_range] at hi
      rw [fx i (by omega)]
      rfl
    have hlw : lwR r l (lkN l bs h l.length) (zsN l.length) bs 15 = true := by
      rw [lwR, e1, Bool.true_and, List.all_eq_true]
      intro i hi
      rw [List.mem_range] at hi
      have s1 := lk_surf hm1 hbl hbd hh (i := i) (by omega)
      have s2 := lk_surf hm1 hbl hbd hh (i := i + 1) (by omega)
      simp only [lwS, lvOK, Bool.and_eq_true, Bool.not_eq_true', Bool.and_eq_false_iff, decide_eq_false_iff_not]
      omega
    have i0r : IsR 45 3 enc3 H2 (.sl c0 u0 0 l.length) l := ⟨_, _, rfl, hN.g0⟩
    have i1r : IsI H2 (.sl c1 u1 0 l.length) (lkN l bs h l.length) := ⟨c1, u1, by rw [lkN_len], hN.g1⟩
    have i2r : IsI H2 (.sl c2 u2 0 l.length) (zsN l.length) := ⟨c2, u2, by rw [zsN_len], hN.g2⟩
    have i3r : IsI H2 (.sl c3 u3 0 bs.length) bs := ⟨c3, u3, rfl, hN.g3⟩
    have D1r := i0r.dec3
    have D2r := i1r.dec
    have D3r := i2r.dec
    have D4r := i3r.dec
    have O1r : ok3 45 _ _ := ⟨l, i0r, by omega⟩
    have O2r : okI _ _ := ⟨_, i1r, by omega⟩
    have O3r : okI _ _ := ⟨_, i2r, by omega⟩
    have O4r : okI _ _ := ⟨bs, i3r, by omega⟩
    repeat' (first | with_reducible refine iteI (fun _ => ?_) (fun _ => ?_) | ((first | unfold AOpsC | unfold AOpsD | skip); simp (maxSteps := 1000000) (disch := (first | omega | assumption | (simp only [List.length_append, List.length_cons, List.length_nil, List.length_set]; omega))) only [go_sem, ↓skipC, ↓exitC, ↓retC, ↓seqC, ↓blockC, ↓condC, ↓regC, ↓drawC, ↓drawStep, ↓AOpC, ↓AOpF, ↓AOpE, ↓AEff, ↓contE_at, ↓contC_at, ↓keepC_at, ↓keepW_at, ↓keepO_at, ↓map_parts, ↓reduceIte, reduceCtorEq, Nat.reduceLT, Nat.reduceEqDiff, Nat.reduceAdd, Nat.reduceMul, Nat.reduceLeDiff, Nat.reduceSub, Nat.reduceBEq, Nat.reduceBNe, Nat.reduceBneDiff, Nat.reduceBeqDiff, ag_26, ag_28, ag_3, ag_39, by_26, by_28, by_3, by_39, el_28, fi_39_1, in_3, nf_26, nf_39, pl_26, pl_39, ps_26, ps_39, sz_26, sz_28, sz_3, sz_39, ze_26, ze_28, ze_3, ze_39, Sp13, D1r, D2r, D3r, D4r, O1r, O2r, O3r, O4r]))
    unfold SMacS
    simp only [D1r, D2r, D3r, D4r, O1r, O2r, O3r, O4r, true_and, and_self]
    refine fun H3 d0 d1 d2 d3 a0 a1 a2 a3 hM x3 => ?_
    rw [y0, y1] at hM
    rw [y0, y1]
    have hN3 := hN.ext x3
    have i0p : IsR 45 3 enc3 H3 (.sl c0 u0 0 l.length) l := ⟨_, _, rfl, hN3.g0⟩
    have i1p : IsI H3 (.sl c1 u1 0 l.length) (lkN l bs h l.length) := ⟨c1, u1, by rw [lkN_len], hN3.g1⟩
    have i2p : IsI H3 (.sl c2 u2 0 l.length) (zsN l.length) := ⟨c2, u2, by rw [zsN_len], hN3.g2⟩
    have i3p : IsI H3 (.sl c3 u3 0 bs.length) bs := ⟨c3, u3, rfl, hN3.g3⟩
    have D1p := i0p.dec3
    have D2p := i1p.dec
    have D3p := i2p.dec
    have D4p := i3p.dec
    have O1p : ok3 45 _ _ := ⟨l, i0p, by omega⟩
    have O2p : okI _ _ := ⟨_, i1p, by omega⟩
    have O3p : okI _ _ := ⟨_, i2p, by omega⟩
    have O4p : okI _ _ := ⟨bs, i3p, by omega⟩
    repeat' (first | with_reducible refine iteI (fun _ => ?_) (fun _ => ?_) | ((first | unfold AOpsC | unfold AOpsD | skip); simp (maxSteps := 1000000) (disch := (first | omega | assumption | (simp only [List.length_append, List.length_cons, List.length_nil, List.length_set]; omega))) only [go_sem, ↓skipC, ↓exitC, ↓retC, ↓seqC, ↓blockC, ↓condC, ↓regC, ↓drawC, ↓drawStep, ↓AOpC, ↓AOpF, ↓AOpE, ↓AEff, ↓contE_at, ↓contC_at, ↓keepC_at, ↓keepW_at, ↓keepO_at, ↓map_parts, ↓reduceIte, reduceCtorEq, Nat.reduceLT, Nat.reduceEqDiff, Nat.reduceAdd, Nat.reduceMul, Nat.reduceLeDiff, Nat.reduceSub, Nat.reduceBEq, Nat.reduceBNe, Nat.reduceBneDiff, Nat.reduceBeqDiff, ag_26, ag_28, ag_3, ag_39, by_26, by_28, by_3, by_39, el_28, fi_39_1, in_3, nf_26, nf_39, pl_26, pl_39, ps_26, ps_39, sz_26, sz_28, sz_3, sz_39, ze_26, ze_28, ze_3, ze_39, Sp13, D1p, D2p, D3p, D4p, O1p, O2p, O3p, O4p]))
    unfold SRest
    simp only [D1p, D2p, D3p, D4p, O1p, O2p, O3p, O4p, true_and, and_self]
    refine fun H4 x4 => ?_
    rw [hrest]
    have hN4 := hN3.ext x4
    have hM4 := hM.ext x4
    have i0q : IsR 45 3 enc3 H4 (.sl c0 u0 0 l.length) l := ⟨_, _, rfl, hN4.g0⟩
    have i1q : IsI H4 (.sl c1 u1 0 l.length) (lkN l bs h l.length) := ⟨c1, u1, by rw [lkN_len], hN4.g1⟩
    have i2q : IsI H4 (.sl c2 u2 0 l.length) (zsN l.length) := ⟨c2, u2, by rw [zsN_len], hN4.g2⟩
    have i3q : IsI H4 (.sl c3 u3 0 bs.length) bs := ⟨c3, u3, rfl, hN4.g3⟩
    have D1q := i0q.dec3
    have D2q := i1q.dec
    have D3q := i2q.dec
    have D4q := i3q.dec
    have O1q : ok3 45 _ _ := ⟨l, i0q, by omega⟩
    have O2q : okI _ _ := ⟨_, i1q, by omega⟩
    have O3q : okI _ _ := ⟨_, i2q, by omega⟩
    have O4q : okI _ _ := ⟨bs, i3q, by omega⟩
    repeat' (first | with_reducible refine iteI (fun _ => ?_) (fun _ => ?_) | ((first | unfold AOpsC | unfold AOpsD | skip); simp (maxSteps := 1000000) (disch := (first | omega | assumption | (simp only [List.length_append, List.length_cons, List.length_nil, List.length_set]; omega))) only [go_sem, ↓skipC, ↓exitC, ↓retC, ↓seqC, ↓blockC, ↓condC, ↓regC, ↓drawC, ↓drawStep, ↓AOpC, ↓AOpF, ↓AOpE, ↓AEff, ↓contE_at, ↓contC_at, ↓keepC_at, ↓keepW_at, ↓keepO_at, ↓map_parts, ↓reduceIte, reduceCtorEq, Nat.reduceLT, Nat.reduceEqDiff, Nat.reduceAdd, Nat.reduceMul, Nat.reduceLeDiff, Nat.reduceSub, Nat.reduceBEq, Nat.reduceBNe, Nat.reduceBneDiff, Nat.reduceBeqDiff, ag_26, ag_28, ag_3, ag_39, by_26, by_28, by_3, by_39, el_28, fi_39_1, in_3, nf_26, nf_39, pl_26, pl_39, ps_26, ps_39, sz_26, sz_28, sz_3, sz_39, ze_26, ze_28, ze_3, ze_39, Sp13, D1q, D2q, D3q, D4q, O1q, O2q, O3q, O4q]))
    unfold SLw
    simp only [D1q, D2q, D3q, D4q, O1q, O2q, O3q, O4q, true_and, and_self]
    refine fun H5 x5 => ?_
    rw [hlw]
    have hN5 := hN4.ext x5
    have hM5 := hM4.ext x5
    have i0s : IsR 45 3 enc3 H5 (.sl c0 u0 0 l.length) l := ⟨_, _, rfl, hN5.g0⟩
    have i1s : IsI H5 (.sl c1 u1 0 l.length) (lkN l bs h l.length) := ⟨c1, u1, by rw [lkN_len], hN5.g1⟩
    have i2s : IsI H5 (.sl c2 u2 0 l.length) (zsN l.length) := ⟨c2, u2, by rw [zsN_len], hN5.g2⟩
    have i3s : IsI H5 (.sl c3 u3 0 bs.length) bs := ⟨c3, u3, rfl, hN5.g3⟩
    have D1s := i0s.dec3
    have D2s := i1s.dec
    have D3s := i2s.dec
    have D4s := i3s.dec
    have O1s : ok3 45 _ _ := ⟨l, i0s, by omega⟩
    have O2s : okI _ _ := ⟨_, i1s, by omega⟩
    have O3s : okI _ _ := ⟨_, i2s, by omega⟩
    have O4s : okI _ _ := ⟨bs, i3s, by omega⟩
    have i0x : IsR 45 3 enc3 H5 (.sl d0 a0 0 l.length) l := ⟨_, _, rfl, hM5.g0⟩
    have i1x : IsI H5 (.sl d1 a1 0 (lkN l bs h l.length).length) (lkN l bs h l.length) := ⟨d1, a1, rfl, hM5.g1⟩
    have i2x : IsI H5 (.sl d2 a2 0 (zsN l.length).length) (zsN l.length) := ⟨d2, a2, rfl, hM5.g2⟩
    have i3x : IsI H5 (.sl d3 a3 0 bs.length) bs := ⟨d3, a3, rfl, hM5.g3⟩
    have D1x := i0x.dec3
    have D2x := i1x.dec
    have D3x := i2x.dec
    have D4x := i3x.dec
    have O1x : ok3 45 _ _ := ⟨l, i0x, by omega⟩
    have O2x : okI _ _ := ⟨_, i1x, by omega⟩
    have O3x : okI _ _ := ⟨_, i2x, by omega⟩
    have O4x : okI _ _ := ⟨bs, i3x, by omega⟩
    repeat' (first | with_reducible refine iteI (fun _ => ?_) (fun _ => ?_) | ((first | unfold AOpsC | unfold AOpsD | skip); simp (maxSteps := 1000000) (disch := (first | omega | assumption | (simp only [List.length_append, List.length_cons, List.length_nil, List.length_set]; omega))) only [go_sem, ↓skipC, ↓exitC, ↓retC, ↓seqC, ↓blockC, ↓condC, ↓regC, ↓drawC, ↓drawStep, ↓AOpC, ↓AOpF, ↓AOpE, ↓AEff, ↓contE_at, ↓contC_at, ↓keepC_at, ↓keepW_at, ↓keepO_at, ↓map_parts, ↓reduceIte, reduceCtorEq, Nat.reduceLT, Nat.reduceEqDiff, Nat.reduceAdd, Nat.reduceMul, Nat.reduceLeDiff, Nat.reduceSub, Nat.reduceBEq, Nat.reduceBNe, Nat.reduceBneDiff, Nat.reduceBeqDiff, ag_26, ag_28, ag_3, ag_39, by_26, by_28, by_3, by_39, el_28, fi_39_1, in_3, nf_26, nf_39, pl_26, pl_39, ps_26, ps_39, sz_26, sz_28, sz_3, sz_39, ze_26, ze_28, ze_3, ze_39, Sp13, D1s, D2s, D3s, D4s, O1s, O2s, O3s, O4s, D1x, D2x, D3x, D4x, O1x, O2x, O3x, O4x]))
    unfold SSmI
    refine ⟨_, _, i1x, i1s, by omega, ?_⟩
    repeat' (first | with_reducible refine iteI (fun _ => ?_) (fun _ => ?_) | ((first | unfold AOpsC | unfold AOpsD | skip); simp (maxSteps := 1000000) (disch := (first | omega | assumption | (simp only [List.length_append, List.length_cons, List.length_nil, List.length_set]; omega))) only [go_sem, ↓skipC, ↓exitC, ↓retC, ↓seqC, ↓blockC, ↓condC, ↓regC, ↓drawC, ↓drawStep, ↓AOpC, ↓AOpF, ↓AOpE, ↓AEff, ↓contE_at, ↓contC_at, ↓keepC_at, ↓keepW_at, ↓keepO_at, ↓map_parts, ↓reduceIte, reduceCtorEq, Nat.reduceLT, Nat.reduceEqDiff, Nat.reduceAdd, Nat.reduceMul, Nat.reduceLeDiff, Nat.reduceSub, Nat.reduceBEq, Nat.reduceBNe, Nat.reduceBneDiff, Nat.reduceBeqDiff, ag_26, ag_28, ag_3, ag_39, by_26, by_28, by_3, by_39, el_28, fi_39_1, in_3, nf_26, nf_39, pl_26, pl_39, ps_26, ps_39, sz_26, sz_28, sz_3, sz_39, ze_26, ze_28, ze_3, ze_39, Sp13, D1s, D2s, D3s, D4s, O1s, O2s, O3s, O4s, D1x, D2x, D3x, D4x, O1x, O2x, O3x, O4x]))
    unfold SRest
    simp only [D1x, D2x, D3x, D4x, O1x, O2x, O3x, O4x, true_and, and_self]
    refine fun H6 x6 => ?_
    rw [hrest]
    repeat' (first | with_reducible refine iteI (fun _ => ?_) (fun _ => ?_) | ((first | unfold AOpsC | unfold AOpsD | skip); simp (maxSteps := 1000000) (disch := (first | omega | assumption | (simp only [List.length_append, List.length_cons, List.length_nil, List.length_set]; omega))) only [go_sem, ↓skipC, ↓exitC, ↓retC, ↓seqC, ↓blockC, ↓condC, ↓regC, ↓drawC, ↓drawStep, ↓AOpC, ↓AOpF, ↓AOpE, ↓AEff, ↓contE_at, ↓contC_at, ↓keepC_at, ↓keepW_at, ↓keepO_at, ↓map_parts, ↓reduceIte, reduceCtorEq, Nat.reduceLT, Nat.reduceEqDiff, Nat.reduceAdd, Nat.reduceMul, Nat.reduceLeDiff, Nat.reduceSub, Nat.reduceBEq, Nat.reduceBNe, Nat.reduceBneDiff, Nat.reduceBeqDiff, ag_26, ag_28, ag_3, ag_39, by_26, by_28, by_3, by_39, el_28, fi_39_1, in_3, nf_26, nf_39, pl_26, pl_39, ps_26, ps_39, sz_26, sz_28, sz_3, sz_39, ze_26, ze_28, ze_3, ze_39, Sp13]))
    exact hK _
  · exact h.elim

/- the law -/
theorem law_ok {blks : List Blk} {x0 : AV} (s0 : AvSh blks (.rows 5 1 .u8) x0) : AF Try.prog blks.length 13 [x0] blks fun v _ => v = .bool true := by
  obtain ⟨l, hl, hlm⟩ := row8 s0
  exact f13_ok (show SDL blks.length _ _ _ from ⟨l, hl, hlm, fun _ => rfl⟩)

end Go.Proofs.Ytffefndnnbcplaa
