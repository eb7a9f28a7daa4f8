/- What functions of the program compute, said in the abstract logic; no conditions. -/
import Derived.Test.YtaalpmbopkbdiaaGBase
import Derived.Test.YtaalpmbopkbdiaaGIn
import Derived.Test.YtaalpmbopkbdiaaGDraw
import Derived.Test.YtaalpmbopkbdiaaGMesh
import Derived.Test.YtaalpmbopkbdiaaGIds
import Derived.Test.YtaalpmbopkbdiaaGEv
import Derived.Test.YtaalpmbopkbdiaaGRes
import Derived.Test.YtaalpmbopkbdiaaGBal
import Derived.Test.YtaalpmbopkbdiaaGCost
import Derived.Test.YtaalpmbopkbdiaaGMeshN
import Derived.Test.YtaalpmbopkbdiaaGDrawM
import Derived.Test.YtaalpmbopkbdiaaGDrawN
import Derived.Test.YtaalpmbopkbdiaaGIdx
import Derived.Test.YtaalpmbopkbdiaaGState
import Derived.Test.YtaalpmbopkbdiaaGCopy
import Derived.Test.YtaalpmbopkbdiaaGBalc
import Derived.Test.YtaalpmbopkbdiaaGBalw
import Derived.Test.YtaalpmbopkbdiaaGInts
import Derived.Test.YtaalpmbopkbdiaaGStTo
import Derived.Test.YtaalpmbopkbdiaaGResS
import Derived.Test.YtaalpmbopkbdiaaGOwn
import Derived.Test.YtaalpmbopkbdiaaGDrawS
import Derived.Test.YtaalpmbopkbdiaaGDLaw
import Derived.Test.YtaalpmbopkbdiaaGDiv
import Derived.Test.YtaalpmbopkbdiaaGShare
import Derived.Test.YtaalpmbopkbdiaaGFlux
import Derived.Test.YtaalpmbopkbdiaaGFlux2
import Derived.Test.YtaalpmbopkbdiaaGSteep
import Derived.Test.YtaalpmbopkbdiaaGNb
import Derived.Test.YtaalpmbopkbdiaaGWish
import Derived.Test.YtaalpmbopkbdiaaGOut
import Derived.Test.YtaalpmbopkbdiaaGRem
import Derived.Test.YtaalpmbopkbdiaaGAct
import Derived.Test.YtaalpmbopkbdiaaGMove
import Derived.Test.YtaalpmbopkbdiaaGStepQ
import Derived.Test.YtaalpmbopkbdiaaGLedP
import Derived.Test.YtaalpmbopkbdiaaGStepOk
import Derived.Test.YtaalpmbopkbdiaaGSplS
import Derived.Test.YtaalpmbopkbdiaaGRepl
import Derived.Test.YtaalpmbopkbdiaaGSplI
import Derived.Test.YtaalpmbopkbdiaaGMerge
import Derived.Test.YtaalpmbopkbdiaaGMergeW
import Derived.Test.YtaalpmbopkbdiaaGCont
import Derived.Test.YtaalpmbopkbdiaaGAdP
import Derived.Test.YtaalpmbopkbdiaaGAdW
import Derived.Test.YtaalpmbopkbdiaaGAdS
import Derived.Test.YtaalpmbopkbdiaaGFiner
import Derived.Test.YtaalpmbopkbdiaaGFinP

namespace Go.Proofs.Ytaalpmbopkbdiaa
open Go
set_option linter.unusedSimpArgs false
set_option linter.unusedVariables false
set_option maxRecDepth 100000
set_option maxHeartbeats 8000000
attribute [local go_sem] st0 AC thenA andC locLoadB KsSW_same KsSW_grow oldLoadB noBlkB KsSL_same KsOS_same KsOS_grow pv ev put upd dstOk cv cvc binI setB Value.oneCell' EndA resA resA1 List.mapM_cons List.mapM_nil Option.pure_def Option.bind_eq_bind noLocV noLoc1 noLoc noLocs plainV cellsA newVarA putCells condA lam0 inBlockA cur lenA rowA writeA dstA appendC appendZ mapPut mapGet avoidsB avoidB clearB Array.toList_append Op.operands Call.operands newSlot Nat.zero_add Nat.add_zero Nat.succ_ne_self Nat.lt_add_one Nat.zero_lt_succ true_and and_true true_or or_true false_or or_false and_self true_implies forall_const Bool.false_eq_true Bool.true_eq_false false_implies implies_true imp_self ne_eq not_false_eq_true not_true_eq_false false_and and_false List.getElem?_toArray List.getElem?_cons_succ List.getElem?_cons_zero Option.bind_some Option.map_some Bool.not_true Bool.not_false List.getD_cons_zero List.getD_cons_succ Option.some.injEq exists_eq_left' AV.bool.injEq List.map_cons List.map_nil List.all_cons List.all_nil Bool.and_self Bool.and_true Bool.true_and List.append_nil List.cons_append List.nil_append List.length_cons List.length_nil List.drop_zero List.take_zero List.drop_succ_cons List.take_succ_cons List.take_nil List.drop_nil List.not_mem_nil List.mem_cons List.contains_nil List.contains_cons Bool.or_self Bool.or_true Bool.true_or Bool.false_or Bool.or_false Bool.and_false Bool.false_and KsS_same KsS_grow skipV KsS_ext KsSW_ext KsOS_ext rep1 rep2 rep3 rep4 rep5 List.flatten_cons List.flatten_nil partsA isPtr fillA List.size_toArray ltT ltF leT leF ltTn ltFn leTn leFn eqTi eqFi wrapId toNat1 intGet boolGet memD app_get app_last app_lst app_set app_setL app_setF set_ne set_eq gt_iff_lt ge_iff_le decide_eq_true_eq len2 len3 get20 get21 drop2 put2 get30 get31 get32 drop3 put3 putI pairEta bneTi bneFi beqTi beqFi bne_eq_false_iff_eq beq_eq_false_iff_ne beq_iff_eq bne_iff_ne Int.toNat_natCast Nat.mul_one List.length_map Bool.not_eq_true Bool.not_eq_false Bool.decide_eq_true decide_true decide_false Bool.not_eq_true' Bool.not_eq_false' decide_eq_false_iff_not eq_self Decidable.not_not
attribute [local go_sem ↓] skipC exitC retC seqC blockC condC regC drawC drawStep AOpC AOpF AOpE AEff contE_at contC_at keepC_at keepW_at keepO_at keepL_at map_parts
attribute [local go_sem] reduceCtorEq Nat.reduceLT Nat.reduceEqDiff Nat.reduceAdd Nat.reduceMul Nat.reduceLeDiff Nat.reduceSub Nat.reduceBEq Nat.reduceBNe Nat.reduceBneDiff Nat.reduceBeqDiff
attribute [local go_sem ↓] reduceIte
attribute [local go_sem] ag_24 ag_26 ag_27 ag_29 ag_3 ag_63 by_24 by_26 by_27 by_29 by_3 by_63 el_24 el_27 en_3 fi_26_1 fi_29_0 in_3 nf_26 nf_29 nf_63 pl_26 pl_29 pl_63 ps_26 ps_29 ps_63 sz_24 sz_26 sz_27 sz_29 sz_3 sz_63 ze_24 ze_26 ze_27 ze_29 ze_3 ze_63

theorem wshN_at (l : List Id3) (ms bs : List Int) (hi lo : Int) {n i : Nat} (h : i < n) : (wshN l ms bs hi lo n).getD i 0 = wshI l ms bs hi lo i := by
  simp [wshN, List.getD_eq_getElem?_getD, List.getElem?_map, List.getElem?_range h]
theorem ix_no {l : List Id3} {x : Id3} (h : x ∉ l) : ¬ 0 ≤ idxR l (fun y => decide (y = x)) := fun h0 => by
  obtain ⟨k, _, k2, k3⟩ := ixL_pos (l := l) (x := x) h0
  exact h (k3 ▸ getD_mem k2)
theorem fin_of {r : Int} {l m : List Id3} (h1 : meshB r l = true) (h2 : meshB r m = true) (h : FinC l m) : finB r m r l = true := by
  simp only [finB, h1, h2, decide_true, Bool.true_and, List.all_eq_true, List.any_eq_true]
  exact h

def invL (η : List Blk) (r : Int) (l : List Id3) (v a b c v2 a2 b2 c2 : AV) (bf wf : Nat) (L : List Int) (st : St) : Prop := ∃ i : Nat, (i ≤ l.length) ∧ st.n = 56 ∧ st.τ 3 = .loc 3 1 0 ∧ st.τ 5 = .loc 5 1 0 ∧ st.τ 6 = .sl bf wf 0 L.length ∧ st.τ 7 = .int .i64 i ∧ st.lam 3 = ⟨1, [.int .i64 r, v, a, b, c]⟩ ∧ st.lam 5 = ⟨1, [.int .i64 r, v2, a2, b2, c2]⟩ ∧ st.η = η

/- laws.FnRefinedWhere -/
def Sp7 (lo : Nat) : Spec := fun g args η K => match g with | 8 => SBig lo args η K | 9 => SDrawS lo args η K | 10 => SPlaces lo args η K | 34 => SAdt args η K | 35 => SWish args η K | 36 => SLeafOf args η K | 37 => SFin lo args η K | 38 => SOk args η K | _ => False
theorem Sp7_ok {lo : Nat} : Sound Try.prog lo (Sp7 lo) := by
  intro g args η K h
  unfold Sp7 at h
  split at h
  · exact .inl (f8_ok h)
  · exact .inl (f9_ok h)
  · exact .inl (f10_ok h)
  · exact .inl (f34_ok h)
  · exact .inl (f35_ok h)
  · exact .inl (f36_ok h)
  · exact .inl (f37_ok h)
  · exact .inl (f38_ok h)
  · exact h.elim
def Dr7 : Draws := fun id => match id with | 5 => ([0, 0, 2, 6, 15, 0, 63], [], [(0, 5), (1, 5), (2, 5), (3, 5), (4, 5)], (.one 5 (.one 0 (.one 1 (.one 2 (.one 3 (.one 4 (.one 6 .nil)))))))) | 6 => ([0, 0, 2, 6, 15, 31], [], [], (.one 0 (.one 1 (.one 2 (.one 3 (.one 4 (.one 5 .nil))))))) | 10 => ([0, 0, 3, 7, 15, 31, 63, 127, 63, 319, 831, 63, 3903, 7999, 16383, 32767, 65535], [], [], (.one 0 (.one 1 (.one 2 (.one 3 (.one 4 (.one 5 (.one 6 (.one 7 (.one 8 (.one 9 (.one 10 (.one 11 (.one 12 (.one 13 (.one 14 (.one 15 (.one 16 .nil)))))))))))))))))) | _ => ([], [], [], .nil)
theorem f7_ok {lo : Nat} {args : List AV} {η : List Blk} {K : AV → List Blk → Prop} (h : SDL lo args η K) : AF Try.prog lo 7 args η K := by
  unfold SDL at h
  split at h
  · obtain ⟨g, hr, hml, hK⟩ := h
    have hn := (noLoc8 hr).1
    refine AF_run Sp7_ok Dr7 [] [.tmp 2] hm Try.func7 rfl (by decide) Try.ntmps7 rfl (by kernel_rfl) (Nat.le_of_ble_eq_true rfl) ?_; intro hlo
    repeat' (first | with_reducible refine iteI (fun _ => ?_) (fun _ => ?_) | ((first | unfold AOpsC | unfold AOpsD | skip); simp (maxSteps := 1000000) (disch := (first | omega | assumption | (simp only [List.length_append, List.length_cons, List.length_nil, List.length_set]; omega))) only [go_sem, Sp7, SLeafOf, SOk, Dr7, ↓hn]))
    unfold SBig
    refine ⟨g, hr, hml, ?_⟩
    by_cases hl : (1048576 : Int) < g.length
    · repeat' (first | with_reducible refine iteI (fun _ => ?_) (fun _ => ?_) | ((first | unfold AOpsC | unfold AOpsD | skip); simp (maxSteps := 1000000) (disch := (first | omega | assumption | (simp only [List.length_append, List.length_cons, List.length_nil, List.length_set]; omega))) only [go_sem, Sp7, SLeafOf, SOk, Dr7, ↓hn, hl]))
      exact hK _
    repeat' (first | with_reducible refine iteI (fun _ => ?_) (fun _ => ?_) | ((first | unfold AOpsC | unfold AOpsD | skip); simp (maxSteps := 1000000) (disch := (first | omega | assumption | (simp only [List.length_append, List.length_cons, List.length_nil, List.length_set]; omega))) only [go_sem, Sp7, SLeafOf, SOk, Dr7, ↓hn, hl]))
    unfold SDrawS
    refine ⟨g, hr, hml, fun HS r l ms ts bs b0 b1 b2 b3 v0 v1 v2 v3 hd hN hx => ?_⟩
    have e1 := hd.1
    obtain ⟨k1, k2, k3, k4, k5, k6, k7, k8⟩ := okT e1
    have hln := mesh_len k1
    have hne := mesh_ne k1
    have hr3 := hd.2.1
    replace hr := hr.ext hx
    have w0 := hN.g0
    have w1 := hN.g1
    have w2 := hN.g2
    have w3 := hN.g3
    have D1 : dec3 63 HS (.sl b0 v0 0 l.length) = l := IsR.dec3 ⟨b0, v0, rfl, w0⟩
    have D2 : decI HS (.sl b1 v1 0 ms.length) = ms := IsI.dec ⟨b1, v1, rfl, w1⟩
    have D3 : decI HS (.sl b2 v2 0 ts.length) = ts := IsI.dec ⟨b2, v2, rfl, w2⟩
    have D4 : decI HS (.sl b3 v3 0 bs.length) = bs := IsI.dec ⟨b3, v3, rfl, w3⟩
    have O1 : ok3 63 HS (.sl b0 v0 0 l.length) := ⟨l, ⟨b0, v0, rfl, w0⟩, by omega⟩
    have O2 : okI HS (.sl b1 v1 0 ms.length) := ⟨ms, ⟨b1, v1, rfl, w1⟩, by omega⟩
    have O3 : okI HS (.sl b2 v2 0 ts.length) := ⟨ts, ⟨b2, v2, rfl, w2⟩, by omega⟩
    have O4 : okI HS (.sl b3 v3 0 bs.length) := ⟨bs, ⟨b3, v3, rfl, w3⟩, by omega⟩
    repeat' (first | with_reducible refine iteI (fun _ => ?_) (fun _ => ?_) | ((first | unfold AOpsC | unfold AOpsD | skip); simp (maxSteps := 1000000) (disch := (first | omega | assumption | (simp only [List.length_append, List.length_cons, List.length_nil, List.length_set]; omega))) only [go_sem, Sp7, SLeafOf, SOk, Dr7, ↓hn, w0, w1, w2, w3, D1, D2, D3, D4, O1, O2, O3, O4, e1]))
    unfold SPlaces
    refine ⟨g, hr, hml, fun vp HP ps hps hall hi hext => ?_⟩
    obtain ⟨bp, wp, rfl, hbp⟩ := hi
    replace hr := hr.ext hext
    have hpx : ∀ i, i < 12 → 0 ≤ ps.getD i 0 ∧ ps.getD i 0 < 10000 := fun i hi => hall _ (of_eq_true (memD (by omega)))
    replace hN := hN.ext hext
    clear w0 w1 w2 w3 D1 D2 D3 D4 O1 O2 O3 O4
    have w0 := hN.g0
    have w1 := hN.g1
    have w2 := hN.g2
    have w3 := hN.g3
    have D1 : dec3 63 HP (.sl b0 v0 0 l.length) = l := IsR.dec3 ⟨b0, v0, rfl, w0⟩
    have D2 : decI HP (.sl b1 v1 0 ms.length) = ms := IsI.dec ⟨b1, v1, rfl, w1⟩
    have D3 : decI HP (.sl b2 v2 0 ts.length) = ts := IsI.dec ⟨b2, v2, rfl, w2⟩
    have D4 : decI HP (.sl b3 v3 0 bs.length) = bs := IsI.dec ⟨b3, v3, rfl, w3⟩
    have O1 : ok3 63 HP (.sl b0 v0 0 l.length) := ⟨l, ⟨b0, v0, rfl, w0⟩, by omega⟩
    have O2 : okI HP (.sl b1 v1 0 ms.length) := ⟨ms, ⟨b1, v1, rfl, w1⟩, by omega⟩
    have O3 : okI HP (.sl b2 v2 0 ts.length) := ⟨ts, ⟨b2, v2, rfl, w2⟩, by omega⟩
    have O4 : okI HP (.sl b3 v3 0 bs.length) := ⟨bs, ⟨b3, v3, rfl, w3⟩, by omega⟩
    have x0 := hpx 0 (by omega)
    repeat' (first | with_reducible refine iteI (fun _ => ?_) (fun _ => ?_) | ((first | unfold AOpsC | unfold AOpsD | skip); simp (maxSteps := 1000000) (disch := (first | omega | assumption | (simp only [List.length_append, List.length_cons, List.length_nil, List.length_set]; omega))) only [go_sem, Sp7, SLeafOf, SOk, Dr7, w0, w1, w2, w3, D1, D2, D3, D4, O1, O2, O3, O4, e1, hbp, Int.reduceToNat, Int.toNat_zero, Int.toNat_one, Nat.zero_mul, Nat.one_mul]))
    generalize hy0 : ps.getD 0 0 = y0 at *
    unfold SAdt
    simp only [w0, w1, w2, w3, D1, D2, D3, D4, O1, O2, O3, O4, true_and, and_self]
    have hA : adS r l ms ts bs y0 0 = adB l ms ts bs y0 0 := by rw [adS, if_pos e1]; exact adR_zero
    rw [hA]
    refine fun H1 d0 d1 d2 d3 a0 a1 a2 a3 hM xu => ?_
    have ar := adB_ok (hi := y0) (lo := 0) e1
    obtain ⟨f1, f2⟩ := adB_fin (hi := y0) (lo := 0) e1
    obtain ⟨h1, h2, h3, h4, h5, h6, h7, h8⟩ := okT ar
    have hln' := mesh_len h1
    clear hA
    generalize (adB l ms ts bs y0 0).1 = l' at *
    generalize (adB l ms ts bs y0 0).2.1 = ms' at *
    generalize (adB l ms ts bs y0 0).2.2 = ts' at *
    have hN1 := hN.ext xu
    have hbp1 := xu.blk hbp
    clear w0 w1 w2 w3 D1 D2 D3 D4 O1 O2 O3 O4 hbp
    have w0 := hN1.g0
    have w1 := hN1.g1
    have w2 := hN1.g2
    have w3 := hN1.g3
    have D1 : dec3 63 H1 (.sl b0 v0 0 l.length) = l := IsR.dec3 ⟨b0, v0, rfl, w0⟩
    have D2 : decI H1 (.sl b1 v1 0 ms.length) = ms := IsI.dec ⟨b1, v1, rfl, w1⟩
    have D3 : decI H1 (.sl b2 v2 0 ts.length) = ts := IsI.dec ⟨b2, v2, rfl, w2⟩
    have D4 : decI H1 (.sl b3 v3 0 bs.length) = bs := IsI.dec ⟨b3, v3, rfl, w3⟩
    have O1 : ok3 63 H1 (.sl b0 v0 0 l.length) := ⟨l, ⟨b0, v0, rfl, w0⟩, by omega⟩
    have O2 : okI H1 (.sl b1 v1 0 ms.length) := ⟨ms, ⟨b1, v1, rfl, w1⟩, by omega⟩
    have O3 : okI H1 (.sl b2 v2 0 ts.length) := ⟨ts, ⟨b2, v2, rfl, w2⟩, by omega⟩
    have O4 : okI H1 (.sl b3 v3 0 bs.length) := ⟨bs, ⟨b3, v3, rfl, w3⟩, by omega⟩
    repeat' (first | with_reducible refine iteI (fun _ => ?_) (fun _ => ?_) | ((first | unfold AOpsC | unfold AOpsD | skip); simp (maxSteps := 1000000) (disch := (first | omega | assumption | (simp only [List.length_append, List.length_cons, List.length_nil, List.length_set]; omega))) only [go_sem, Sp7, SLeafOf, SOk, Dr7, w0, w1, w2, w3, D1, D2, D3, D4, O1, O2, O3, O4, e1, hy0, hbp1, Int.reduceToNat, Int.toNat_zero, Int.toNat_one, Nat.zero_mul, Nat.one_mul]))
    unfold SWish
    simp only [w0, w1, w2, w3, D1, D2, D3, D4, O1, O2, O3, O4, true_and, and_self]
    refine fun H2 u hu x2 => ?_
    have hwr : wshR r l ms ts bs y0 0 = wshN l ms bs y0 0 l.length := if_pos e1
    have hwl := wshN_len l ms bs y0 0 l.length
    have hwa := fun i (h : i < l.length) => wshN_at l ms bs y0 0 h
    rw [hwr] at hu
    generalize wshN l ms bs y0 0 l.length = L at *
    obtain ⟨hu, _⟩ := hu
    rcases hu with ⟨hu, hL⟩ | ⟨bf, wf, rfl, hbf⟩
    · exfalso; subst hL; simp at hwl; omega
    have hN2 := hN1.ext x2
    have hM2 := hM.ext x2
    clear w0 w1 w2 w3 D1 D2 D3 D4 O1 O2 O3 O4
    have w0 := hN2.g0
    have w1 := hN2.g1
    have w2 := hN2.g2
    have w3 := hN2.g3
    have D1 : dec3 63 H2 (.sl b0 v0 0 l.length) = l := IsR.dec3 ⟨b0, v0, rfl, w0⟩
    have D2 : decI H2 (.sl b1 v1 0 ms.length) = ms := IsI.dec ⟨b1, v1, rfl, w1⟩
    have D3 : decI H2 (.sl b2 v2 0 ts.length) = ts := IsI.dec ⟨b2, v2, rfl, w2⟩
    have D4 : decI H2 (.sl b3 v3 0 bs.length) = bs := IsI.dec ⟨b3, v3, rfl, w3⟩
    have O1 : ok3 63 H2 (.sl b0 v0 0 l.length) := ⟨l, ⟨b0, v0, rfl, w0⟩, by omega⟩
    have O2 : okI H2 (.sl b1 v1 0 ms.length) := ⟨ms, ⟨b1, v1, rfl, w1⟩, by omega⟩
    have O3 : okI H2 (.sl b2 v2 0 ts.length) := ⟨ts, ⟨b2, v2, rfl, w2⟩, by omega⟩
    have O4 : okI H2 (.sl b3 v3 0 bs.length) := ⟨bs, ⟨b3, v3, rfl, w3⟩, by omega⟩
    have w02 := hM2.g0
    have w12 := hM2.g1
    have w22 := hM2.g2
    have w32 := hM2.g3
    have D12 : dec3 63 H2 (.sl d0 a0 0 l'.length) = l' := IsR.dec3 ⟨d0, a0, rfl, w02⟩
    have D22 : decI H2 (.sl d1 a1 0 ms'.length) = ms' := IsI.dec ⟨d1, a1, rfl, w12⟩
    have D32 : decI H2 (.sl d2 a2 0 ts'.length) = ts' := IsI.dec ⟨d2, a2, rfl, w22⟩
    have D42 : decI H2 (.sl d3 a3 0 bs.length) = bs := IsI.dec ⟨d3, a3, rfl, w32⟩
    have O12 : ok3 63 H2 (.sl d0 a0 0 l'.length) := ⟨l', ⟨d0, a0, rfl, w02⟩, by omega⟩
    have O22 : okI H2 (.sl d1 a1 0 ms'.length) := ⟨ms', ⟨d1, a1, rfl, w12⟩, by omega⟩
    have O32 : okI H2 (.sl d2 a2 0 ts'.length) := ⟨ts', ⟨d2, a2, rfl, w22⟩, by omega⟩
    have O42 : okI H2 (.sl d3 a3 0 bs.length) := ⟨bs, ⟨d3, a3, rfl, w32⟩, by omega⟩
    repeat' (first | with_reducible refine iteI (fun _ => ?_) (fun _ => ?_) | ((first | unfold AOpsC | unfold AOpsD | skip); simp (maxSteps := 1000000) (disch := (first | omega | assumption | (simp only [List.length_append, List.length_cons, List.length_nil, List.length_set]; omega))) only [go_sem, Sp7, SLeafOf, SOk, Dr7, w0, w1, w2, w3, D1, D2, D3, D4, O1, O2, O3, O4, w02, w12, w22, w32, D12, D22, D32, D42, O12, O22, O32, O42, hbf]))
    refine ⟨invL H2 r l (.sl b0 v0 0 l.length) (.sl b1 v1 0 ms.length) (.sl b2 v2 0 ts.length) (.sl b3 v3 0 bs.length) (.sl d0 a0 0 l'.length) (.sl d1 a1 0 ms'.length) (.sl d2 a2 0 ts'.length) (.sl d3 a3 0 bs.length) bf wf L, fun st => ctr l.length st 7, .inl ⟨0, Nat.zero_le _, rfl, (by first | (simp [upd]; done) | (simp [upd, *]; done) | rfl), (by first | (simp [upd]; done) | (simp [upd, *]; done) | rfl), (by first | (simp [upd]; done) | (simp [upd, *]; done) | rfl), (by first | (simp [upd]; done) | (simp [upd, *]; done) | rfl), (by first | (simp [upd]; done) | (simp [upd, *]; done) | rfl), (by first | (simp [upd]; done) | (simp [upd, *]; done) | rfl), rfl⟩, ?_⟩
    rintro ⟨n, τ, lam, η'⟩ ⟨i, g0, hn, t3, t5, t6, t7, l3, l5, hη⟩; simp only at hn t3 t5 t6 t7 l3 l5 hη; subst hn hη
    by_cases hlt : i < l.length
    · by_cases c1 : L.getD i 0 = 1
      · have hno := ix_no (f2 i hlt ((hwa i hlt).symm.trans c1))
        have hno1 : ¬ 0 ≤ idxR l' (fun y => decide (y = ((l.getD i (0, 0, 0)).1, (l.getD i (0, 0, 0)).2.1, (l.getD i (0, 0, 0)).2.2))) := hno
        have hno2 : ¬ 0 ≤ idxR l' (fun y => decide (y = l.getD i (0, 0, 0))) := hno
        repeat' (first | with_reducible refine iteI (fun _ => ?_) (fun _ => ?_) | ((first | unfold AOpsC | unfold AOpsD | skip); simp (maxSteps := 1000000) (disch := (first | omega | assumption | (simp only [List.length_append, List.length_cons, List.length_nil, List.length_set]; omega))) only [go_sem, Sp7, SLeafOf, SOk, Dr7, w0, w1, w2, w3, D1, D2, D3, D4, O1, O2, O3, O4, w02, w12, w22, w32, D12, D22, D32, D42, O12, O22, O32, O42, hbf, t3, t5, t6, t7, l3, l5, c1, hno1, hno2]))
        refine ⟨⟨i + 1, hlt, rfl, (by simp [upd, t3, t5, t6, t7]), (by simp [upd, t3, t5, t6, t7]), (by simp [upd, t3, t5, t6, t7]), (by simp [upd, t3, t5, t6, t7]), (by simp [upd, l3, l5]), (by simp [upd, l3, l5]), rfl⟩, (by simp [ctr, upd, t3, t5, t6, t7]; omega)⟩
      · repeat' (first | with_reducible refine iteI (fun _ => ?_) (fun _ => ?_) | ((first | unfold AOpsC | unfold AOpsD | skip); simp (maxSteps := 1000000) (disch := (first | omega | assumption | (simp only [List.length_append, List.length_cons, List.length_nil, List.length_set]; omega))) only [go_sem, Sp7, SLeafOf, SOk, Dr7, w0, w1, w2, w3, D1, D2, D3, D4, O1, O2, O3, O4, w02, w12, w22, w32, D12, D22, D32, D42, O12, O22, O32, O42, hbf, t3, t5, t6, t7, l3, l5, c1]))
        refine ⟨⟨i + 1, hlt, rfl, (by simp [upd, t3, t5, t6, t7]), (by simp [upd, t3, t5, t6, t7]), (by simp [upd, t3, t5, t6, t7]), (by simp [upd, t3, t5, t6, t7]), (by simp [upd, l3, l5]), (by simp [upd, l3, l5]), rfl⟩, (by simp [ctr, upd, t3, t5, t6, t7]; omega)⟩
    · repeat' (first | with_reducible refine iteI (fun _ => ?_) (fun _ => ?_) | ((first | unfold AOpsC | unfold AOpsD | skip); simp (maxSteps := 1000000) (disch := (first | omega | assumption | (simp only [List.length_append, List.length_cons, List.length_nil, List.length_set]; omega))) only [go_sem, Sp7, SLeafOf, SOk, Dr7, w0, w1, w2, w3, D1, D2, D3, D4, O1, O2, O3, O4, w02, w12, w22, w32, D12, D22, D32, D42, O12, O22, O32, O42, hbf, t3, t5, t6, t7, l3, l5]))
      unfold SFin
      simp only [w0, w1, w2, w3, D1, D2, D3, D4, O1, O2, O3, O4, w02, w12, w22, w32, D12, D22, D32, D42, O12, O22, O32, O42, true_and, and_self]
      refine fun H3 x3 => ?_
      have hM3 := hM2.ext x3
      have hfin := fin_of k1 h1 f1
      have w03 := hM3.g0
      have w13 := hM3.g1
      have w23 := hM3.g2
      have w33 := hM3.g3
      have D13 : dec3 63 H3 (.sl d0 a0 0 l'.length) = l' := IsR.dec3 ⟨d0, a0, rfl, w03⟩
      have D23 : decI H3 (.sl d1 a1 0 ms'.length) = ms' := IsI.dec ⟨d1, a1, rfl, w13⟩
      have D33 : decI H3 (.sl d2 a2 0 ts'.length) = ts' := IsI.dec ⟨d2, a2, rfl, w23⟩
      have D43 : decI H3 (.sl d3 a3 0 bs.length) = bs := IsI.dec ⟨d3, a3, rfl, w33⟩
      have O13 : ok3 63 H3 (.sl d0 a0 0 l'.length) := ⟨l', ⟨d0, a0, rfl, w03⟩, by omega⟩
      have O23 : okI H3 (.sl d1 a1 0 ms'.length) := ⟨ms', ⟨d1, a1, rfl, w13⟩, by omega⟩
      have O33 : okI H3 (.sl d2 a2 0 ts'.length) := ⟨ts', ⟨d2, a2, rfl, w23⟩, by omega⟩
      have O43 : okI H3 (.sl d3 a3 0 bs.length) := ⟨bs, ⟨d3, a3, rfl, w33⟩, by omega⟩
      repeat' (first | with_reducible refine iteI (fun _ => ?_) (fun _ => ?_) | ((first | unfold AOpsC | unfold AOpsD | skip); simp (maxSteps := 1000000) (disch := (first | omega | assumption | (simp only [List.length_append, List.length_cons, List.length_nil, List.length_set]; omega))) only [go_sem, Sp7, SLeafOf, SOk, Dr7, w03, w13, w23, w33, D13, D23, D33, D43, O13, O23, O33, O43, hfin, ar, t3, t5, t6, t7, l3, l5]))
      exact hK _
  · exact h.elim

/- the law -/
theorem law_ok {blks : List Blk} {x0 : AV} (s0 : AvSh blks (.rows 5 1 .u8) x0) : AF Try.prog blks.length 7 [x0] blks fun v _ => v = .bool true := by
  obtain ⟨l, hl, hlm⟩ := row8 s0
  exact f7_ok (show SDL blks.length _ _ _ from ⟨l, hl, hlm, fun _ => rfl⟩)

end Go.Proofs.Ytaalpmbopkbdiaa
