/- What functions of the program compute, said in the abstract logic; no conditions. -/
import Derived.Test.YtffefndnnbcplaaGBase
import Derived.Test.YtffefndnnbcplaaGIn
import Derived.Test.YtffefndnnbcplaaGDraw
import Derived.Test.YtffefndnnbcplaaGMesh
import Derived.Test.YtffefndnnbcplaaGIds
import Derived.Test.YtffefndnnbcplaaGEv
import Derived.Test.YtffefndnnbcplaaGRes
import Derived.Test.YtffefndnnbcplaaGBal
import Derived.Test.YtffefndnnbcplaaGCost
import Derived.Test.YtffefndnnbcplaaGMeshN
import Derived.Test.YtffefndnnbcplaaGDrawM
import Derived.Test.YtffefndnnbcplaaGDrawN
import Derived.Test.YtffefndnnbcplaaGIdx
import Derived.Test.YtffefndnnbcplaaGState
import Derived.Test.YtffefndnnbcplaaGCopy
import Derived.Test.YtffefndnnbcplaaGBalc
import Derived.Test.YtffefndnnbcplaaGBalw
import Derived.Test.YtffefndnnbcplaaGInts
import Derived.Test.YtffefndnnbcplaaGStTo
import Derived.Test.YtffefndnnbcplaaGResS
import Derived.Test.YtffefndnnbcplaaGOwn
import Derived.Test.YtffefndnnbcplaaGDrawS
import Derived.Test.YtffefndnnbcplaaGDLaw
import Derived.Test.YtffefndnnbcplaaGDiv
import Derived.Test.YtffefndnnbcplaaGShare
import Derived.Test.YtffefndnnbcplaaGFlux
import Derived.Test.YtffefndnnbcplaaGFlux2

namespace Go.Proofs.Ytffefndnnbcplaa
open Go
set_option linter.unusedSimpArgs false
set_option linter.unusedVariables false
set_option maxRecDepth 100000
set_option maxHeartbeats 8000000
attribute [local go_sem] st0 AC thenA andC locLoadB KsSW_same KsSW_grow pv ev put upd dstOk cv cvc binI setB Value.oneCell' EndA resA resA1 List.mapM_cons List.mapM_nil Option.pure_def Option.bind_eq_bind noLocV noLoc1 noLoc noLocs plainV cellsA newVarA putCells condA lam0 inBlockA cur lenA rowA avoidsB avoidB clearB Array.toList_append Op.operands Call.operands newSlot Nat.zero_add Nat.add_zero Nat.succ_ne_self Nat.lt_add_one Nat.zero_lt_succ true_and and_true true_or or_true false_or or_false and_self true_implies forall_const Bool.false_eq_true Bool.true_eq_false false_implies implies_true imp_self ne_eq not_false_eq_true not_true_eq_false false_and and_false List.getElem?_toArray List.getElem?_cons_succ List.getElem?_cons_zero Option.bind_some Option.map_some Bool.not_true Bool.not_false List.getD_cons_zero List.getD_cons_succ Option.some.injEq exists_eq_left' AV.bool.injEq List.map_cons List.map_nil List.all_cons List.all_nil Bool.and_self Bool.and_true Bool.true_and List.append_nil List.cons_append List.nil_append List.length_cons List.length_nil List.drop_zero List.take_zero List.drop_succ_cons List.take_succ_cons List.take_nil List.drop_nil List.not_mem_nil List.mem_cons List.contains_nil List.contains_cons Bool.or_self Bool.or_true Bool.true_or Bool.false_or Bool.or_false Bool.and_false Bool.false_and KsS_same KsS_grow skipV KsS_ext KsSW_ext rep1 rep2 rep3 rep4 rep5 List.flatten_cons List.flatten_nil partsA isPtr fillA List.size_toArray ltT ltF leT leF ltTn ltFn leTn leFn eqTi eqFi wrapId toNat1 intGet boolGet memD app_get app_last app_lst app_set app_setL app_setF set_ne set_eq gt_iff_lt ge_iff_le decide_eq_true_eq len2 len3 get20 get21 drop2 put2 get30 get31 get32 drop3 put3 putI pairEta bneTi bneFi beqTi beqFi bne_eq_false_iff_eq beq_eq_false_iff_ne beq_iff_eq bne_iff_ne Int.toNat_natCast Nat.mul_one List.length_map Bool.not_eq_true Bool.not_eq_false Bool.decide_eq_true decide_true decide_false Bool.not_eq_true' Bool.not_eq_false' decide_eq_false_iff_not eq_self Decidable.not_not

theorem clampI_pos {n lo hi : Int} (h1 : lo ≤ 0) (h2 : 0 ≤ hi) (h : 0 ≤ n) : 0 ≤ clampI n lo hi := by
  unfold clampI
  repeat' split
  all_goals omega
theorem clampI_neg {n lo hi : Int} (h1 : lo ≤ 0) (h2 : 0 ≤ hi) (h : n ≤ 0) : clampI n lo hi ≤ 0 := by
  unfold clampI
  repeat' split
  all_goals omega
theorem wd_nn (lv : Int) : 0 ≤ wdI lv := by
  unfold wdI
  split
  · exact Int.ediv_nonneg (by omega) (Int.pow_nonneg (by omega))
  · omega
theorem tdiv_np {a b : Int} (h : a ≤ 0) (hb : 0 ≤ b) : a.tdiv b ≤ 0 := by
  have := Int.tdiv_nonneg (a := -a) (b := b) (by omega) hb
  rw [Int.neg_tdiv] at this
  omega
theorem divT_nn {a b : Int} (h : 0 ≤ a) (hb : 0 ≤ b) : 0 ≤ divT a b := by
  unfold divT
  split
  · exact Int.le_refl _
  · exact Int.tdiv_nonneg h hb
theorem divT_np {a b : Int} (h : a ≤ 0) (hb : 0 ≤ b) : divT a b ≤ 0 := by
  unfold divT
  split
  · exact Int.le_refl _
  · exact tdiv_np h hb
theorem flux_sign {r : Int} {l : List Id3} {ms ts bs : List Int} (h : okB r l ms ts bs = true) {i : Nat} (hi : i + 1 < l.length) :
    (surfI l ms bs (i + 1) ≤ surfI l ms bs i → 0 ≤ fluxI l ms bs i) ∧ (surfI l ms bs i ≤ surfI l ms bs (i + 1) → fluxI l ms bs i ≤ 0) := by
  obtain ⟨k1, k2, k3, k4, k5, k6, k7, k8⟩ := okT h
  have m1 := cells_at k7 (i := i) (by omega)
  have m2 := cells_at k7 (i := i + 1) (by omega)
  have q1 : 0 ≤ (ms.getD i 0).tdiv 4 := Int.tdiv_nonneg m1.1 (by omega)
  have q2 : 0 ≤ (ms.getD (i + 1) 0).tdiv 4 := Int.tdiv_nonneg m2.1 (by omega)
  unfold fluxI fluxP
  have w1 := wd_nn (l.getD i (0, 0, 0)).2.1
  have w2 := wd_nn (l.getD (i + 1) (0, 0, 0)).2.1
  have w3 := wd_nn (maxI (l.getD i (0, 0, 0)).2.1 (l.getD (i + 1) (0, 0, 0)).2.1)
  constructor
  · intro hs
    exact clampI_pos (by omega) q1 (divT_nn (Int.mul_nonneg (by omega) w3) (by omega))
  · intro hs
    exact clampI_neg (by omega) q1 (divT_np (Int.mul_nonpos_of_nonpos_of_nonneg (by omega) w3) (by omega))

def invL (η : List Blk) (r : Int) (l : List Id3) (v a b c : AV) (bf wf : Nat) (u : AV) (L : List Int) (st : St) : Prop := ∃ i : Nat, (i ≤ L.length) ∧ st.n = 90 ∧ st.τ 3 = .loc 3 1 0 ∧ st.τ 4 = u ∧ st.τ 5 = .int .i64 i ∧ st.lam 3 = ⟨1, [.int .i64 r, v, a, b, c]⟩ ∧ st.η = η

/- laws.FnFluxes -/
def Sp5 (lo : Nat) : Spec := fun g args η K => match g with | 22 => SBig lo args η K | 32 => SDrawS lo args η K | 33 => SFlxR args η K | 34 => SSurfOf args η K | 35 => SFaceFl args η K | _ => False
theorem Sp5_ok {lo : Nat} : Sound Try.prog lo (Sp5 lo) := by
  intro g args η K h
  unfold Sp5 at h
  split at h
  · exact f22_ok h
  · exact f32_ok h
  · exact f33_ok h
  · exact f34_ok h
  · exact f35_ok h
  · exact h.elim
theorem f5_ok {lo : Nat} {args : List AV} {η : List Blk} {K : AV → List Blk → Prop} (h : SDL lo args η K) : AF Try.prog lo 5 args η K := by
  unfold SDL at h
  split at h
  · obtain ⟨g, hr, hml, hK⟩ := h
    have hn := (noLoc8 hr).1
    refine AF_run Sp5_ok D0 [] [.tmp 2] hm Try.func5 rfl (by decide) Try.ntmps5 rfl (by kernel_rfl) (Nat.le_of_ble_eq_true rfl) ?_; intro hlo
    repeat' (first | with_reducible refine iteI (fun _ => ?_) (fun _ => ?_) | ((first | unfold AOpsC | unfold AOpsD | skip); simp (maxSteps := 1000000) (disch := (first | omega | assumption | (simp only [List.length_append, List.length_cons, List.length_nil, List.length_set]; omega))) only [go_sem, ↓skipC, ↓exitC, ↓retC, ↓seqC, ↓blockC, ↓condC, ↓regC, ↓drawC, ↓drawStep, ↓AOpC, ↓AOpF, ↓AOpE, ↓AEff, ↓contE_at, ↓contC_at, ↓keepC_at, ↓keepW_at, ↓map_parts, ↓reduceIte, reduceCtorEq, Nat.reduceLT, Nat.reduceEqDiff, Nat.reduceAdd, Nat.reduceMul, Nat.reduceLeDiff, Nat.reduceSub, Nat.reduceBEq, Nat.reduceBNe, Nat.reduceBneDiff, Nat.reduceBeqDiff, ag_28, ag_3, ag_39, by_28, by_3, by_39, el_28, fi_39_1, in_3, nf_39, pl_39, ps_39, sz_28, sz_3, sz_39, ze_28, ze_3, ze_39, Sp5, SSurfOf, SFaceFl, ↓hn]))
    unfold SBig
    refine ⟨g, hr, hml, ?_⟩
    by_cases hl : (1048576 : Int) < g.length
    · repeat' (first | with_reducible refine iteI (fun _ => ?_) (fun _ => ?_) | ((first | unfold AOpsC | unfold AOpsD | skip); simp (maxSteps := 1000000) (disch := (first | omega | assumption | (simp only [List.length_append, List.length_cons, List.length_nil, List.length_set]; omega))) only [go_sem, ↓skipC, ↓exitC, ↓retC, ↓seqC, ↓blockC, ↓condC, ↓regC, ↓drawC, ↓drawStep, ↓AOpC, ↓AOpF, ↓AOpE, ↓AEff, ↓contE_at, ↓contC_at, ↓keepC_at, ↓keepW_at, ↓map_parts, ↓reduceIte, reduceCtorEq, Nat.reduceLT, Nat.reduceEqDiff, Nat.reduceAdd, Nat.reduceMul, Nat.reduceLeDiff, Nat.reduceSub, Nat.reduceBEq, Nat.reduceBNe, Nat.reduceBneDiff, Nat.reduceBeqDiff, ag_28, ag_3, ag_39, by_28, by_3, by_39, el_28, fi_39_1, in_3, nf_39, pl_39, ps_39, sz_28, sz_3, sz_39, ze_28, ze_3, ze_39, Sp5, SSurfOf, SFaceFl, ↓hn, hl]))
      exact hK _
    repeat' (first | with_reducible refine iteI (fun _ => ?_) (fun _ => ?_) | ((first | unfold AOpsC | unfold AOpsD | skip); simp (maxSteps := 1000000) (disch := (first | omega | assumption | (simp only [List.length_append, List.length_cons, List.length_nil, List.length_set]; omega))) only [go_sem, ↓skipC, ↓exitC, ↓retC, ↓seqC, ↓blockC, ↓condC, ↓regC, ↓drawC, ↓drawStep, ↓AOpC, ↓AOpF, ↓AOpE, ↓AEff, ↓contE_at, ↓contC_at, ↓keepC_at, ↓keepW_at, ↓map_parts, ↓reduceIte, reduceCtorEq, Nat.reduceLT, Nat.reduceEqDiff, Nat.reduceAdd, Nat.reduceMul, Nat.reduceLeDiff, Nat.reduceSub, Nat.reduceBEq, Nat.reduceBNe, Nat.reduceBneDiff, Nat.reduceBeqDiff, ag_28, ag_3, ag_39, by_28, by_3, by_39, el_28, fi_39_1, in_3, nf_39, pl_39, ps_39, sz_28, sz_3, sz_39, ze_28, ze_3, ze_39, Sp5, SSurfOf, SFaceFl, ↓hn, hl]))
    unfold SDrawS
    refine ⟨g, hr, hml, fun HS r l ms ts bs b0 b1 b2 b3 v0 v1 v2 v3 hd hN hx => ?_⟩
    have e1 := hd.1
    obtain ⟨k1, k2, k3, k4, k5, k6, k7, k8⟩ := okT e1
    have hln := mesh_len k1
    have hne := mesh_ne k1
    have hr3 := hd.2.1
    replace hr := hr.ext hx
    have w0 := hN.g0
    have w1 := hN.g1
    have w2 := hN.g2
    have w3 := hN.g3
    have D1 : dec3 45 HS (.sl b0 v0 0 l.length) = l := IsR.dec3 ⟨b0, v0, rfl, w0⟩
    have D2 : decI HS (.sl b1 v1 0 ms.length) = ms := IsI.dec ⟨b1, v1, rfl, w1⟩
    have D3 : decI HS (.sl b2 v2 0 ts.length) = ts := IsI.dec ⟨b2, v2, rfl, w2⟩
    have D4 : decI HS (.sl b3 v3 0 bs.length) = bs := IsI.dec ⟨b3, v3, rfl, w3⟩
    have O1 : ok3 45 HS (.sl b0 v0 0 l.length) := ⟨l, ⟨b0, v0, rfl, w0⟩, by omega⟩
    have O2 : okI HS (.sl b1 v1 0 ms.length) := ⟨ms, ⟨b1, v1, rfl, w1⟩, by omega⟩
    have O3 : okI HS (.sl b2 v2 0 ts.length) := ⟨ts, ⟨b2, v2, rfl, w2⟩, by omega⟩
    have O4 : okI HS (.sl b3 v3 0 bs.length) := ⟨bs, ⟨b3, v3, rfl, w3⟩, by omega⟩
    repeat' (first | with_reducible refine iteI (fun _ => ?_) (fun _ => ?_) | ((first | unfold AOpsC | unfold AOpsD | skip); simp (maxSteps := 1000000) (disch := (first | omega | assumption | (simp only [List.length_append, List.length_cons, List.length_nil, List.length_set]; omega))) only [go_sem, ↓skipC, ↓exitC, ↓retC, ↓seqC, ↓blockC, ↓condC, ↓regC, ↓drawC, ↓drawStep, ↓AOpC, ↓AOpF, ↓AOpE, ↓AEff, ↓contE_at, ↓contC_at, ↓keepC_at, ↓keepW_at, ↓map_parts, ↓reduceIte, reduceCtorEq, Nat.reduceLT, Nat.reduceEqDiff, Nat.reduceAdd, Nat.reduceMul, Nat.reduceLeDiff, Nat.reduceSub, Nat.reduceBEq, Nat.reduceBNe, Nat.reduceBneDiff, Nat.reduceBeqDiff, ag_28, ag_3, ag_39, by_28, by_3, by_39, el_28, fi_39_1, in_3, nf_39, pl_39, ps_39, sz_28, sz_3, sz_39, ze_28, ze_3, ze_39, Sp5, SSurfOf, SFaceFl, w0, w1, w2, w3, D1, D2, D3, D4, O1, O2, O3, O4, e1]))
    unfold SFlxR
    simp only [w0, w1, w2, w3, D1, D2, D3, D4, O1, O2, O3, O4, true_and, and_self]
    refine fun H1 u hu xu => ?_
    have hwr : flxR r l ms ts bs = flxN l ms bs (l.length - 1) := if_pos e1
    have hwl := flxN_len l ms bs (l.length - 1)
    have hwa : ∀ i, i + 1 < l.length → (flxN l ms bs (l.length - 1)).getD i 0 = fluxI l ms bs i := fun i h => by
      simp [flxN, List.getD_eq_getElem?_getD, List.getElem?_map, List.getElem?_range (show i < l.length - 1 by omega)]
    rw [hwr] at hu
    generalize flxN l ms bs (l.length - 1) = L at *
    have hn1 := hu.1.noLoc.1
    obtain ⟨hu, _⟩ := hu
    have hN1 := hN.ext xu
    clear w0 w1 w2 w3 D1 D2 D3 D4 O1 O2 O3 O4
    have w0 := hN1.g0
    have w1 := hN1.g1
    have w2 := hN1.g2
    have w3 := hN1.g3
    have D1 : dec3 45 H1 (.sl b0 v0 0 l.length) = l := IsR.dec3 ⟨b0, v0, rfl, w0⟩
    have D2 : decI H1 (.sl b1 v1 0 ms.length) = ms := IsI.dec ⟨b1, v1, rfl, w1⟩
    have D3 : decI H1 (.sl b2 v2 0 ts.length) = ts := IsI.dec ⟨b2, v2, rfl, w2⟩
    have D4 : decI H1 (.sl b3 v3 0 bs.length) = bs := IsI.dec ⟨b3, v3, rfl, w3⟩
    have O1 : ok3 45 H1 (.sl b0 v0 0 l.length) := ⟨l, ⟨b0, v0, rfl, w0⟩, by omega⟩
    have O2 : okI H1 (.sl b1 v1 0 ms.length) := ⟨ms, ⟨b1, v1, rfl, w1⟩, by omega⟩
    have O3 : okI H1 (.sl b2 v2 0 ts.length) := ⟨ts, ⟨b2, v2, rfl, w2⟩, by omega⟩
    have O4 : okI H1 (.sl b3 v3 0 bs.length) := ⟨bs, ⟨b3, v3, rfl, w3⟩, by omega⟩
    have soz : surfOf r l ms ts bs (l.length : Int) = 0 := by
      rw [surfOf, if_neg (by simp only [atB, e1, inB, Bool.true_and, Bool.and_eq_true, decide_eq_true_eq]; omega)]
    have soz' : surfOf r l ms ts bs (ms.length : Int) = 0 := by rw [k3]; exact soz
    rcases hu with ⟨hu, hL⟩ | ⟨bf, wf, rfl, hbf⟩
    · subst hL
      simp at hwl
      rcases hu with rfl | rfl
      all_goals
        repeat' (first | with_reducible refine iteI (fun _ => ?_) (fun _ => ?_) | ((first | unfold AOpsC | unfold AOpsD | skip); simp (maxSteps := 1000000) (disch := (first | omega | assumption | (simp only [List.length_append, List.length_cons, List.length_nil, List.length_set]; omega))) only [go_sem, ↓skipC, ↓exitC, ↓retC, ↓seqC, ↓blockC, ↓condC, ↓regC, ↓drawC, ↓drawStep, ↓AOpC, ↓AOpF, ↓AOpE, ↓AEff, ↓contE_at, ↓contC_at, ↓keepC_at, ↓keepW_at, ↓map_parts, ↓reduceIte, reduceCtorEq, Nat.reduceLT, Nat.reduceEqDiff, Nat.reduceAdd, Nat.reduceMul, Nat.reduceLeDiff, Nat.reduceSub, Nat.reduceBEq, Nat.reduceBNe, Nat.reduceBneDiff, Nat.reduceBeqDiff, ag_28, ag_3, ag_39, by_28, by_3, by_39, el_28, fi_39_1, in_3, nf_39, pl_39, ps_39, sz_28, sz_3, sz_39, ze_28, ze_3, ze_39, Sp5, SSurfOf, SFaceFl, w0, w1, w2, w3, D1, D2, D3, D4, O1, O2, O3, O4, ↓hn1]))
        refine ⟨invL H1 r l (.sl b0 v0 0 l.length) (.sl b1 v1 0 ms.length) (.sl b2 v2 0 ts.length) (.sl b3 v3 0 bs.length) 0 0 _ [], fun st => ctr l.length st 5, .inl ⟨0, Nat.zero_le _, rfl, (by first | (simp [upd]; done) | (simp [upd, *]; done) | rfl), (by first | (simp [upd]; done) | (simp [upd, *]; done) | rfl), (by first | (simp [upd]; done) | (simp [upd, *]; done) | rfl), (by first | (simp [upd]; done) | (simp [upd, *]; done) | rfl), rfl⟩, ?_⟩
        rintro ⟨n, τ, lam, η'⟩ ⟨i, g0, hn, t3, t4, t5, l3, hη⟩; simp only at hn t3 t4 t5 l3 hη; subst hn hη
        obtain rfl : i = 0 := by simpa using g0
        repeat' (first | with_reducible refine iteI (fun _ => ?_) (fun _ => ?_) | ((first | unfold AOpsC | unfold AOpsD | skip); simp (maxSteps := 1000000) (disch := (first | omega | assumption | (simp only [List.length_append, List.length_cons, List.length_nil, List.length_set]; omega))) only [go_sem, ↓skipC, ↓exitC, ↓retC, ↓seqC, ↓blockC, ↓condC, ↓regC, ↓drawC, ↓drawStep, ↓AOpC, ↓AOpF, ↓AOpE, ↓AEff, ↓contE_at, ↓contC_at, ↓keepC_at, ↓keepW_at, ↓map_parts, ↓reduceIte, reduceCtorEq, Nat.reduceLT, Nat.reduceEqDiff, Nat.reduceAdd, Nat.reduceMul, Nat.reduceLeDiff, Nat.reduceSub, Nat.reduceBEq, Nat.reduceBNe, Nat.reduceBneDiff, Nat.reduceBeqDiff, ag_28, ag_3, ag_39, by_28, by_3, by_39, el_28, fi_39_1, in_3, nf_39, pl_39, ps_39, sz_28, sz_3, sz_39, ze_28, ze_3, ze_39, Sp5, SSurfOf, SFaceFl, w0, w1, w2, w3, D1, D2, D3, D4, O1, O2, O3, O4, t3, t4, t5, l3, soz']))
        exact hK _
    · repeat' (first | with_reducible refine iteI (fun _ => ?_) (fun _ => ?_) | ((first | unfold AOpsC | unfold AOpsD | skip); simp (maxSteps := 1000000) (disch := (first | omega | assumption | (simp only [List.length_append, List.length_cons, List.length_nil, List.length_set]; omega))) only [go_sem, ↓skipC, ↓exitC, ↓retC, ↓seqC, ↓blockC, ↓condC, ↓regC, ↓drawC, ↓drawStep, ↓AOpC, ↓AOpF, ↓AOpE, ↓AEff, ↓contE_at, ↓contC_at, ↓keepC_at, ↓keepW_at, ↓map_parts, ↓reduceIte, reduceCtorEq, Nat.reduceLT, Nat.reduceEqDiff, Nat.reduceAdd, Nat.reduceMul, Nat.reduceLeDiff, Nat.reduceSub, Nat.reduceBEq, Nat.reduceBNe, Nat.reduceBneDiff, Nat.reduceBeqDiff, ag_28, ag_3, ag_39, by_28, by_3, by_39, el_28, fi_39_1, in_3, nf_39, pl_39, ps_39, sz_28, sz_3, sz_39, ze_28, ze_3, ze_39, Sp5, SSurfOf, SFaceFl, w0, w1, w2, w3, D1, D2, D3, D4, O1, O2, O3, O4, ↓hn1, hbf]))
      refine ⟨invL H1 r l (.sl b0 v0 0 l.length) (.sl b1 v1 0 ms.length) (.sl b2 v2 0 ts.length) (.sl b3 v3 0 bs.length) 0 0 (.sl bf wf 0 L.length) L, fun st => ctr l.length st 5, .inl ⟨0, Nat.zero_le _, rfl, (by first | (simp [upd]; done) | (simp [upd, *]; done) | rfl), (by first | (simp [upd]; done) | (simp [upd, *]; done) | rfl), (by first | (simp [upd]; done) | (simp [upd, *]; done) | rfl), (by first | (simp [upd]; done) | (simp [upd, *]; done) | rfl), rfl⟩, ?_⟩
      rintro ⟨n, τ, lam, η'⟩ ⟨i, g0, hn, t3, t4, t5, l3, hη⟩; simp only at hn t3 t4 t5 l3 hη; subst hn hη
      by_cases hlt : i < L.length
      · have hlt2 : i + 1 < l.length := by omega
        have so : surfOf r l ms ts bs (i : Int) = surfI l ms bs i := by
          rw [surfOf, if_pos (by simp only [atB, e1, inB, Bool.true_and, Bool.and_eq_true, decide_eq_true_eq]; omega), Int.toNat_natCast]
        have so1 : surfOf r l ms ts bs ((i : Int) + 1) = surfI l ms bs (i + 1) := by
          rw [surfOf, if_pos (by simp only [atB, e1, inB, Bool.true_and, Bool.and_eq_true, decide_eq_true_eq]; omega)]; rfl
        have ff : faceFl r l ms ts bs (i : Int) = fluxI l ms bs i := by
          rw [faceFl, if_pos (by simp only [faceB, e1, inB, Bool.true_and, Bool.and_eq_true, decide_eq_true_eq]; omega), Int.toNat_natCast]
        have hv := hwa i hlt2
        obtain ⟨f1, f2⟩ := flux_bd e1 hlt2
        obtain ⟨f3, f4⟩ := flux_sign e1 hlt2
        have m1 := cells_at k7 (i := i) (by omega)
        have m2 := cells_at k7 (i := i + 1) (by omega)
        have t1 := tdiv_bd (a := ms.getD i 0) (b := 4) (X := 10000000) (by omega) (by omega)
        have t2 := tdiv_bd (a := ms.getD (i + 1) 0) (b := 4) (X := 10000000) (by omega) (by omega)
        have s1 := surf_bd e1 (i := i) (by omega)
        have s2 := surf_bd e1 (i := i + 1) (by omega)
        have hge : (surfI l ms bs (i + 1) ≤ surfI l ms bs i) ∨ ¬ (surfI l ms bs (i + 1) ≤ surfI l ms bs i) := by omega
        have hle : (surfI l ms bs i ≤ surfI l ms bs (i + 1)) ∨ ¬ (surfI l ms bs i ≤ surfI l ms bs (i + 1)) := by omega
        generalize hfx : fluxI l ms bs i = fx at *
        generalize surfI l ms bs i = sa at *
        generalize surfI l ms bs (i + 1) = sb at *
        rcases hge with h1 | h1 <;> rcases hle with h2 | h2
        all_goals
          repeat' (first | with_reducible refine iteI (fun _ => ?_) (fun _ => ?_) | ((first | unfold AOpsC | unfold AOpsD | skip); simp (maxSteps := 1000000) (disch := (first | omega | assumption | (simp only [List.length_append, List.length_cons, List.length_nil, List.length_set]; omega))) only [go_sem, ↓skipC, ↓exitC, ↓retC, ↓seqC, ↓blockC, ↓condC, ↓regC, ↓drawC, ↓drawStep, ↓AOpC, ↓AOpF, ↓AOpE, ↓AEff, ↓contE_at, ↓contC_at, ↓keepC_at, ↓keepW_at, ↓map_parts, ↓reduceIte, reduceCtorEq, Nat.reduceLT, Nat.reduceEqDiff, Nat.reduceAdd, Nat.reduceMul, Nat.reduceLeDiff, Nat.reduceSub, Nat.reduceBEq, Nat.reduceBNe, Nat.reduceBneDiff, Nat.reduceBeqDiff, ag_28, ag_3, ag_39, by_28, by_3, by_39, el_28, fi_39_1, in_3, nf_39, pl_39, ps_39, sz_28, sz_3, sz_39, ze_28, ze_3, ze_39, Sp5, SSurfOf, SFaceFl, w0, w1, w2, w3, D1, D2, D3, D4, O1, O2, O3, O4, t3, t4, t5, l3, hbf, so, so1, ff, hv]))
        all_goals first | (exfalso; omega) | skip
        all_goals
          refine ⟨⟨i + 1, hlt, rfl, (by simp [upd, t3, t4, t5]), (by simp [upd, t3, t4, t5]), (by simp [upd, t3, t4, t5]), (by simp [upd, l3]), rfl⟩, (by simp [ctr, upd, t3, t4, t5]; omega)⟩
      · repeat' (first | with_reducible refine iteI (fun _ => ?_) (fun _ => ?_) | ((first | unfold AOpsC | unfold AOpsD | skip); simp (maxSteps := 1000000) (disch := (first | omega | assumption | (simp only [List.length_append, List.length_cons, List.length_nil, List.length_set]; omega))) only [go_sem, ↓skipC, ↓exitC, ↓retC, ↓seqC, ↓blockC, ↓condC, ↓regC, ↓drawC, ↓drawStep, ↓AOpC, ↓AOpF, ↓AOpE, ↓AEff, ↓contE_at, ↓contC_at, ↓keepC_at, ↓keepW_at, ↓map_parts, ↓reduceIte, reduceCtorEq, Nat.reduceLT, Nat.reduceEqDiff, Nat.reduceAdd, Nat.reduceMul, Nat.reduceLeDiff, Nat.reduceSub, Nat.reduceBEq, Nat.reduceBNe, Nat.reduceBneDiff, Nat.reduceBeqDiff, ag_28, ag_3, ag_39, by_28, by_3, by_39, el_28, fi_39_1, in_3, nf_39, pl_39, ps_39, sz_28, sz_3, sz_39, ze_28, ze_3, ze_39, Sp5, SSurfOf, SFaceFl, w0, w1, w2, w3, D1, D2, D3, D4, O1, O2, O3, O4, t3, t4, t5, l3, hbf, soz']))
        exact hK _
  · exact h.elim

/- the law -/
theorem law_ok {blks : List Blk} {x0 : AV} (s0 : AvSh blks (.rows 5 1 .u8) x0) : AF Try.prog blks.length 5 [x0] blks fun v _ => v = .bool true := by
  obtain ⟨l, hl, hlm⟩ := row8 s0
  exact f5_ok (show SDL blks.length _ _ _ from ⟨l, hl, hlm, fun _ => rfl⟩)

end Go.Proofs.Ytffefndnnbcplaa
