/- What functions of the program compute, said in the abstract logic; no conditions. -/
import Derived.Test.YtffefndnnbcplaaGBase
import Derived.Test.YtffefndnnbcplaaGIn
import Derived.Test.YtffefndnnbcplaaGDraw
import Derived.Test.YtffefndnnbcplaaGMesh
import Derived.Test.YtffefndnnbcplaaGIds
import Derived.Test.YtffefndnnbcplaaGEv
import Derived.Test.YtffefndnnbcplaaGRes
import Derived.Test.YtffefndnnbcplaaGBal
import Derived.Test.YtffefndnnbcplaaGCost
import Derived.Test.YtffefndnnbcplaaGMeshN
import Derived.Test.YtffefndnnbcplaaGDrawM
import Derived.Test.YtffefndnnbcplaaGDrawN
import Derived.Test.YtffefndnnbcplaaGIdx
import Derived.Test.YtffefndnnbcplaaGState
import Derived.Test.YtffefndnnbcplaaGCopy
import Derived.Test.YtffefndnnbcplaaGBalc
import Derived.Test.YtffefndnnbcplaaGBalw
import Derived.Test.YtffefndnnbcplaaGInts
import Derived.Test.YtffefndnnbcplaaGStTo
import Derived.Test.YtffefndnnbcplaaGResS
import Derived.Test.YtffefndnnbcplaaGOwn
import Derived.Test.YtffefndnnbcplaaGDrawS
import Derived.Test.YtffefndnnbcplaaGDLaw
import Derived.Test.YtffefndnnbcplaaGDiv
import Derived.Test.YtffefndnnbcplaaGShare
import Derived.Test.YtffefndnnbcplaaGFlux
import Derived.Test.YtffefndnnbcplaaGFlux2
import Derived.Test.YtffefndnnbcplaaGSteep

namespace Go.Proofs.Ytffefndnnbcplaa
open Go
set_option linter.unusedSimpArgs false
set_option linter.unusedVariables false
set_option maxRecDepth 100000
set_option maxHeartbeats 8000000
attribute [local go_sem] st0 AC thenA andC locLoadB KsSW_same KsSW_grow pv ev put upd dstOk cv cvc binI setB Value.oneCell' EndA resA resA1 List.mapM_cons List.mapM_nil Option.pure_def Option.bind_eq_bind noLocV noLoc1 noLoc noLocs plainV cellsA newVarA putCells condA lam0 inBlockA cur lenA rowA avoidsB avoidB clearB Array.toList_append Op.operands Call.operands newSlot Nat.zero_add Nat.add_zero Nat.succ_ne_self Nat.lt_add_one Nat.zero_lt_succ true_and and_true true_or or_true false_or or_false and_self true_implies forall_const Bool.false_eq_true Bool.true_eq_false false_implies implies_true imp_self ne_eq not_false_eq_true not_true_eq_false false_and and_false List.getElem?_toArray List.getElem?_cons_succ List.getElem?_cons_zero Option.bind_some Option.map_some Bool.not_true Bool.not_false List.getD_cons_zero List.getD_cons_succ Option.some.injEq exists_eq_left' AV.bool.injEq List.map_cons List.map_nil List.all_cons List.all_nil Bool.and_self Bool.and_true Bool.true_and List.append_nil List.cons_append List.nil_append List.length_cons List.length_nil List.drop_zero List.take_zero List.drop_succ_cons List.take_succ_cons List.take_nil List.drop_nil List.not_mem_nil List.mem_cons List.contains_nil List.contains_cons Bool.or_self Bool.or_true Bool.true_or Bool.false_or Bool.or_false Bool.and_false Bool.false_and KsS_same KsS_grow skipV KsS_ext KsSW_ext rep1 rep2 rep3 rep4 rep5 List.flatten_cons List.flatten_nil partsA isPtr fillA List.size_toArray ltT ltF leT leF ltTn ltFn leTn leFn eqTi eqFi wrapId toNat1 intGet boolGet memD app_get app_last app_lst app_set app_setL app_setF set_ne set_eq gt_iff_lt ge_iff_le decide_eq_true_eq len2 len3 get20 get21 drop2 put2 get30 get31 get32 drop3 put3 putI pairEta bneTi bneFi beqTi beqFi bne_eq_false_iff_eq beq_eq_false_iff_ne beq_iff_eq bne_iff_ne Int.toNat_natCast Nat.mul_one List.length_map Bool.not_eq_true Bool.not_eq_false Bool.decide_eq_true decide_true decide_false Bool.not_eq_true' Bool.not_eq_false' decide_eq_false_iff_not eq_self Decidable.not_not
theorem gap_nn (l : List Id3) (ms bs : List Int) (i : Nat) : 0 ≤ gapN l ms bs i := by
  unfold gapN gapI
  split <;> omega
/-- The greatest gap so far, and the first face that has it. -/
theorem stp_max (l : List Id3) (ms bs : List Int) : ∀ n : Nat, (n = 0 → stpN l ms bs n = (-1, -1)) ∧ (0 < n → 0 ≤ (stpN l ms bs n).1 ∧ (stpN l ms bs n).1 < n ∧ (stpN l ms bs n).2 = gapN l ms bs (stpN l ms bs n).1.toNat) ∧
    ∀ j : Nat, j < n → gapN l ms bs j ≤ (stpN l ms bs n).2 ∧ (gapN l ms bs j = (stpN l ms bs n).2 → (stpN l ms bs n).1 ≤ j)
  | 0 => ⟨fun _ => rfl, fun h => absurd h (Nat.lt_irrefl _), fun j h => absurd h (Nat.not_lt_zero _)⟩
  | n + 1 => by
    obtain ⟨h1, h2, h3⟩ := stp_max l ms bs n
    refine ⟨fun h => by omega, fun _ => ?_, fun j hj => ?_⟩
    · rw [stpN]
      by_cases hc : (stpN l ms bs n).2 < gapN l ms bs n
      · rw [if_pos hc]
        exact ⟨by simp, by simp only; omega, by simp⟩
      · rw [if_neg hc]
        rcases Nat.eq_zero_or_pos n with h0 | h0
        · have := gap_nn l ms bs n
          rw [h1 h0] at hc
          simp only at hc
          omega
        · obtain ⟨g1, g2, g3⟩ := h2 h0
          exact ⟨g1, by omega, g3⟩
    · rw [stpN]
      by_cases hc : (stpN l ms bs n).2 < gapN l ms bs n
      · rw [if_pos hc]
        simp only
        by_cases hjn : j = n
        · subst hjn
          exact ⟨Int.le_refl _, fun _ => Int.le_refl _⟩
        · have := (h3 j (by omega)).1
          exact ⟨by omega, fun e => by omega⟩
      · rw [if_neg hc]
        by_cases hjn : j = n
        · subst hjn
          refine ⟨by omega, fun e => ?_⟩
          rcases Nat.eq_zero_or_pos j with h0 | h0
          · rw [h1 h0]; simp only; omega
          · have := h2 h0
            omega
        · exact h3 j (by omega)

theorem gap_max (a b : Int) : (if a - b < -(a - b) then -(a - b) else a - b) = gapI a b := by
  unfold gapI
  split <;> split <;> omega

def invL (η : List Blk) (r : Int) (l : List Id3) (v a b c : AV) (k : Nat) (d : Int) (st : St) : Prop := ∃ i : Nat, (i ≤ l.length - 1) ∧ st.n = 81 ∧ st.τ 3 = .loc 3 1 0 ∧ st.τ 4 = .int .i64 k ∧ st.τ 5 = .int .i64 d ∧ st.τ 6 = .int .i64 i ∧ st.lam 3 = ⟨1, [.int .i64 r, v, a, b, c]⟩ ∧ st.η = η

/- laws.FnSteepest -/
def Sp9 (lo : Nat) : Spec := fun g args η K => match g with | 22 => SBig lo args η K | 32 => SDrawS lo args η K | 33 => SFlxR args η K | 46 => SStp args η K | 47 => SSurfOf args η K | _ => False
theorem Sp9_ok {lo : Nat} : Sound Try.prog lo (Sp9 lo) := by
  intro g args η K h
  unfold Sp9 at h
  split at h
  · exact f22_ok h
  · exact f32_ok h
  · exact f33_ok h
  · exact f46_ok h
  · exact f47_ok h
  · exact h.elim
def D9 : Draws := fun id => match id with | 9 => ([0, 0, 3, 0, 0, 16, 63, 127, 255], [2], [], (.one 0 (.one 1 (.one 3 (.one 4 (.one 5 (.one 2 (.one 6 (.one 7 (.one 8 .nil)))))))))) | 14 => ([0, 0, 3, 0, 0, 16, 63, 127, 255], [2], [], (.one 0 (.one 1 (.one 3 (.one 4 (.one 5 (.one 2 (.one 6 (.one 7 (.one 8 .nil)))))))))) | _ => ([], [], [], .nil)
theorem f9_ok {lo : Nat} {args : List AV} {η : List Blk} {K : AV → List Blk → Prop} (h : SDL lo args η K) : AF Try.prog lo 9 args η K := by
  unfold SDL at h
  split at h
  · obtain ⟨g, hr, hml, hK⟩ := h
    have hn := (noLoc8 hr).1
    refine AF_run Sp9_ok D9 [] [.tmp 2] hm Try.func9 rfl (by decide) Try.ntmps9 rfl (by kernel_rfl) (Nat.le_of_ble_eq_true rfl) ?_; intro hlo
    repeat' (first | with_reducible refine iteI (fun _ => ?_) (fun _ => ?_) | ((first | unfold AOpsC | unfold AOpsD | skip); simp (maxSteps := 1000000) (disch := (first | omega | assumption | (simp only [List.length_append, List.length_cons, List.length_nil, List.length_set]; omega))) only [go_sem, ↓skipC, ↓exitC, ↓retC, ↓seqC, ↓blockC, ↓condC, ↓regC, ↓drawC, ↓drawStep, ↓AOpC, ↓AOpF, ↓AOpE, ↓AEff, ↓contE_at, ↓contC_at, ↓keepC_at, ↓keepW_at, ↓map_parts, ↓reduceIte, reduceCtorEq, Nat.reduceLT, Nat.reduceEqDiff, Nat.reduceAdd, Nat.reduceMul, Nat.reduceLeDiff, Nat.reduceSub, Nat.reduceBEq, Nat.reduceBNe, Nat.reduceBneDiff, Nat.reduceBeqDiff, ag_28, ag_3, ag_39, by_28, by_3, by_39, el_28, fi_39_1, in_3, nf_39, pl_39, ps_39, sz_28, sz_3, sz_39, ze_28, ze_3, ze_39, Sp9, SStp, SSurfOf, D9, ↓hn]))
    unfold SBig
    refine ⟨g, hr, hml, ?_⟩
    by_cases hl : (1048576 : Int) < g.length
    · repeat' (first | with_reducible refine iteI (fun _ => ?_) (fun _ => ?_) | ((first | unfold AOpsC | unfold AOpsD | skip); simp (maxSteps := 1000000) (disch := (first | omega | assumption | (simp only [List.length_append, List.length_cons, List.length_nil, List.length_set]; omega))) only [go_sem, ↓skipC, ↓exitC, ↓retC, ↓seqC, ↓blockC, ↓condC, ↓regC, ↓drawC, ↓drawStep, ↓AOpC, ↓AOpF, ↓AOpE, ↓AEff, ↓contE_at, ↓contC_at, ↓keepC_at, ↓keepW_at, ↓map_parts, ↓reduceIte, reduceCtorEq, Nat.reduceLT, Nat.reduceEqDiff, Nat.reduceAdd, Nat.reduceMul, Nat.reduceLeDiff, Nat.reduceSub, Nat.reduceBEq, Nat.reduceBNe, Nat.reduceBneDiff, Nat.reduceBeqDiff, ag_28, ag_3, ag_39, by_28, by_3, by_39, el_28, fi_39_1, in_3, nf_39, pl_39, ps_39, sz_28, sz_3, sz_39, ze_28, ze_3, ze_39, Sp9, SStp, SSurfOf, D9, ↓hn, hl]))
      exact hK _
    repeat' (first | with_reducible refine iteI (fun _ => ?_) (fun _ => ?_) | ((first | unfold AOpsC | unfold AOpsD | skip); simp (maxSteps := 1000000) (disch := (first | omega | assumption | (simp only [List.length_append, List.length_cons, List.length_nil, List.length_set]; omega))) only [go_sem, ↓skipC, ↓exitC, ↓retC, ↓seqC, ↓blockC, ↓condC, ↓regC, ↓drawC, ↓drawStep, ↓AOpC, ↓AOpF, ↓AOpE, ↓AEff, ↓contE_at, ↓contC_at, ↓keepC_at, ↓keepW_at, ↓map_parts, ↓reduceIte, reduceCtorEq, Nat.reduceLT, Nat.reduceEqDiff, Nat.reduceAdd, Nat.reduceMul, Nat.reduceLeDiff, Nat.reduceSub, Nat.reduceBEq, Nat.reduceBNe, Nat.reduceBneDiff, Nat.reduceBeqDiff, ag_28, ag_3, ag_39, by_28, by_3, by_39, el_28, fi_39_1, in_3, nf_39, pl_39, ps_39, sz_28, sz_3, sz_39, ze_28, ze_3, ze_39, Sp9, SStp, SSurfOf, D9, ↓hn, hl]))
    unfold SDrawS
    refine ⟨g, hr, hml, fun HS r l ms ts bs b0 b1 b2 b3 v0 v1 v2 v3 hd hN hx => ?_⟩
    have e1 := hd.1
    obtain ⟨k1, k2, k3, k4, k5, k6, k7, k8⟩ := okT e1
    have hln := mesh_len k1
    have hne := mesh_ne k1
    have hr3 := hd.2.1
    replace hr := hr.ext hx
    have w0 := hN.g0
    have w1 := hN.g1
    have w2 := hN.g2
    have w3 := hN.g3
    have D1 : dec3 45 HS (.sl b0 v0 0 l.length) = l := IsR.dec3 ⟨b0, v0, rfl, w0⟩
    have D2 : decI HS (.sl b1 v1 0 ms.length) = ms := IsI.dec ⟨b1, v1, rfl, w1⟩
    have D3 : decI HS (.sl b2 v2 0 ts.length) = ts := IsI.dec ⟨b2, v2, rfl, w2⟩
    have D4 : decI HS (.sl b3 v3 0 bs.length) = bs := IsI.dec ⟨b3, v3, rfl, w3⟩
    have O1 : ok3 45 HS (.sl b0 v0 0 l.length) := ⟨l, ⟨b0, v0, rfl, w0⟩, by omega⟩
    have O2 : okI HS (.sl b1 v1 0 ms.length) := ⟨ms, ⟨b1, v1, rfl, w1⟩, by omega⟩
    have O3 : okI HS (.sl b2 v2 0 ts.length) := ⟨ts, ⟨b2, v2, rfl, w2⟩, by omega⟩
    have O4 : okI HS (.sl b3 v3 0 bs.length) := ⟨bs, ⟨b3, v3, rfl, w3⟩, by omega⟩
    have hq : stpR r l ms ts bs = (stpN l ms bs (l.length - 1)).1 := if_pos e1
    obtain ⟨m1, m2, m3⟩ := stp_max l ms bs (l.length - 1)
    by_cases hone : l.length = 1
    · have q0 : stpR r l ms ts bs = -1 := by rw [hq, m1 (by omega)]
      repeat' (first | with_reducible refine iteI (fun _ => ?_) (fun _ => ?_) | ((first | unfold AOpsC | unfold AOpsD | skip); simp (maxSteps := 1000000) (disch := (first | omega | assumption | (simp only [List.length_append, List.length_cons, List.length_nil, List.length_set]; omega))) only [go_sem, ↓skipC, ↓exitC, ↓retC, ↓seqC, ↓blockC, ↓condC, ↓regC, ↓drawC, ↓drawStep, ↓AOpC, ↓AOpF, ↓AOpE, ↓AEff, ↓contE_at, ↓contC_at, ↓keepC_at, ↓keepW_at, ↓map_parts, ↓reduceIte, reduceCtorEq, Nat.reduceLT, Nat.reduceEqDiff, Nat.reduceAdd, Nat.reduceMul, Nat.reduceLeDiff, Nat.reduceSub, Nat.reduceBEq, Nat.reduceBNe, Nat.reduceBneDiff, Nat.reduceBeqDiff, ag_28, ag_3, ag_39, by_28, by_3, by_39, el_28, fi_39_1, in_3, nf_39, pl_39, ps_39, sz_28, sz_3, sz_39, ze_28, ze_3, ze_39, Sp9, SStp, SSurfOf, D9, w0, w1, w2, w3, D1, D2, D3, D4, O1, O2, O3, O4, e1, q0]))
      unfold SFlxR
      simp only [w0, w1, w2, w3, D1, D2, D3, D4, O1, O2, O3, O4, true_and, and_self]
      refine fun H' u hu x => ?_
      have hn1 := hu.1.noLoc.1
      have hL : flxR r l ms ts bs = [] := by rw [flxR, if_pos e1, hone]; rfl
      rw [hL] at hu
      obtain ⟨hu, _⟩ := hu
      rcases hu with ⟨hu, _⟩ | ⟨bf, wf, rfl, hbf⟩
      · rcases hu with rfl | rfl
        all_goals
          repeat' (first | with_reducible refine iteI (fun _ => ?_) (fun _ => ?_) | ((first | unfold AOpsC | unfold AOpsD | skip); simp (maxSteps := 1000000) (disch := (first | omega | assumption | (simp only [List.length_append, List.length_cons, List.length_nil, List.length_set]; omega))) only [go_sem, ↓skipC, ↓exitC, ↓retC, ↓seqC, ↓blockC, ↓condC, ↓regC, ↓drawC, ↓drawStep, ↓AOpC, ↓AOpF, ↓AOpE, ↓AEff, ↓contE_at, ↓contC_at, ↓keepC_at, ↓keepW_at, ↓map_parts, ↓reduceIte, reduceCtorEq, Nat.reduceLT, Nat.reduceEqDiff, Nat.reduceAdd, Nat.reduceMul, Nat.reduceLeDiff, Nat.reduceSub, Nat.reduceBEq, Nat.reduceBNe, Nat.reduceBneDiff, Nat.reduceBeqDiff, ag_28, ag_3, ag_39, by_28, by_3, by_39, el_28, fi_39_1, in_3, nf_39, pl_39, ps_39, sz_28, sz_3, sz_39, ze_28, ze_3, ze_39, Sp9, SStp, SSurfOf, D9, w0, w1, w2, w3, D1, D2, D3, D4, O1, O2, O3, O4, ↓hn1]))
          exact hK _
      · repeat' (first | with_reducible refine iteI (fun _ => ?_) (fun _ => ?_) | ((first | unfold AOpsC | unfold AOpsD | skip); simp (maxSteps := 1000000) (disch := (first | omega | assumption | (simp only [List.length_append, List.length_cons, List.length_nil, List.length_set]; omega))) only [go_sem, ↓skipC, ↓exitC, ↓retC, ↓seqC, ↓blockC, ↓condC, ↓regC, ↓drawC, ↓drawStep, ↓AOpC, ↓AOpF, ↓AOpE, ↓AEff, ↓contE_at, ↓contC_at, ↓keepC_at, ↓keepW_at, ↓map_parts, ↓reduceIte, reduceCtorEq, Nat.reduceLT, Nat.reduceEqDiff, Nat.reduceAdd, Nat.reduceMul, Nat.reduceLeDiff, Nat.reduceSub, Nat.reduceBEq, Nat.reduceBNe, Nat.reduceBneDiff, Nat.reduceBeqDiff, ag_28, ag_3, ag_39, by_28, by_3, by_39, el_28, fi_39_1, in_3, nf_39, pl_39, ps_39, sz_28, sz_3, sz_39, ze_28, ze_3, ze_39, Sp9, SStp, SSurfOf, D9, w0, w1, w2, w3, D1, D2, D3, D4, O1, O2, O3, O4, ↓hn1, hbf]))
        exact hK _
    obtain ⟨g1, g2, g3⟩ := m2 (by omega)
    obtain ⟨k, hk⟩ : ∃ k : Nat, (stpN l ms bs (l.length - 1)).1 = k := ⟨(stpN l ms bs (l.length - 1)).1.toNat, by omega⟩
    rw [hk] at hq g1 g2 g3 m3
    rw [Int.toNat_natCast] at g3
    rw [g3] at m3
    have so : ∀ j : Nat, j < l.length → surfOf r l ms ts bs (j : Int) = surfI l ms bs j := fun j hj => by
      rw [surfOf, if_pos (by simp only [atB, e1, inB, Bool.true_and, Bool.and_eq_true, decide_eq_true_eq]; omega), Int.toNat_natCast]
    have so1 : ∀ j : Nat, j + 1 < l.length → surfOf r l ms ts bs ((j : Int) + 1) = surfI l ms bs (j + 1) := fun j hj => so (j + 1) hj
    have s1 := surf_bd e1 (i := k) (by omega)
    have s2 := surf_bd e1 (i := k + 1) (by omega)
    have hgm := gap_max (surfI l ms bs k) (surfI l ms bs (k + 1))
    repeat' (first | with_reducible refine iteI (fun _ => ?_) (fun _ => ?_) | ((first | unfold AOpsC | unfold AOpsD | skip); simp (maxSteps := 1000000) (disch := (first | omega | assumption | (simp only [List.length_append, List.length_cons, List.length_nil, List.length_set]; omega))) only [go_sem, ↓skipC, ↓exitC, ↓retC, ↓seqC, ↓blockC, ↓condC, ↓regC, ↓drawC, ↓drawStep, ↓AOpC, ↓AOpF, ↓AOpE, ↓AEff, ↓contE_at, ↓contC_at, ↓keepC_at, ↓keepW_at, ↓map_parts, ↓reduceIte, reduceCtorEq, Nat.reduceLT, Nat.reduceEqDiff, Nat.reduceAdd, Nat.reduceMul, Nat.reduceLeDiff, Nat.reduceSub, Nat.reduceBEq, Nat.reduceBNe, Nat.reduceBneDiff, Nat.reduceBeqDiff, ag_28, ag_3, ag_39, by_28, by_3, by_39, el_28, fi_39_1, in_3, nf_39, pl_39, ps_39, sz_28, sz_3, sz_39, ze_28, ze_3, ze_39, Sp9, SStp, SSurfOf, D9, w0, w1, w2, w3, D1, D2, D3, D4, O1, O2, O3, O4, e1, hq, so, so1, maxStep, List.foldl_cons, List.foldl_nil, ↓hgm]))
    have gk : gapN l ms bs k = gapI (surfI l ms bs k) (surfI l ms bs (k + 1)) := rfl
    rw [gk] at m3
    generalize gapI (surfI l ms bs k) (surfI l ms bs (k + 1)) = dk at *
    refine ⟨invL HS r l (.sl b0 v0 0 l.length) (.sl b1 v1 0 ms.length) (.sl b2 v2 0 ts.length) (.sl b3 v3 0 bs.length) k dk, fun st => ctr l.length st 6, .inl ⟨0, Nat.zero_le _, rfl, (by first | (simp [upd]; done) | (simp [upd, *]; done) | rfl), (by first | (simp [upd]; done) | (simp [upd, *]; done) | rfl), (by first | (simp [upd]; done) | (simp [upd, *]; done) | rfl), (by first | (simp [upd]; done) | (simp [upd, *]; done) | rfl), (by first | (simp [upd]; done) | (simp [upd, *]; done) | rfl), rfl⟩, ?_⟩
    rintro ⟨n, τ, lam, η'⟩ ⟨i, g0, hn, t3, t4, t5, t6, l3, hη⟩; simp only at hn t3 t4 t5 t6 l3 hη; subst hn hη
    by_cases hlt : i + 1 < l.length
    · obtain ⟨n1, n2⟩ := m3 i (by omega)
      have s3 := surf_bd e1 (i := i) (by omega)
      have s4 := surf_bd e1 (i := i + 1) (by omega)
      have hgm2 := gap_max (surfI l ms bs i) (surfI l ms bs (i + 1))
      have gi : gapN l ms bs i = gapI (surfI l ms bs i) (surfI l ms bs (i + 1)) := rfl
      rw [gi] at n1 n2
      generalize hgg : gapI (surfI l ms bs i) (surfI l ms bs (i + 1)) = di at *
      by_cases heq : di = dk
      · have n3 := n2 heq
        repeat' (first | with_reducible refine iteI (fun _ => ?_) (fun _ => ?_) | ((first | unfold AOpsC | unfold AOpsD | skip); simp (maxSteps := 1000000) (disch := (first | omega | assumption | (simp only [List.length_append, List.length_cons, List.length_nil, List.length_set]; omega))) only [go_sem, ↓skipC, ↓exitC, ↓retC, ↓seqC, ↓blockC, ↓condC, ↓regC, ↓drawC, ↓drawStep, ↓AOpC, ↓AOpF, ↓AOpE, ↓AEff, ↓contE_at, ↓contC_at, ↓keepC_at, ↓keepW_at, ↓map_parts, ↓reduceIte, reduceCtorEq, Nat.reduceLT, Nat.reduceEqDiff, Nat.reduceAdd, Nat.reduceMul, Nat.reduceLeDiff, Nat.reduceSub, Nat.reduceBEq, Nat.reduceBNe, Nat.reduceBneDiff, Nat.reduceBeqDiff, ag_28, ag_3, ag_39, by_28, by_3, by_39, el_28, fi_39_1, in_3, nf_39, pl_39, ps_39, sz_28, sz_3, sz_39, ze_28, ze_3, ze_39, Sp9, SStp, SSurfOf, D9, w0, w1, w2, w3, D1, D2, D3, D4, O1, O2, O3, O4, e1, so, so1, t3, t4, t5, t6, l3, maxStep, List.foldl_cons, List.foldl_nil, ↓hgm2, heq]))
        refine ⟨⟨i + 1, by omega, rfl, (by simp [upd, t3, t4, t5, t6]), (by simp [upd, t3, t4, t5, t6]), (by simp [upd, t3, t4, t5, t6]), (by simp [upd, t3, t4, t5, t6]), (by simp [upd, l3]), rfl⟩, (by simp [ctr, upd, t3, t4, t5, t6]; omega)⟩
      · repeat' (first | with_reducible refine iteI (fun _ => ?_) (fun _ => ?_) | ((first | unfold AOpsC | unfold AOpsD | skip); simp (maxSteps := 1000000) (disch := (first | omega | assumption | (simp only [List.length_append, List.length_cons, List.length_nil, List.length_set]; omega))) only [go_sem, ↓skipC, ↓exitC, ↓retC, ↓seqC, ↓blockC, ↓condC, ↓regC, ↓drawC, ↓drawStep, ↓AOpC, ↓AOpF, ↓AOpE, ↓AEff, ↓contE_at, ↓contC_at, ↓keepC_at, ↓keepW_at, ↓map_parts, ↓reduceIte, reduceCtorEq, Nat.reduceLT, Nat.reduceEqDiff, Nat.reduceAdd, Nat.reduceMul, Nat.reduceLeDiff, Nat.reduceSub, Nat.reduceBEq, Nat.reduceBNe, Nat.reduceBneDiff, Nat.reduceBeqDiff, ag_28, ag_3, ag_39, by_28, by_3, by_39, el_28, fi_39_1, in_3, nf_39, pl_39, ps_39, sz_28, sz_3, sz_39, ze_28, ze_3, ze_39, Sp9, SStp, SSurfOf, D9, w0, w1, w2, w3, D1, D2, D3, D4, O1, O2, O3, O4, e1, so, so1, t3, t4, t5, t6, l3, maxStep, List.foldl_cons, List.foldl_nil, ↓hgm2, heq]))
        refine ⟨⟨i + 1, by omega, rfl, (by simp [upd, t3, t4, t5, t6]), (by simp [upd, t3, t4, t5, t6]), (by simp [upd, t3, t4, t5, t6]), (by simp [upd, t3, t4, t5, t6]), (by simp [upd, l3]), rfl⟩, (by simp [ctr, upd, t3, t4, t5, t6]; omega)⟩
    · repeat' (first | with_reducible refine iteI (fun _ => ?_) (fun _ => ?_) | ((first | unfold AOpsC | unfold AOpsD | skip); simp (maxSteps := 1000000) (disch := (first | omega | assumption | (simp only [List.length_append, List.length_cons, List.length_nil, List.length_set]; omega))) only [go_sem, ↓skipC, ↓exitC, ↓retC, ↓seqC, ↓blockC, ↓condC, ↓regC, ↓drawC, ↓drawStep, ↓AOpC, ↓AOpF, ↓AOpE, ↓AEff, ↓contE_at, ↓contC_at, ↓keepC_at, ↓keepW_at, ↓map_parts, ↓reduceIte, reduceCtorEq, Nat.reduceLT, Nat.reduceEqDiff, Nat.reduceAdd, Nat.reduceMul, Nat.reduceLeDiff, Nat.reduceSub, Nat.reduceBEq, Nat.reduceBNe, Nat.reduceBneDiff, Nat.reduceBeqDiff, ag_28, ag_3, ag_39, by_28, by_3, by_39, el_28, fi_39_1, in_3, nf_39, pl_39, ps_39, sz_28, sz_3, sz_39, ze_28, ze_3, ze_39, Sp9, SStp, SSurfOf, D9, w0, w1, w2, w3, D1, D2, D3, D4, O1, O2, O3, O4, e1, so, so1, t3, t4, t5, t6, l3]))
      exact hK _
  · exact h.elim

/- the law -/
theorem law_ok {blks : List Blk} {x0 : AV} (s0 : AvSh blks (.rows 5 1 .u8) x0) : AF Try.prog blks.length 9 [x0] blks fun v _ => v = .bool true := by
  obtain ⟨l, hl, hlm⟩ := row8 s0
  exact f9_ok (show SDL blks.length _ _ _ from ⟨l, hl, hlm, fun _ => rfl⟩)

end Go.Proofs.Ytffefndnnbcplaa
