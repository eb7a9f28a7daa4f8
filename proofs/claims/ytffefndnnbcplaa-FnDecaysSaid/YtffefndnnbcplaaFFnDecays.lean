/- What functions of the program compute, said in the abstract logic; no conditions. -/
import Derived.Test.YtffefndnnbcplaaGBase
import Derived.Test.YtffefndnnbcplaaGIn
import Derived.Test.YtffefndnnbcplaaGDraw
import Derived.Test.YtffefndnnbcplaaGMesh
import Derived.Test.YtffefndnnbcplaaGIds
import Derived.Test.YtffefndnnbcplaaGEv
import Derived.Test.YtffefndnnbcplaaGRes
import Derived.Test.YtffefndnnbcplaaGBal
import Derived.Test.YtffefndnnbcplaaGCost
import Derived.Test.YtffefndnnbcplaaGMeshN
import Derived.Test.YtffefndnnbcplaaGDrawM
import Derived.Test.YtffefndnnbcplaaGDrawN
import Derived.Test.YtffefndnnbcplaaGIdx
import Derived.Test.YtffefndnnbcplaaGState
import Derived.Test.YtffefndnnbcplaaGCopy
import Derived.Test.YtffefndnnbcplaaGBalc
import Derived.Test.YtffefndnnbcplaaGBalw
import Derived.Test.YtffefndnnbcplaaGInts
import Derived.Test.YtffefndnnbcplaaGStTo
import Derived.Test.YtffefndnnbcplaaGResS
import Derived.Test.YtffefndnnbcplaaGOwn
import Derived.Test.YtffefndnnbcplaaGDrawS
import Derived.Test.YtffefndnnbcplaaGDLaw
import Derived.Test.YtffefndnnbcplaaGDiv
import Derived.Test.YtffefndnnbcplaaGShare
import Derived.Test.YtffefndnnbcplaaGFlux
import Derived.Test.YtffefndnnbcplaaGFlux2
import Derived.Test.YtffefndnnbcplaaGSteep
import Derived.Test.YtffefndnnbcplaaGLedP
import Derived.Test.YtffefndnnbcplaaGDecay

namespace Go.Proofs.Ytffefndnnbcplaa
open Go
set_option linter.unusedSimpArgs false
set_option linter.unusedVariables false
set_option maxRecDepth 100000
set_option maxHeartbeats 8000000
attribute [local go_sem] st0 AC thenA andC locLoadB KsSW_same KsSW_grow pv ev put upd dstOk cv cvc binI setB Value.oneCell' EndA resA resA1 List.mapM_cons List.mapM_nil Option.pure_def Option.bind_eq_bind noLocV noLoc1 noLoc noLocs plainV cellsA newVarA putCells condA lam0 inBlockA cur lenA rowA avoidsB avoidB clearB Array.toList_append Op.operands Call.operands newSlot Nat.zero_add Nat.add_zero Nat.succ_ne_self Nat.lt_add_one Nat.zero_lt_succ true_and and_true true_or or_true false_or or_false and_self true_implies forall_const Bool.false_eq_true Bool.true_eq_false false_implies implies_true imp_self ne_eq not_false_eq_true not_true_eq_false false_and and_false List.getElem?_toArray List.getElem?_cons_succ List.getElem?_cons_zero Option.bind_some Option.map_some Bool.not_true Bool.not_false List.getD_cons_zero List.getD_cons_succ Option.some.injEq exists_eq_left' AV.bool.injEq List.map_cons List.map_nil List.all_cons List.all_nil Bool.and_self Bool.and_true Bool.true_and List.append_nil List.cons_append List.nil_append List.length_cons List.length_nil List.drop_zero List.take_zero List.drop_succ_cons List.take_succ_cons List.take_nil List.drop_nil List.not_mem_nil List.mem_cons List.contains_nil List.contains_cons Bool.or_self Bool.or_true Bool.true_or Bool.false_or Bool.or_false Bool.and_false Bool.false_and KsS_same KsS_grow skipV KsS_ext KsSW_ext rep1 rep2 rep3 rep4 rep5 List.flatten_cons List.flatten_nil partsA isPtr fillA List.size_toArray ltT ltF leT leF ltTn ltFn leTn leFn eqTi eqFi wrapId toNat1 intGet boolGet memD app_get app_last app_lst app_set app_setL app_setF set_ne set_eq gt_iff_lt ge_iff_le decide_eq_true_eq len2 len3 get20 get21 drop2 put2 get30 get31 get32 drop3 put3 putI pairEta bneTi bneFi beqTi beqFi bne_eq_false_iff_eq beq_eq_false_iff_ne beq_iff_eq bne_iff_ne Int.toNat_natCast Nat.mul_one List.length_map Bool.not_eq_true Bool.not_eq_false Bool.decide_eq_true decide_true decide_false Bool.not_eq_true' Bool.not_eq_false' decide_eq_false_iff_not eq_self Decidable.not_not

def dN (t rate : Int) : Nat → Int
  | 0 => t
  | k + 1 => dN (t - (t * rate).tdiv 1000) rate k
theorem dN_succ (rate : Int) : ∀ (k : Nat) (t : Int), dN t rate (k + 1) = dN t rate k - (dN t rate k * rate).tdiv 1000
  | 0, _ => rfl
  | k + 1, t => by rw [dN, dN_succ rate k, dN]
theorem d_step {t rate : Int} (ht : 0 ≤ t) (hr : 0 ≤ rate ∧ rate ≤ 1000) : 0 ≤ t * rate ∧ t * rate ≤ 1000 * t ∧ 0 ≤ (t * rate).tdiv 1000 ∧ (t * rate).tdiv 1000 ≤ t ∧ (1000 ≤ t * rate → 1 ≤ (t * rate).tdiv 1000) ∧ (t * rate < 1000 → (t * rate).tdiv 1000 = 0) := by
  have h1 : 0 ≤ t * rate := Int.mul_nonneg ht hr.1
  have h2 : t * rate ≤ t * 1000 := Int.mul_le_mul_of_nonneg_left hr.2 ht
  rw [Int.tdiv_eq_ediv_of_nonneg h1]
  omega
theorem dN_bd {rate : Int} (hr : 0 ≤ rate ∧ rate ≤ 1000) {t : Int} (ht : 0 ≤ t) : ∀ k, 0 ≤ dN t rate k ∧ dN t rate k ≤ t
  | 0 => ⟨ht, Int.le_refl _⟩
  | k + 1 => by
    have h1 := dN_bd hr ht k
    have h2 := d_step h1.1 hr
    rw [dN_succ]
    omega
theorem dN_ex {rate lim : Int} (hr : 0 ≤ rate ∧ rate ≤ 1000) (h : ∀ x, lim < x → 1000 ≤ x * rate) (h0 : 0 ≤ lim) : ∀ (b : Nat) (t : Int), 0 ≤ t → t ≤ b → ∃ n : Nat, n ≤ b ∧ (∀ j, j < n → lim < dN t rate j) ∧ dN t rate n ≤ lim
  | 0, t, ht, hb => ⟨0, Nat.le_refl _, fun j hj => by omega, by rw [dN]; omega⟩
  | b + 1, t, ht, hb => by
    by_cases hl : t ≤ lim
    · exact ⟨0, Nat.zero_le _, fun j hj => by omega, hl⟩
    · have h1 := d_step ht hr
      have h2 := h1.2.2.2.2.1 (h t (by omega))
      obtain ⟨n, h3, h4, h5⟩ := dN_ex hr h h0 b (t - (t * rate).tdiv 1000) (by omega) (by omega)
      refine ⟨n + 1, by omega, fun j hj => ?_, h5⟩
      cases j with
      | zero => rw [dN]; omega
      | succ j => exact h4 j (by omega)
def SDTk : List AV → List Blk → (AV → List Blk → Prop) → Prop
  | [.int .i64 t, .int .i64 rate, .int .i64 lim], η, K => ((0 ≤ t ∧ t ≤ 100000) ∧ (0 ≤ rate ∧ rate ≤ 1000) ∧ (0 ≤ lim ∧ lim ≤ 100000) ∧ ∀ x, lim < x → 1000 ≤ x * rate) ∧ ∀ n : Nat, n ≤ 100000 → (∀ j, j < n → lim < dN t rate j) → dN t rate n ≤ lim → K (.int .i64 n) η
  | _, _, _ => False
def SStA : List AV → List Blk → (AV → List Blk → Prop) → Prop
  | [.int .i64 rate], η, K => (1 ≤ rate ∧ rate ≤ 1000) ∧ K (.int .i64 (Int.tdiv 999 rate)) η
  | _, _, _ => False
def SSmI : List AV → List Blk → (AV → List Blk → Prop) → Prop
  | [v, u], η, K => ∃ l m : List Int, IsI η v l ∧ IsI η u m ∧ l.length ≤ 1048576 ∧ K (.bool (decide (l = m))) η
  | _, _, _ => False

/- impl.StableAmount -/
def Sp49 (lo : Nat) : Spec := fun g args η K => match g with | 118 => SIn args η K | _ => False
theorem Sp49_ok {lo : Nat} : Sound Try.prog lo (Sp49 lo) := by
  intro g args η K h
  unfold Sp49 at h
  split at h
  · exact f118_ok h
  · exact h.elim
theorem f49_ok {lo : Nat} {args : List AV} {η : List Blk} {K : AV → List Blk → Prop} (h : SStA args η K) : AF Try.prog lo 49 args η K := by
  unfold SStA at h
  split at h
  · obtain ⟨⟨h1, h2⟩, hK⟩ := h
    rename_i rate
    have hi : inB rate 1 1000 = true := by simp [inB]; omega
    have hb := tdiv_bd (a := 999) (b := rate) (X := 999) (by omega) (by omega)
    refine AF_run Sp49_ok D0 [] [.tmp 2] hm Try.func49 rfl (by decide) Try.ntmps49 rfl (by kernel_rfl) (Nat.le_of_ble_eq_true rfl) ?_; intro hlo
    repeat' (first | with_reducible refine iteI (fun _ => ?_) (fun _ => ?_) | ((first | unfold AOpsC | unfold AOpsD | skip); simp (maxSteps := 1000000) (disch := (first | omega | assumption | (simp only [List.length_append, List.length_cons, List.length_nil, List.length_set]; omega))) only [go_sem, ↓skipC, ↓exitC, ↓retC, ↓seqC, ↓blockC, ↓condC, ↓regC, ↓drawC, ↓drawStep, ↓AOpC, ↓AOpF, ↓AOpE, ↓AEff, ↓contE_at, ↓contC_at, ↓keepC_at, ↓keepW_at, ↓map_parts, ↓reduceIte, reduceCtorEq, Nat.reduceLT, Nat.reduceEqDiff, Nat.reduceAdd, Nat.reduceMul, Nat.reduceLeDiff, Nat.reduceSub, Nat.reduceBEq, Nat.reduceBNe, Nat.reduceBneDiff, Nat.reduceBeqDiff, Sp49, SIn, hi]))
    exact hK
  · exact h.elim

def invDT (η : List Blk) (t rate lim : Int) (n : Nat) (st : St) : Prop := ∃ i : Nat, (i ≤ n) ∧ st.n = 37 ∧ st.τ 0 = .int .i64 (dN t rate i) ∧ st.τ 1 = .int .i64 rate ∧ st.τ 2 = .int .i64 lim ∧ st.τ 7 = .int .i64 i ∧ st.lam = lam0 ∧ st.η = η

/- impl.DecayTicks -/
def Sp50 (lo : Nat) : Spec := fun g args η K => match g with | 118 => SIn args η K | 121 => SRate args η K | _ => False
theorem Sp50_ok {lo : Nat} : Sound Try.prog lo (Sp50 lo) := by
  intro g args η K h
  unfold Sp50 at h
  split at h
  · exact f118_ok h
  · exact f121_ok h
  · exact h.elim
theorem f50_ok {lo : Nat} {args : List AV} {η : List Blk} {K : AV → List Blk → Prop} (h : SDTk args η K) : AF Try.prog lo 50 args η K := by
  unfold SDTk at h
  split at h
  · obtain ⟨⟨ht, hr, hl, hx⟩, hK⟩ := h
    rename_i t rate lim
    obtain ⟨n, n1, n2, n3⟩ := dN_ex hr hx hl.1 t.toNat t ht.1 (by omega)
    replace hK := hK n (by omega) n2 n3
    have i1 : inB t 0 10000000000 = true := by simp [inB]; omega
    have i2 : inB lim 0 10000000000 = true := by simp [inB]; omega
    have i3 : inB rate 0 1000 = true := by simp [inB]; omega
    refine AF_run Sp50_ok D0 [] [.tmp 6] hm Try.func50 rfl (by decide) Try.ntmps50 rfl (by kernel_rfl) (Nat.le_of_ble_eq_true rfl) ?_; intro hlo
    repeat' (first | with_reducible refine iteI (fun _ => ?_) (fun _ => ?_) | ((first | unfold AOpsC | unfold AOpsD | skip); simp (maxSteps := 1000000) (disch := (first | omega | assumption | (simp only [List.length_append, List.length_cons, List.length_nil, List.length_set]; omega))) only [go_sem, ↓skipC, ↓exitC, ↓retC, ↓seqC, ↓blockC, ↓condC, ↓regC, ↓drawC, ↓drawStep, ↓AOpC, ↓AOpF, ↓AOpE, ↓AEff, ↓contE_at, ↓contC_at, ↓keepC_at, ↓keepW_at, ↓map_parts, ↓reduceIte, reduceCtorEq, Nat.reduceLT, Nat.reduceEqDiff, Nat.reduceAdd, Nat.reduceMul, Nat.reduceLeDiff, Nat.reduceSub, Nat.reduceBEq, Nat.reduceBNe, Nat.reduceBneDiff, Nat.reduceBeqDiff, Sp50, SIn, SRate, i1, i2, i3]))
    refine ⟨invDT η t rate lim n, fun st => ctr n st 7, .inl ⟨0, Nat.zero_le _, rfl, (by first | (simp [upd]; done) | (simp [upd, *]; done) | rfl), (by first | (simp [upd]; done) | (simp [upd, *]; done) | rfl), (by first | (simp [upd]; done) | (simp [upd, *]; done) | rfl), (by first | (simp [upd]; done) | (simp [upd, *]; done) | rfl), rfl, rfl⟩, ?_⟩
    rintro ⟨n, τ, lam, η'⟩ ⟨i, g0, hn, t0, t1, t2, t7, hlam, hη⟩; simp only at hn t0 t1 t2 t7 hlam hη; subst hn hlam hη
    have d1 := dN_bd hr ht.1 i
    have d2 := d_step d1.1 hr
    have d3 := dN_succ rate i t
    by_cases hlt : i < n
    · have d4 := n2 i hlt
      have d5 := d2.2.2.2.2.1 (hx _ d4)
      generalize hx1 : dN t rate i = x at *
      generalize hy1 : x * rate = y at *
      generalize hz1 : y.tdiv 1000 = z at *
      have hz0 : ¬ z = 0 := by omega
      repeat' (first | with_reducible refine iteI (fun _ => ?_) (fun _ => ?_) | ((first | unfold AOpsC | unfold AOpsD | skip); simp (maxSteps := 1000000) (disch := (first | omega | assumption | (simp only [List.length_append, List.length_cons, List.length_nil, List.length_set]; omega))) only [go_sem, ↓skipC, ↓exitC, ↓retC, ↓seqC, ↓blockC, ↓condC, ↓regC, ↓drawC, ↓drawStep, ↓AOpC, ↓AOpF, ↓AOpE, ↓AEff, ↓contE_at, ↓contC_at, ↓keepC_at, ↓keepW_at, ↓map_parts, ↓reduceIte, reduceCtorEq, Nat.reduceLT, Nat.reduceEqDiff, Nat.reduceAdd, Nat.reduceMul, Nat.reduceLeDiff, Nat.reduceSub, Nat.reduceBEq, Nat.reduceBNe, Nat.reduceBneDiff, Nat.reduceBeqDiff, Sp50, SIn, SRate, t0, t1, t2, t7, hy1, hz1, hz0]))
      rw [← d3]
      refine ⟨⟨i + 1, hlt, rfl, (by simp [upd, t0, t1, t2, t7]), (by simp [upd, t0, t1, t2, t7]), (by simp [upd, t0, t1, t2, t7]), (by simp [upd, t0, t1, t2, t7]), rfl, rfl⟩, (by simp [ctr, upd, t0, t1, t2, t7]; omega)⟩
    · obtain rfl : i = n := by omega
      repeat' (first | with_reducible refine iteI (fun _ => ?_) (fun _ => ?_) | ((first | unfold AOpsC | unfold AOpsD | skip); simp (maxSteps := 1000000) (disch := (first | omega | assumption | (simp only [List.length_append, List.length_cons, List.length_nil, List.length_set]; omega))) only [go_sem, ↓skipC, ↓exitC, ↓retC, ↓seqC, ↓blockC, ↓condC, ↓regC, ↓drawC, ↓drawStep, ↓AOpC, ↓AOpF, ↓AOpE, ↓AEff, ↓contE_at, ↓contC_at, ↓keepC_at, ↓keepW_at, ↓map_parts, ↓reduceIte, reduceCtorEq, Nat.reduceLT, Nat.reduceEqDiff, Nat.reduceAdd, Nat.reduceMul, Nat.reduceLeDiff, Nat.reduceSub, Nat.reduceBEq, Nat.reduceBNe, Nat.reduceBneDiff, Nat.reduceBeqDiff, Sp50, SIn, SRate, t0, t1, t2, t7]))
      exact hK
  · exact h.elim

def invSm (η : List Blk) (l m : List Int) (v u : AV) (st : St) : Prop := ∃ i : Nat, (i ≤ l.length) ∧ (l.take i = m.take i) ∧ st.n = 26 ∧ st.τ 0 = v ∧ st.τ 1 = u ∧ st.τ 5 = .int .i64 i ∧ st.lam = lam0 ∧ st.η = η

/- laws.sameInts -/
def D52 : Draws := fun id => match id with | 6 => ([0, 0, 3, 7, 0, 0, 48, 112, 255], [], [], (.one 0 (.one 1 (.one 2 (.one 3 (.one 4 (.one 5 (.one 6 (.one 7 (.one 8 .nil)))))))))) | _ => ([], [], [], .nil)
theorem f52_ok {lo : Nat} {args : List AV} {η : List Blk} {K : AV → List Blk → Prop} (h : SSmI args η K) : AF Try.prog lo 52 args η K := by
  unfold SSmI at h
  split at h
  · obtain ⟨l, m, ⟨b, ver, rfl, hb⟩, ⟨d, wer, rfl, hd⟩, hl, hK⟩ := h
    refine AF_run noSp_ok D52 [] [.tmp 4] hm Try.func52 rfl (by decide) Try.ntmps52 rfl (by kernel_rfl) (Nat.le_of_ble_eq_true rfl) ?_; intro hlo
    by_cases hlen : l.length = m.length
    · repeat' (first | with_reducible refine iteI (fun _ => ?_) (fun _ => ?_) | ((first | unfold AOpsC | unfold AOpsD | skip); simp (maxSteps := 1000000) (disch := (first | omega | assumption | (simp only [List.length_append, List.length_cons, List.length_nil, List.length_set]; omega))) only [go_sem, ↓skipC, ↓exitC, ↓retC, ↓seqC, ↓blockC, ↓condC, ↓regC, ↓drawC, ↓drawStep, ↓AOpC, ↓AOpF, ↓AOpE, ↓AEff, ↓contE_at, ↓contC_at, ↓keepC_at, ↓keepW_at, ↓map_parts, ↓reduceIte, reduceCtorEq, Nat.reduceLT, Nat.reduceEqDiff, Nat.reduceAdd, Nat.reduceMul, Nat.reduceLeDiff, Nat.reduceSub, Nat.reduceBEq, Nat.reduceBNe, Nat.reduceBneDiff, Nat.reduceBeqDiff, ag_28, ag_3, by_28, by_3, el_28, in_3, sz_28, sz_3, ze_28, ze_3, D52, hb, hd]))
      refine ⟨invSm η l m (.sl b ver 0 l.length) (.sl d wer 0 m.length), fun st => ctr l.length st 5, .inl ⟨0, Nat.zero_le _, rfl, rfl, (by first | (simp [upd]; done) | (simp [upd, *]; done) | rfl), (by first | (simp [upd]; done) | (simp [upd, *]; done) | rfl), (by first | (simp [upd]; done) | (simp [upd, *]; done) | rfl), rfl, rfl⟩, ?_⟩
      rintro ⟨n, τ, lam, η'⟩ ⟨i, g0, g1, hn, t0, t1, t5, hlam, hη⟩; simp only at hn t0 t1 t5 hlam hη; subst hn hlam hη
      by_cases hlt : i < l.length
      · by_cases hxy : l.getD i 0 = m.getD i 0
        · repeat' (first | with_reducible refine iteI (fun _ => ?_) (fun _ => ?_) | ((first | unfold AOpsC | unfold AOpsD | skip); simp (maxSteps := 1000000) (disch := (first | omega | assumption | (simp only [List.length_append, List.length_cons, List.length_nil, List.length_set]; omega))) only [go_sem, ↓skipC, ↓exitC, ↓retC, ↓seqC, ↓blockC, ↓condC, ↓regC, ↓drawC, ↓drawStep, ↓AOpC, ↓AOpF, ↓AOpE, ↓AEff, ↓contE_at, ↓contC_at, ↓keepC_at, ↓keepW_at, ↓map_parts, ↓reduceIte, reduceCtorEq, Nat.reduceLT, Nat.reduceEqDiff, Nat.reduceAdd, Nat.reduceMul, Nat.reduceLeDiff, Nat.reduceSub, Nat.reduceBEq, Nat.reduceBNe, Nat.reduceBneDiff, Nat.reduceBeqDiff, ag_28, ag_3, by_28, by_3, el_28, in_3, sz_28, sz_3, ze_28, ze_3, D52, hb, hd, t0, t1, t5, hxy]))
          refine ⟨⟨i + 1, hlt, by rw [take1 (d := 0) hlt, take1 (d := 0) (by omega), g1, hxy], rfl, (by simp [upd, t0, t1, t5]), (by simp [upd, t0, t1, t5]), (by simp [upd, t0, t1, t5]), rfl, rfl⟩, (by simp [ctr, upd, t0, t1, t5]; omega)⟩
        · have hne : decide (l = m) = false := by
            rw [decide_eq_false_iff_not]; rintro rfl; exact hxy rfl
          rw [hne] at hK
          repeat' (first | with_reducible refine iteI (fun _ => ?_) (fun _ => ?_) | ((first | unfold AOpsC | unfold AOpsD | skip); simp (maxSteps := 1000000) (disch := (first | omega | assumption | (simp only [List.length_append, List.length_cons, List.length_nil, List.length_set]; omega))) only [go_sem, ↓skipC, ↓exitC, ↓retC, ↓seqC, ↓blockC, ↓condC, ↓regC, ↓drawC, ↓drawStep, ↓AOpC, ↓AOpF, ↓AOpE, ↓AEff, ↓contE_at, ↓contC_at, ↓keepC_at, ↓keepW_at, ↓map_parts, ↓reduceIte, reduceCtorEq, Nat.reduceLT, Nat.reduceEqDiff, Nat.reduceAdd, Nat.reduceMul, Nat.reduceLeDiff, Nat.reduceSub, Nat.reduceBEq, Nat.reduceBNe, Nat.reduceBneDiff, Nat.reduceBeqDiff, ag_28, ag_3, by_28, by_3, el_28, in_3, sz_28, sz_3, ze_28, ze_3, D52, hb, hd, t0, t1, t5, hxy]))
          exact hK
      · repeat' (first | with_reducible refine iteI (fun _ => ?_) (fun _ => ?_) | ((first | unfold AOpsC | unfold AOpsD | skip); simp (maxSteps := 1000000) (disch := (first | omega | assumption | (simp only [List.length_append, List.length_cons, List.length_nil, List.length_set]; omega))) only [go_sem, ↓skipC, ↓exitC, ↓retC, ↓seqC, ↓blockC, ↓condC, ↓regC, ↓drawC, ↓drawStep, ↓AOpC, ↓AOpF, ↓AOpE, ↓AEff, ↓contE_at, ↓contC_at, ↓keepC_at, ↓keepW_at, ↓map_parts, ↓reduceIte, reduceCtorEq, Nat.reduceLT, Nat.reduceEqDiff, Nat.reduceAdd, Nat.reduceMul, Nat.reduceLeDiff, Nat.reduceSub, Nat.reduceBEq, Nat.reduceBNe, Nat.reduceBneDiff, Nat.reduceBeqDiff, ag_28, ag_3, by_28, by_3, el_28, in_3, sz_28, sz_3, ze_28, ze_3, D52, hb, hd, t0, t1, t5]))
        have hlm : l = m := by
          rw [takeAll (by omega), takeAll (by omega)] at g1
          exact g1
        rw [show decide (l = m) = true from decide_eq_true hlm] at hK
        exact hK
    · have hne : decide (l = m) = false := by
        rw [decide_eq_false_iff_not]; rintro rfl; exact hlen rfl
      rw [hne] at hK
      repeat' (first | with_reducible refine iteI (fun _ => ?_) (fun _ => ?_) | ((first | unfold AOpsC | unfold AOpsD | skip); simp (maxSteps := 1000000) (disch := (first | omega | assumption | (simp only [List.length_append, List.length_cons, List.length_nil, List.length_set]; omega))) only [go_sem, ↓skipC, ↓exitC, ↓retC, ↓seqC, ↓blockC, ↓condC, ↓regC, ↓drawC, ↓drawStep, ↓AOpC, ↓AOpF, ↓AOpE, ↓AEff, ↓contE_at, ↓contC_at, ↓keepC_at, ↓keepW_at, ↓map_parts, ↓reduceIte, reduceCtorEq, Nat.reduceLT, Nat.reduceEqDiff, Nat.reduceAdd, Nat.reduceMul, Nat.reduceLeDiff, Nat.reduceSub, Nat.reduceBEq, Nat.reduceBNe, Nat.reduceBneDiff, Nat.reduceBeqDiff, ag_28, ag_3, by_28, by_3, el_28, in_3, sz_28, sz_3, ze_28, ze_3, D52, hb, hd]))
      exact hK
  · exact h.elim

def invL (η : List Blk) (s x : List AV) (led : List AV) (rate e t : Int) (n : Nat) (st : St) : Prop := ∃ i : Nat, (i ≤ n) ∧ st.n = 89 ∧ st.τ 3 = .loc 3 1 0 ∧ st.τ 5 = .int .i64 rate ∧ st.τ 6 = .loc 6 1 0 ∧ st.τ 7 = .loc 7 1 0 ∧ st.τ 8 = .int .i64 e ∧ st.τ 9 = .int .i64 n ∧ st.τ 10 = .int .i64 (dN t rate i) ∧ st.τ 11 = .int .i64 i ∧ st.lam 3 = ⟨1, s⟩ ∧ st.lam 6 = ⟨1, x⟩ ∧ st.lam 7 = ⟨1, led⟩ ∧ st.η = η

/- laws.FnDecays -/
def Sp10 (lo : Nat) : Spec := fun g args η K => match g with | 22 => SBig lo args η K | 24 => SPlaces lo args η K | 32 => SDrawS lo args η K | 48 => SDecS args η K | 49 => SStA args η K | 50 => SDTk args η K | 51 => SLh args η K | 52 => SSmI args η K | _ => False
theorem Sp10_ok {lo : Nat} : Sound Try.prog lo (Sp10 lo) := by
  intro g args η K h
  unfold Sp10 at h
  split at h
  · exact f22_ok h
  · exact f24_ok h
  · exact f32_ok h
  · exact f48_ok h
  · exact f49_ok h
  · exact f50_ok h
  · exact f51_ok h
  · exact f52_ok h
  · exact h.elim
theorem f10_ok {lo : Nat} {args : List AV} {η : List Blk} {K : AV → List Blk → Prop} (h : SDL lo args η K) : AF Try.prog lo 10 args η K := by
  unfold SDL at h
  split at h
  · obtain ⟨g, hr, hml, hK⟩ := h
    have hn := (noLoc8 hr).1
    refine AF_run Sp10_ok D0 [] [.tmp 2] hm Try.func10 rfl (by decide) Try.ntmps10 rfl (by kernel_rfl) (Nat.le_of_ble_eq_true rfl) ?_; intro hlo
    repeat' (first | with_reducible refine iteI (fun _ => ?_) (fun _ => ?_) | ((first | unfold AOpsC | unfold AOpsD | skip); simp (maxSteps := 1000000) (disch := (first | omega | assumption | (simp only [List.length_append, List.length_cons, List.length_nil, List.length_set]; omega))) only [go_sem, ↓skipC, ↓exitC, ↓retC, ↓seqC, ↓blockC, ↓condC, ↓regC, ↓drawC, ↓drawStep, ↓AOpC, ↓AOpF, ↓AOpE, ↓AEff, ↓contE_at, ↓contC_at, ↓keepC_at, ↓keepW_at, ↓map_parts, ↓reduceIte, reduceCtorEq, Nat.reduceLT, Nat.reduceEqDiff, Nat.reduceAdd, Nat.reduceMul, Nat.reduceLeDiff, Nat.reduceSub, Nat.reduceBEq, Nat.reduceBNe, Nat.reduceBneDiff, Nat.reduceBeqDiff, ag_28, ag_3, ag_39, ag_48, by_28, by_3, by_39, by_48, el_28, fi_39_1, in_3, nf_39, nf_48, pl_39, pl_48, ps_39, ps_48, sz_28, sz_3, sz_39, sz_48, ze_28, ze_3, ze_39, ze_48, Sp10, SStA, SLh, ↓hn]))
    unfold SBig
    refine ⟨g, hr, hml, ?_⟩
    by_cases hl : (1048576 : Int) < g.length
    · repeat' (first | with_reducible refine iteI (fun _ => ?_) (fun _ => ?_) | ((first | unfold AOpsC | unfold AOpsD | skip); simp (maxSteps := 1000000) (disch := (first | omega | assumption | (simp only [List.length_append, List.length_cons, List.length_nil, List.length_set]; omega))) only [go_sem, ↓skipC, ↓exitC, ↓retC, ↓seqC, ↓blockC, ↓condC, ↓regC, ↓drawC, ↓drawStep, ↓AOpC, ↓AOpF, ↓AOpE, ↓AEff, ↓contE_at, ↓contC_at, ↓keepC_at, ↓keepW_at, ↓map_parts, ↓reduceIte, reduceCtorEq, Nat.reduceLT, Nat.reduceEqDiff, Nat.reduceAdd, Nat.reduceMul, Nat.reduceLeDiff, Nat.reduceSub, Nat.reduceBEq, Nat.reduceBNe, Nat.reduceBneDiff, Nat.reduceBeqDiff, ag_28, ag_3, ag_39, ag_48, by_28, by_3, by_39, by_48, el_28, fi_39_1, in_3, nf_39, nf_48, pl_39, pl_48, ps_39, ps_48, sz_28, sz_3, sz_39, sz_48, ze_28, ze_3, ze_39, ze_48, Sp10, SStA, SLh, ↓hn, hl]))
      exact hK _
    repeat' (first | with_reducible refine iteI (fun _ => ?_) (fun _ => ?_) | ((first | unfold AOpsC | unfold AOpsD | skip); simp (maxSteps := 1000000) (disch := (first | omega | assumption | (simp only [List.length_append, List.length_cons, List.length_nil, List.length_set]; omega))) only [go_sem, ↓skipC, ↓exitC, ↓retC, ↓seqC, ↓blockC, ↓condC, ↓regC, ↓drawC, ↓drawStep, ↓AOpC, ↓AOpF, ↓AOpE, ↓AEff, ↓contE_at, ↓contC_at, ↓keepC_at, ↓keepW_at, ↓map_parts, ↓reduceIte, reduceCtorEq, Nat.reduceLT, Nat.reduceEqDiff, Nat.reduceAdd, Nat.reduceMul, Nat.reduceLeDiff, Nat.reduceSub, Nat.reduceBEq, Nat.reduceBNe, Nat.reduceBneDiff, Nat.reduceBeqDiff, ag_28, ag_3, ag_39, ag_48, by_28, by_3, by_39, by_48, el_28, fi_39_1, in_3, nf_39, nf_48, pl_39, pl_48, ps_39, ps_48, sz_28, sz_3, sz_39, sz_48, ze_28, ze_3, ze_39, ze_48, Sp10, SStA, SLh, ↓hn, hl]))
    unfold SDrawS
    refine ⟨g, hr, hml, fun HS r l ms ts bs b0 b1 b2 b3 v0 v1 v2 v3 hd hN hx => ?_⟩
    have e1 := hd.1
    obtain ⟨k1, k2, k3, k4, k5, k6, k7, k8⟩ := okT e1
    have hln := mesh_len k1
    have hne := mesh_ne k1
    have hr3 := hd.2.1
    replace hr := hr.ext hx
    have w0 := hN.g0
    have w1 := hN.g1
    have w2 := hN.g2
    have w3 := hN.g3
    have D1 : dec3 45 HS (.sl b0 v0 0 l.length) = l := IsR.dec3 ⟨b0, v0, rfl, w0⟩
    have D2 : decI HS (.sl b1 v1 0 ms.length) = ms := IsI.dec ⟨b1, v1, rfl, w1⟩
    have D3 : decI HS (.sl b2 v2 0 ts.length) = ts := IsI.dec ⟨b2, v2, rfl, w2⟩
    have D4 : decI HS (.sl b3 v3 0 bs.length) = bs := IsI.dec ⟨b3, v3, rfl, w3⟩
    have O1 : ok3 45 HS (.sl b0 v0 0 l.length) := ⟨l, ⟨b0, v0, rfl, w0⟩, by omega⟩
    have O2 : okI HS (.sl b1 v1 0 ms.length) := ⟨ms, ⟨b1, v1, rfl, w1⟩, by omega⟩
    have O3 : okI HS (.sl b2 v2 0 ts.length) := ⟨ts, ⟨b2, v2, rfl, w2⟩, by omega⟩
    have O4 : okI HS (.sl b3 v3 0 bs.length) := ⟨bs, ⟨b3, v3, rfl, w3⟩, by omega⟩
    repeat' (first | with_reducible refine iteI (fun _ => ?_) (fun _ => ?_) | ((first | unfold AOpsC | unfold AOpsD | skip); simp (maxSteps := 1000000) (disch := (first | omega | assumption | (simp only [List.length_append, List.length_cons, List.length_nil, List.length_set]; omega))) only [go_sem, ↓skipC, ↓exitC, ↓retC, ↓seqC, ↓blockC, ↓condC, ↓regC, ↓drawC, ↓drawStep, ↓AOpC, ↓AOpF, ↓AOpE, ↓AEff, ↓contE_at, ↓contC_at, ↓keepC_at, ↓keepW_at, ↓map_parts, ↓reduceIte, reduceCtorEq, Nat.reduceLT, Nat.reduceEqDiff, Nat.reduceAdd, Nat.reduceMul, Nat.reduceLeDiff, Nat.reduceSub, Nat.reduceBEq, Nat.reduceBNe, Nat.reduceBneDiff, Nat.reduceBeqDiff, ag_28, ag_3, ag_39, ag_48, by_28, by_3, by_39, by_48, el_28, fi_39_1, in_3, nf_39, nf_48, pl_39, pl_48, ps_39, ps_48, sz_28, sz_3, sz_39, sz_48, ze_28, ze_3, ze_39, ze_48, Sp10, SStA, SLh, ↓hn, w0, w1, w2, w3, D1, D2, D3, D4, O1, O2, O3, O4, e1]))
    unfold SPlaces
    refine ⟨g, hr, hml, fun vp HP ps hps hall hi hext => ?_⟩
    obtain ⟨bp, wp, rfl, hbp⟩ := hi
    replace hr := hr.ext hext
    have hpx : ∀ i, i < 12 → 0 ≤ ps.getD i 0 ∧ ps.getD i 0 < 10000 := fun i hi => hall _ (of_eq_true (memD (by omega)))
    replace hN := hN.ext hext
    clear w0 w1 w2 w3 D1 D2 D3 D4 O1 O2 O3 O4
    have w0 := hN.g0
    have w1 := hN.g1
    have w2 := hN.g2
    have w3 := hN.g3
    have D1 : dec3 45 HP (.sl b0 v0 0 l.length) = l := IsR.dec3 ⟨b0, v0, rfl, w0⟩
    have D2 : decI HP (.sl b1 v1 0 ms.length) = ms := IsI.dec ⟨b1, v1, rfl, w1⟩
    have D3 : decI HP (.sl b2 v2 0 ts.length) = ts := IsI.dec ⟨b2, v2, rfl, w2⟩
    have D4 : decI HP (.sl b3 v3 0 bs.length) = bs := IsI.dec ⟨b3, v3, rfl, w3⟩
    have O1 : ok3 45 HP (.sl b0 v0 0 l.length) := ⟨l, ⟨b0, v0, rfl, w0⟩, by omega⟩
    have O2 : okI HP (.sl b1 v1 0 ms.length) := ⟨ms, ⟨b1, v1, rfl, w1⟩, by omega⟩
    have O3 : okI HP (.sl b2 v2 0 ts.length) := ⟨ts, ⟨b2, v2, rfl, w2⟩, by omega⟩
    have O4 : okI HP (.sl b3 v3 0 bs.length) := ⟨bs, ⟨b3, v3, rfl, w3⟩, by omega⟩
    have x0 := hpx 0 (by omega)
    have x1 := hpx 1 (by omega)
    have y0 := tmod_bd (b := 1000) x0.1 (by omega)
    repeat' (first | with_reducible refine iteI (fun _ => ?_) (fun _ => ?_) | ((first | unfold AOpsC | unfold AOpsD | skip); simp (maxSteps := 1000000) (disch := (first | omega | assumption | (simp only [List.length_append, List.length_cons, List.length_nil, List.length_set]; omega))) only [go_sem, ↓skipC, ↓exitC, ↓retC, ↓seqC, ↓blockC, ↓condC, ↓regC, ↓drawC, ↓drawStep, ↓AOpC, ↓AOpF, ↓AOpE, ↓AEff, ↓contE_at, ↓contC_at, ↓keepC_at, ↓keepW_at, ↓map_parts, ↓reduceIte, reduceCtorEq, Nat.reduceLT, Nat.reduceEqDiff, Nat.reduceAdd, Nat.reduceMul, Nat.reduceLeDiff, Nat.reduceSub, Nat.reduceBEq, Nat.reduceBNe, Nat.reduceBneDiff, Nat.reduceBeqDiff, ag_28, ag_3, ag_39, ag_48, by_28, by_3, by_39, by_48, el_28, fi_39_1, in_3, nf_39, nf_48, pl_39, pl_48, ps_39, ps_48, sz_28, sz_3, sz_39, sz_48, ze_28, ze_3, ze_39, ze_48, Sp10, SStA, SLh, w0, w1, w2, w3, D1, D2, D3, D4, O1, O2, O3, O4, e1, hbp, Int.reduceToNat, Int.toNat_zero, Int.toNat_one, Nat.zero_mul, Nat.one_mul]))
    generalize hrt : 1 + (ps.getD 0 0).tmod 1000 = rate at *
    have hr : 1 ≤ rate ∧ rate ≤ 1000 := by omega
    clear x0 y0
    unfold SDecS
    simp only [w0, w1, w2, w3, D1, D2, D3, D4, O1, O2, O3, O4, true_and, and_self]
    refine fun H1 c0 c1 c2 c3 u0 u1 u2 u3 hM xu => ?_
    have hiy : inB rate 0 1000 = true := by simp only [inB, Bool.and_eq_true, decide_eq_true_eq]; omega
    have hB : decB r l ms ts bs rate = true := by simp [decB, e1, hiy]
    have z0 : decM r l ms ts bs rate = ms := rfl
    have z1 : decT r l ms ts bs rate = (List.range ts.length).map (decF ts rate) := if_pos hB
    have z2 : decL r l ms ts bs rate = (0, 0, 0, sumN (goneF ts rate) ts.length) := if_pos hB
    rw [z0, z1] at hM
    rw [z0, z1, z2]
    have gb : ∀ i, i < ts.length → 0 ≤ goneF ts rate i ∧ goneF ts rate i ≤ ts.getD i 0 := fun i hi => by
      have := cells_at k7 (i := i) (by omega)
      have := d_step (t := ts.getD i 0) (rate := rate) (by omega) (by omega)
      unfold goneF
      omega
    have hTl : ((List.range ts.length).map (decF ts rate)).length = ts.length := by simp
    have hTs : ((List.range ts.length).map (decF ts rate)).sum = ts.sum + 0 - sumN (goneF ts rate) ts.length := by
      rw [sum_range]
      show sumN (fun i => ts.getD i 0 - goneF ts rate i) ts.length = _
      rw [sumN_sub (fun i => ts.getD i 0), ← sum_getD]
      omega
    have e2 : okB r l ms ((List.range ts.length).map (decF ts rate)) bs = true := by
      refine okB_new e1 rfl hTl (fun i hi => ?_) k8
      have := cells_at k7 (i := i) hi
      have := gb i (by omega)
      rw [mapR_at _ (by omega)]
      unfold decF
      omega
    have hs0 := ts_le k7 (by omega)
    have hs1 : 0 ≤ sumN (goneF ts rate) ts.length := sumN_nn fun i hi => (gb i hi).1
    have hs2 : sumN (goneF ts rate) ts.length ≤ ts.sum := by rw [sum_getD]; exact sumN_le fun i hi => (gb i hi).2
    have lh := lh_true (p := 0) (q := 0) (u := 0) (w := sumN (goneF ts rate) ts.length) e1 e2 (by omega) hTs (by omega)
    have hN1 := hN.ext xu
    have hbp1 := xu.blk hbp
    generalize sumN (goneF ts rate) ts.length = gn at *
    generalize (List.range ts.length).map (decF ts rate) = T at *
    clear w0 w1 w2 w3 D1 D2 D3 D4 O1 O2 O3 O4 hbp z0 z1 z2
    have w0 := hN1.g0
    have w1 := hN1.g1
    have w2 := hN1.g2
    have w3 := hN1.g3
    have D1 : dec3 45 H1 (.sl b0 v0 0 l.length) = l := IsR.dec3 ⟨b0, v0, rfl, w0⟩
    have D2 : decI H1 (.sl b1 v1 0 ms.length) = ms := IsI.dec ⟨b1, v1, rfl, w1⟩
    have D3 : decI H1 (.sl b2 v2 0 ts.length) = ts := IsI.dec ⟨b2, v2, rfl, w2⟩
    have D4 : decI H1 (.sl b3 v3 0 bs.length) = bs := IsI.dec ⟨b3, v3, rfl, w3⟩
    have O1 : ok3 45 H1 (.sl b0 v0 0 l.length) := ⟨l, ⟨b0, v0, rfl, w0⟩, by omega⟩
    have O2 : okI H1 (.sl b1 v1 0 ms.length) := ⟨ms, ⟨b1, v1, rfl, w1⟩, by omega⟩
    have O3 : okI H1 (.sl b2 v2 0 ts.length) := ⟨ts, ⟨b2, v2, rfl, w2⟩, by omega⟩
    have O4 : okI H1 (.sl b3 v3 0 bs.length) := ⟨bs, ⟨b3, v3, rfl, w3⟩, by omega⟩
    have w0m := hM.g0
    have w1m := hM.g1
    have w2m := hM.g2
    have w3m := hM.g3
    have D1m : dec3 45 H1 (.sl c0 u0 0 l.length) = l := IsR.dec3 ⟨c0, u0, rfl, w0m⟩
    have D2m : decI H1 (.sl c1 u1 0 ms.length) = ms := IsI.dec ⟨c1, u1, rfl, w1m⟩
    have D3m : decI H1 (.sl c2 u2 0 T.length) = T := IsI.dec ⟨c2, u2, rfl, w2m⟩
    have D4m : decI H1 (.sl c3 u3 0 bs.length) = bs := IsI.dec ⟨c3, u3, rfl, w3m⟩
    have O1m : ok3 45 H1 (.sl c0 u0 0 l.length) := ⟨l, ⟨c0, u0, rfl, w0m⟩, by omega⟩
    have O2m : okI H1 (.sl c1 u1 0 ms.length) := ⟨ms, ⟨c1, u1, rfl, w1m⟩, by omega⟩
    have O3m : okI H1 (.sl c2 u2 0 T.length) := ⟨T, ⟨c2, u2, rfl, w2m⟩, by omega⟩
    have O4m : okI H1 (.sl c3 u3 0 bs.length) := ⟨bs, ⟨c3, u3, rfl, w3m⟩, by omega⟩
    have hbp := hbp1
    have hed : Int.tdiv 999 rate = 999 / rate := Int.tdiv_eq_ediv_of_nonneg (by omega)
    have he1 : 999 / rate * rate ≤ 999 := Int.ediv_mul_le _ (by omega)
    have he2 : 999 < (999 / rate + 1) * rate := Int.lt_ediv_add_one_mul_self _ (by omega)
    have he3 : 0 ≤ 999 / rate := Int.ediv_nonneg (by omega) (by omega)
    have he4 : 999 / rate ≤ 999 := Int.ediv_le_self _ (by omega)
    repeat' (first | with_reducible refine iteI (fun _ => ?_) (fun _ => ?_) | ((first | unfold AOpsC | unfold AOpsD | skip); simp (maxSteps := 1000000) (disch := (first | omega | assumption | (simp only [List.length_append, List.length_cons, List.length_nil, List.length_set]; omega))) only [go_sem, ↓skipC, ↓exitC, ↓retC, ↓seqC, ↓blockC, ↓condC, ↓regC, ↓drawC, ↓drawStep, ↓AOpC, ↓AOpF, ↓AOpE, ↓AEff, ↓contE_at, ↓contC_at, ↓keepC_at, ↓keepW_at, ↓map_parts, ↓reduceIte, reduceCtorEq, Nat.reduceLT, Nat.reduceEqDiff, Nat.reduceAdd, Nat.reduceMul, Nat.reduceLeDiff, Nat.reduceSub, Nat.reduceBEq, Nat.reduceBNe, Nat.reduceBneDiff, Nat.reduceBeqDiff, ag_28, ag_3, ag_39, ag_48, by_28, by_3, by_39, by_48, el_28, fi_39_1, in_3, nf_39, nf_48, pl_39, pl_48, ps_39, ps_48, sz_28, sz_3, sz_39, sz_48, ze_28, ze_3, ze_39, ze_48, Sp10, SStA, SLh, w0, w1, w2, w3, D1, D2, D3, D4, O1, O2, O3, O4, hbp, Int.reduceToNat, Int.toNat_zero, Int.toNat_one, Nat.zero_mul, Nat.one_mul, hed]))
    generalize 999 / rate = e at *
    have hex : ∀ x, e < x → 1000 ≤ x * rate := fun x hx => by
      have : (e + 1) * rate ≤ x * rate := Int.mul_le_mul_of_nonneg_right (by omega) (by omega)
      omega
    generalize hpt : ps.getD 1 0 = t at *
    unfold SDTk
    refine ⟨⟨by omega, by omega, by omega, hex⟩, fun n hn0 hn1 hn2 => ?_⟩
    repeat' (first | with_reducible refine iteI (fun _ => ?_) (fun _ => ?_) | ((first | unfold AOpsC | unfold AOpsD | skip); simp (maxSteps := 1000000) (disch := (first | omega | assumption | (simp only [List.length_append, List.length_cons, List.length_nil, List.length_set]; omega))) only [go_sem, ↓skipC, ↓exitC, ↓retC, ↓seqC, ↓blockC, ↓condC, ↓regC, ↓drawC, ↓drawStep, ↓AOpC, ↓AOpF, ↓AOpE, ↓AEff, ↓contE_at, ↓contC_at, ↓keepC_at, ↓keepW_at, ↓map_parts, ↓reduceIte, reduceCtorEq, Nat.reduceLT, Nat.reduceEqDiff, Nat.reduceAdd, Nat.reduceMul, Nat.reduceLeDiff, Nat.reduceSub, Nat.reduceBEq, Nat.reduceBNe, Nat.reduceBneDiff, Nat.reduceBeqDiff, ag_28, ag_3, ag_39, ag_48, by_28, by_3, by_39, by_48, el_28, fi_39_1, in_3, nf_39, nf_48, pl_39, pl_48, ps_39, ps_48, sz_28, sz_3, sz_39, sz_48, ze_28, ze_3, ze_39, ze_48, Sp10, SStA, SLh, w0, w1, w2, w3, D1, D2, D3, D4, O1, O2, O3, O4, hbp, Int.reduceToNat, Int.toNat_zero, Int.toNat_one, Nat.zero_mul, Nat.one_mul, hpt]))
    refine ⟨invL H1 [.int .i64 r, .sl b0 v0 0 l.length, .sl b1 v1 0 ms.length, .sl b2 v2 0 ts.length, .sl b3 v3 0 bs.length] [.int .i64 r, .sl c0 u0 0 l.length, .sl c1 u1 0 ms.length, .sl c2 u2 0 T.length, .sl c3 u3 0 bs.length] [.int .i64 0, .int .i64 0, .int .i64 0, .int .i64 gn] rate e t n, fun st => ctr n st 11, .inl ⟨0, Nat.zero_le _, rfl, (by first | (simp [upd]; done) | (simp [upd, *]; done) | rfl), (by first | (simp [upd]; done) | (simp [upd, *]; done) | rfl), (by first | (simp [upd]; done) | (simp [upd, *]; done) | rfl), (by first | (simp [upd]; done) | (simp [upd, *]; done) | rfl), (by first | (simp [upd]; done) | (simp [upd, *]; done) | rfl), (by first | (simp [upd]; done) | (simp [upd, *]; done) | rfl), (by first | (simp [upd]; done) | (simp [upd, *]; done) | rfl), (by first | (simp [upd]; done) | (simp [upd, *]; done) | rfl), (by first | (simp [upd]; done) | (simp [upd, *]; done) | rfl), (by first | (simp [upd]; done) | (simp [upd, *]; done) | rfl), (by first | (simp [upd]; done) | (simp [upd, *]; done) | rfl), rfl⟩, ?_⟩
    rintro ⟨n, τ, lam, η'⟩ ⟨i, g0, hn, t3, t5, t6, t7, t8, t9, t10, t11, l3, l6, l7, hη⟩; simp only at hn t3 t5 t6 t7 t8 t9 t10 t11 l3 l6 l7 hη; subst hn hη
    have d1 := dN_bd (rate := rate) (by omega) x1.1 i
    have d2 := d_step (rate := rate) d1.1 (by omega)
    have d3 := dN_succ rate i t
    by_cases hlt : i < n
    · have d4 := hn1 i hlt
      generalize hx1 : dN t rate i = x at *
      generalize hy1 : x * rate = y at *
      generalize hz1 : y.tdiv 1000 = z at *
      repeat' (first | with_reducible refine iteI (fun _ => ?_) (fun _ => ?_) | ((first | unfold AOpsC | unfold AOpsD | skip); simp (maxSteps := 1000000) (disch := (first | omega | assumption | (simp only [List.length_append, List.length_cons, List.length_nil, List.length_set]; omega))) only [go_sem, ↓skipC, ↓exitC, ↓retC, ↓seqC, ↓blockC, ↓condC, ↓regC, ↓drawC, ↓drawStep, ↓AOpC, ↓AOpF, ↓AOpE, ↓AEff, ↓contE_at, ↓contC_at, ↓keepC_at, ↓keepW_at, ↓map_parts, ↓reduceIte, reduceCtorEq, Nat.reduceLT, Nat.reduceEqDiff, Nat.reduceAdd, Nat.reduceMul, Nat.reduceLeDiff, Nat.reduceSub, Nat.reduceBEq, Nat.reduceBNe, Nat.reduceBneDiff, Nat.reduceBeqDiff, ag_28, ag_3, ag_39, ag_48, by_28, by_3, by_39, by_48, el_28, fi_39_1, in_3, nf_39, nf_48, pl_39, pl_48, ps_39, ps_48, sz_28, sz_3, sz_39, sz_48, ze_28, ze_3, ze_39, ze_48, Sp10, SStA, SLh, t3, t5, t6, t7, t8, t9, t10, t11, l3, l6, l7, hy1, hz1]))
      rw [← d3]
      refine ⟨⟨i + 1, hlt, rfl, (by simp [upd, t3, t5, t6, t7, t8, t9, t10, t11]), (by simp [upd, t3, t5, t6, t7, t8, t9, t10, t11]), (by simp [upd, t3, t5, t6, t7, t8, t9, t10, t11]), (by simp [upd, t3, t5, t6, t7, t8, t9, t10, t11]), (by simp [upd, t3, t5, t6, t7, t8, t9, t10, t11]), (by simp [upd, t3, t5, t6, t7, t8, t9, t10, t11]), (by simp [upd, t3, t5, t6, t7, t8, t9, t10, t11]), (by simp [upd, t3, t5, t6, t7, t8, t9, t10, t11]), (by simp [upd, l3, l6, l7]), (by simp [upd, l3, l6, l7]), (by simp [upd, l3, l6, l7]), rfl⟩, (by simp [ctr, upd, t3, t5, t6, t7, t8, t9, t10, t11]; omega)⟩
    · obtain rfl : i = n := by omega
      have f1 : 0 ≤ e * rate := Int.mul_nonneg he3 (by omega)
      have f2 : (e * rate).tdiv 1000 = 0 := by rw [Int.tdiv_eq_ediv_of_nonneg f1]; omega
      have f3 : (e + 1) * rate = e * rate + rate := by rw [Int.add_mul]; omega
      have f4 : ((e + 1) * rate).tdiv 1000 = 1 := by rw [Int.tdiv_eq_ediv_of_nonneg (by omega)]; omega
      repeat' (first | with_reducible refine iteI (fun _ => ?_) (fun _ => ?_) | ((first | unfold AOpsC | unfold AOpsD | skip); simp (maxSteps := 1000000) (disch := (first | omega | assumption | (simp only [List.length_append, List.length_cons, List.length_nil, List.length_set]; omega))) only [go_sem, ↓skipC, ↓exitC, ↓retC, ↓seqC, ↓blockC, ↓condC, ↓regC, ↓drawC, ↓drawStep, ↓AOpC, ↓AOpF, ↓AOpE, ↓AEff, ↓contE_at, ↓contC_at, ↓keepC_at, ↓keepW_at, ↓map_parts, ↓reduceIte, reduceCtorEq, Nat.reduceLT, Nat.reduceEqDiff, Nat.reduceAdd, Nat.reduceMul, Nat.reduceLeDiff, Nat.reduceSub, Nat.reduceBEq, Nat.reduceBNe, Nat.reduceBneDiff, Nat.reduceBeqDiff, ag_28, ag_3, ag_39, ag_48, by_28, by_3, by_39, by_48, el_28, fi_39_1, in_3, nf_39, nf_48, pl_39, pl_48, ps_39, ps_48, sz_28, sz_3, sz_39, sz_48, ze_28, ze_3, ze_39, ze_48, Sp10, SStA, SLh, w0, w1, w2, w3, D1, D2, D3, D4, O1, O2, O3, O4, w0m, w1m, w2m, w3m, D1m, D2m, D3m, D4m, O1m, O2m, O3m, O4m, t3, t5, t6, t7, t8, t9, t10, t11, l3, l6, l7, lh]))
      unfold SSmI
      refine ⟨ms, ms, ⟨c1, u1, rfl, w1m⟩, ⟨b1, v1, rfl, w1⟩, by omega, ?_⟩
      repeat' (first | with_reducible refine iteI (fun _ => ?_) (fun _ => ?_) | ((first | unfold AOpsC | unfold AOpsD | skip); simp (maxSteps := 1000000) (disch := (first | omega | assumption | (simp only [List.length_append, List.length_cons, List.length_nil, List.length_set]; omega))) only [go_sem, ↓skipC, ↓exitC, ↓retC, ↓seqC, ↓blockC, ↓condC, ↓regC, ↓drawC, ↓drawStep, ↓AOpC, ↓AOpF, ↓AOpE, ↓AEff, ↓contE_at, ↓contC_at, ↓keepC_at, ↓keepW_at, ↓map_parts, ↓reduceIte, reduceCtorEq, Nat.reduceLT, Nat.reduceEqDiff, Nat.reduceAdd, Nat.reduceMul, Nat.reduceLeDiff, Nat.reduceSub, Nat.reduceBEq, Nat.reduceBNe, Nat.reduceBneDiff, Nat.reduceBeqDiff, ag_28, ag_3, ag_39, ag_48, by_28, by_3, by_39, by_48, el_28, fi_39_1, in_3, nf_39, nf_48, pl_39, pl_48, ps_39, ps_48, sz_28, sz_3, sz_39, sz_48, ze_28, ze_3, ze_39, ze_48, Sp10, SStA, SLh, w0, w1, w2, w3, D1, D2, D3, D4, O1, O2, O3, O4, w0m, w1m, w2m, w3m, D1m, D2m, D3m, D4m, O1m, O2m, O3m, O4m, t3, t5, t6, t7, t8, t9, t10, t11, l3, l6, l7, lh, f2, f4]))
      exact hK _
  · exact h.elim

/- the law -/
theorem law_ok {blks : List Blk} {x0 : AV} (s0 : AvSh blks (.rows 5 1 .u8) x0) : AF Try.prog blks.length 10 [x0] blks fun v _ => v = .bool true := by
  obtain ⟨l, hl, hlm⟩ := row8 s0
  exact f10_ok (show SDL blks.length _ _ _ from ⟨l, hl, hlm, fun _ => rfl⟩)

end Go.Proofs.Ytffefndnnbcplaa
