/- What functions of the program compute, said in the abstract logic; no conditions. -/
import Derived.Test.YtffefndnnbcplaaGFlux2
import Derived.Test.YtffefndnnbcplaaGOwn
import Derived.Test.YtffefndnnbcplaaGDry

namespace Go.Proofs.Ytffefndnnbcplaa
open Go
set_option linter.unusedSimpArgs false
set_option linter.unusedVariables false
set_option maxRecDepth 100000
set_option maxHeartbeats 8000000
attribute [local go_sem] st0 AC thenA andC locLoadB KsSW_same KsSW_grow pv ev put upd dstOk cv cvc binI setB Value.oneCell' EndA resA resA1 List.mapM_cons List.mapM_nil Option.pure_def Option.bind_eq_bind noLocV noLoc1 noLoc noLocs plainV cellsA newVarA putCells condA lam0 inBlockA cur lenA rowA avoidsB avoidB clearB Array.toList_append Op.operands Call.operands newSlot Nat.zero_add Nat.add_zero Nat.succ_ne_self Nat.lt_add_one Nat.zero_lt_succ true_and and_true true_or or_true false_or or_false and_self true_implies forall_const Bool.false_eq_true Bool.true_eq_false false_implies implies_true imp_self ne_eq not_false_eq_true not_true_eq_false false_and and_false List.getElem?_toArray List.getElem?_cons_succ List.getElem?_cons_zero Option.bind_some Option.map_some Bool.not_true Bool.not_false List.getD_cons_zero List.getD_cons_succ Option.some.injEq exists_eq_left' AV.bool.injEq List.map_cons List.map_nil List.all_cons List.all_nil Bool.and_self Bool.and_true Bool.true_and List.append_nil List.cons_append List.nil_append List.length_cons List.length_nil List.drop_zero List.take_zero List.drop_succ_cons List.take_succ_cons List.take_nil List.drop_nil List.not_mem_nil List.mem_cons List.contains_nil List.contains_cons Bool.or_self Bool.or_true Bool.true_or Bool.false_or Bool.or_false Bool.and_false Bool.false_and KsS_same KsS_grow skipV KsS_ext KsSW_ext rep1 rep2 rep3 rep4 rep5 List.flatten_cons List.flatten_nil partsA isPtr fillA List.size_toArray ltT ltF leT leF ltTn ltFn leTn leFn eqTi eqFi wrapId toNat1 intGet boolGet memD app_get app_last app_lst app_set app_setL app_setF set_ne set_eq gt_iff_lt ge_iff_le decide_eq_true_eq len2 len3 get20 get21 drop2 put2 get30 get31 get32 drop3 put3 putI pairEta bneTi bneFi beqTi beqFi bne_eq_false_iff_eq beq_eq_false_iff_ne beq_iff_eq bne_iff_ne Int.toNat_natCast Nat.mul_one List.length_map Bool.not_eq_true Bool.not_eq_false Bool.decide_eq_true decide_true decide_false Bool.not_eq_true' Bool.not_eq_false' decide_eq_false_iff_not eq_self Decidable.not_not

def partF (l : List Id3) (y : Int) (i : Nat) : Int := (y * wdI (l.getD i (0, 0, 0)).2.1).tdiv 16
def addF (l : List Id3) (ms : List Int) (y : Int) (i : Nat) : Int := ms.getD i 0 + partF l y i
def rnOK (l : List Id3) (ms : List Int) (y : Int) : Bool := decide (ms.sum + sumN (partF l y) ms.length ≤ 10000000)
def nRnM (l : List Id3) (ms ts : List Int) (y : Int) : List Int := if rnOK l ms y = true then (List.range ms.length).map (addF l ms y) else ms
def nRnT (l : List Id3) (ms ts : List Int) (y : Int) : List Int := ts
def nRnL (l : List Id3) (ms ts : List Int) (y : Int) : Int × Int × Int × Int := if rnOK l ms y = true then (sumN (partF l y) ms.length, 0, 0, 0) else (0, 0, 0, 0)
theorem nRnM_len (l : List Id3) (ms ts : List Int) (y : Int) : (nRnM l ms ts y).length = ms.length := by
  unfold nRnM
  split
  · rw [mapR_len]
  · rfl
theorem nRnT_len (l : List Id3) (ms ts : List Int) (y : Int) : (nRnT l ms ts y).length = ts.length := rfl
theorem partF_bd {l : List Id3} {y : Int} (hy : 0 ≤ y ∧ y ≤ 10000) (i : Nat) : 0 ≤ partF l y i ∧ partF l y i ≤ 160000 := (part_bd hy _).2.2
theorem addF_sum (l : List Id3) (ms : List Int) (y : Int) : ∀ n, n ≤ ms.length → ((List.range n).map (addF l ms y)).sum = (ms.take n).sum + sumN (partF l y) n
  | 0, _ => by simp [sumN]
  | n + 1, h => by
    rw [List.range_succ, List.map_append, List.sum_append, addF_sum l ms y n (by omega), sum1 (by omega), sumN]
    simp only [List.map_cons, List.map_nil, List.sum_cons, List.sum_nil, addF]
    omega
theorem addF_all (l : List Id3) (ms : List Int) (y : Int) : ((List.range ms.length).map (addF l ms y)).sum = ms.sum + sumN (partF l y) ms.length := by
  rw [addF_sum l ms y _ (Nat.le_refl _), List.take_length]

def SRnP (lo : Nat) : List AV → List Blk → (AV → List Blk → Prop) → Prop
  | [.ptr p 0 0, .int .i64 y], η, K => ∃ (n : Nat) (r : Int) (b0 b1 b2 b3 v0 v1 v2 v3 : Nat) (l : List Id3) (ms ts bs : List Int), lo ≤ n ∧ PtrS n p η r b0 b1 b2 b3 v0 v1 v2 v3 l ms ts bs ∧ okB r l ms ts bs = true ∧ (0 ≤ y ∧ y ≤ 10000) ∧
      ∀ H, PtrS n p H r b0 b1 b2 b3 v0 v1 v2 v3 l (nRnM l ms ts y) (nRnT l ms ts y) bs → Touch (hit5 p b0 b1 b2 b3) η H → K (.agg [.int .i64 (nRnL l ms ts y).1, .int .i64 (nRnL l ms ts y).2.1, .int .i64 (nRnL l ms ts y).2.2.1, .int .i64 (nRnL l ms ts y).2.2.2]) H
  | _, _, _ => False
def SRnQ : List AV → List Blk → (AV → List Blk → Prop) → Prop
  | [.agg [.int .i64 r, v, a, b, c], .int .i64 y], η, K => ∃ (l : List Id3) (ms ts bs : List Int), ((IsR 45 3 enc3 η v l ∧ IsI η a ms ∧ IsI η b ts ∧ IsI η c bs) ∧ okB r l ms ts bs = true ∧ 0 ≤ y ∧ y ≤ 10000) ∧ ∀ H b0 b1 b2 b3 v0 v1 v2 v3, New4 η.length H b0 b1 b2 b3 v0 v1 v2 v3 l (nRnM l ms ts y) (nRnT l ms ts y) bs → Ext η H →
      K (.tup [.agg [.int .i64 r, .sl b0 v0 0 l.length, .sl b1 v1 0 ms.length, .sl b2 v2 0 ts.length, .sl b3 v3 0 bs.length], .agg [.int .i64 (nRnL l ms ts y).1, .int .i64 (nRnL l ms ts y).2.1, .int .i64 (nRnL l ms ts y).2.2.1, .int .i64 (nRnL l ms ts y).2.2.2]]) H
  | _, _, _ => False
def wRnB (r : Int) (l : List Id3) (ms ts bs : List Int) (y : Int) : Bool := okB r l ms ts bs && inB y 0 10000
def wRnM (r : Int) (l : List Id3) (ms ts bs : List Int) (y : Int) : List Int := if wRnB r l ms ts bs y = true then nRnM l ms ts y else ms
def wRnT (r : Int) (l : List Id3) (ms ts bs : List Int) (y : Int) : List Int := if wRnB r l ms ts bs y = true then nRnT l ms ts y else ts
def wRnL (r : Int) (l : List Id3) (ms ts bs : List Int) (y : Int) : Int × Int × Int × Int := if wRnB r l ms ts bs y = true then nRnL l ms ts y else (0, 0, 0, 0)
theorem wRnM_len (r : Int) (l : List Id3) (ms ts bs : List Int) (y : Int) : (wRnM r l ms ts bs y).length = ms.length := by
  unfold wRnM
  split
  · rw [nRnM_len]
  · rfl
theorem wRnT_len (r : Int) (l : List Id3) (ms ts bs : List Int) (y : Int) : (wRnT r l ms ts bs y).length = ts.length := by
  unfold wRnT
  split
  · rw [nRnT_len]
  · rfl

def SRnS : List AV → List Blk → (AV → List Blk → Prop) → Prop
  | [.agg [.int .i64 r, v, a, b, c], .int .i64 y], η, K => (ok3 45 η v ∧ okI η a ∧ okI η b ∧ okI η c) ∧ ∀ H b0 b1 b2 b3 v0 v1 v2 v3, New4 η.length H b0 b1 b2 b3 v0 v1 v2 v3 (dec3 45 η v) (wRnM r (dec3 45 η v) (decI η a) (decI η b) (decI η c) y) (wRnT r (dec3 45 η v) (decI η a) (decI η b) (decI η c) y) (decI η c) → Ext η H →
      K (.tup [.agg [.int .i64 r, .sl b0 v0 0 (dec3 45 η v).length, .sl b1 v1 0 (wRnM r (dec3 45 η v) (decI η a) (decI η b) (decI η c) y).length, .sl b2 v2 0 (wRnT r (dec3 45 η v) (decI η a) (decI η b) (decI η c) y).length, .sl b3 v3 0 (decI η c).length], .agg [.int .i64 (wRnL r (dec3 45 η v) (decI η a) (decI η b) (decI η c) y).1, .int .i64 (wRnL r (dec3 45 η v) (decI η a) (decI η b) (decI η c) y).2.1, .int .i64 (wRnL r (dec3 45 η v) (decI η a) (decI η b) (decI η c) y).2.2.1, .int .i64 (wRnL r (dec3 45 η v) (decI η a) (decI η b) (decI η c) y).2.2.2]]) H
  | _, _, _ => False

def invRn1 (η : List Blk) (p : Nat) (y : Int) (r : Int) (b1 v1 : Nat) (l : List Id3) (ms : List Int) (st : St) : Prop := ∃ i : Nat, (i ≤ ms.length) ∧ st.n = 60 ∧ st.τ 0 = .ptr p 0 0 ∧ st.τ 1 = .int .i64 y ∧ st.τ 4 = .loc 4 1 0 ∧ st.τ 5 = .int .i64 (sumN (partF l y) i) ∧ st.τ 12 = .int .i64 ms.length ∧ st.τ 13 = .int .i64 i ∧ st.lam 4 = ⟨1, [.int .i64 0, .int .i64 0, .int .i64 0, .int .i64 0]⟩ ∧ st.η = η

def invRn2 (η : List Blk) (p : Nat) (y : Int) (r : Int) (b1 v1 : Nat) (l : List Id3) (ms : List Int) (st : St) : Prop := ∃ i : Nat, (i ≤ ms.length) ∧ st.n = 60 ∧ st.τ 0 = .ptr p 0 0 ∧ st.τ 1 = .int .i64 y ∧ st.τ 4 = .loc 4 1 0 ∧ st.τ 5 = .int .i64 (sumN (partF l y) ms.length) ∧ st.τ 38 = .int .i64 ms.length ∧ st.τ 39 = .int .i64 i ∧ st.lam 4 = ⟨1, [.int .i64 0, .int .i64 0, .int .i64 0, .int .i64 0]⟩ ∧ st.η = η.set b1 ⟨v1, 3, 1, (mixed (addF l ms y) ms i).map (.int .i64)⟩

/- (*impl.State).rain -/
def Sp123 (lo : Nat) : Spec := fun g args η K => match g with | 112 => SPartOf args η K | 115 => SSum args η K | _ => False
theorem Sp123_ok {lo : Nat} : Sound Try.prog lo (Sp123 lo) := by
  intro g args η K h
  unfold Sp123 at h
  split at h
  · exact f112_ok h
  · exact f115_ok h
  · exact h.elim
def D123 : Draws := fun id => match id with | 12 => ([0, 1, 3, 7, 0, 31, 63, 0, 128, 384, 0, 0, 3968, 8191, 16383, 32767], [12], [], (.one 0 (.one 1 (.one 2 (.one 3 (.one 4 (.one 5 (.one 6 (.one 7 (.one 8 (.one 9 (.one 10 (.one 11 (.one 12 (.one 13 (.one 14 (.one 15 .nil))))))))))))))))) | _ => ([], [], [], .nil)
theorem f123_ok {lo : Nat} {args : List AV} {η : List Blk} {K : AV → List Blk → Prop} (h : SRnP lo args η K) : AF Try.prog lo 123 args η K := by
  unfold SRnP at h
  split at h
  · obtain ⟨n, r, b0, b1, b2, b3, v0, v1, v2, v3, l, ms, ts, bs, hn, hP, e1, hy, hK⟩ := h
    rename_i p y
    obtain ⟨k1, k2, k3, k4, k5, k6, k7, k8⟩ := okT e1
    have hl8 : l.length ≤ 128 := by have := mesh_len k1; omega
    have hb8 : bs.length ≤ 8 := by have := mesh_len k1; omega
    have hp := hP.pb
    have hg0 := hP.n4.g0
    have hg1 := hP.n4.g1
    have hg2 := hP.n4.g2
    have hg3 := hP.n4.g3
    have hp1 := hP.p1
    have d01 := hP.n4.d01
    have d12 := hP.n4.d12
    have d13 := hP.n4.d13
    have hlb1 : lo ≤ b1 := Nat.le_trans hn hP.n4.n1
    have hb1l := blt hg1
    have hpl := blt hp
    have d1 : dec3 45 η (.sl b0 v0 0 l.length) = l := IsR.dec3 ⟨b0, v0, rfl, hg0⟩
    have o1 : ok3 45 η (.sl b0 v0 0 l.length) := ⟨l, ⟨b0, v0, rfl, hg0⟩, by omega⟩
    have o2 : okI η (.sl b1 v1 0 ms.length) := ⟨ms, ⟨b1, v1, rfl, hg1⟩, by omega⟩
    have o3 : okI η (.sl b2 v2 0 ts.length) := ⟨ts, ⟨b2, v2, rfl, hg2⟩, by omega⟩
    have o4 : okI η (.sl b3 v3 0 bs.length) := ⟨bs, ⟨b3, v3, rfl, hg3⟩, by omega⟩
    have dm : decI η (.sl b1 v1 0 ms.length) = ms := IsI.dec ⟨b1, v1, rfl, hg1⟩
    have hpos := cells_posM k7
    have sm := sum_bd hpos
    have gb : ∀ i, i < ms.length → 0 ≤ partF l y i ∧ partF l y i ≤ 160000 := fun i _ => partF_bd hy i
    have sbA := sumN_bd gb ms.length (Nat.le_refl _)
    refine AF_run Sp123_ok D123 [] [.cell 4 48] hm Try.func123 rfl (by decide) Try.ntmps123 rfl (by kernel_rfl) (Nat.le_of_ble_eq_true rfl) ?_; intro hlo
    repeat' (first | with_reducible refine iteI (fun _ => ?_) (fun _ => ?_) | ((first | unfold AOpsC | unfold AOpsD | skip); simp (maxSteps := 1000000) (disch := (first | omega | assumption | (simp only [List.length_append, List.length_cons, List.length_nil, List.length_set]; omega))) only [go_sem, ↓skipC, ↓exitC, ↓retC, ↓seqC, ↓blockC, ↓condC, ↓regC, ↓drawC, ↓drawStep, ↓AOpC, ↓AOpF, ↓AOpE, ↓AEff, ↓contE_at, ↓contC_at, ↓keepC_at, ↓keepW_at, ↓map_parts, ↓reduceIte, reduceCtorEq, Nat.reduceLT, Nat.reduceEqDiff, Nat.reduceAdd, Nat.reduceMul, Nat.reduceLeDiff, Nat.reduceSub, Nat.reduceBEq, Nat.reduceBNe, Nat.reduceBneDiff, Nat.reduceBeqDiff, ag_28, ag_3, ag_39, ag_48, by_28, by_3, by_39, by_48, el_28, fi_39_1, in_3, nf_39, nf_48, pl_39, pl_48, ps_39, ps_48, sz_28, sz_3, sz_39, sz_48, ze_28, ze_3, ze_39, ze_48, Sp123, SPartOf, SSum, D123, hp, hg1]))
    refine ⟨invRn1 η p y r b1 v1 l ms, fun st => ctr ms.length st 13, .inl ⟨0, Nat.zero_le _, rfl, by simp [upd, sumN], by simp [upd, sumN], by simp [upd, sumN], by simp [upd, sumN], by simp [upd, sumN], by simp [upd, sumN], by simp [upd], rfl⟩, ?_⟩
    rintro ⟨n, τ, lam, η'⟩ ⟨i, g0, hn, t0, t1, t4, t5, t12, t13, l4, hη⟩; simp only at hn t0 t1 t4 t5 t12 t13 l4 hη; subst hn hη
    have sb := sumN_bd gb i g0
    by_cases hlt : i < ms.length
    · have hss : sumN (partF l y) i + partF l y i = sumN (partF l y) (i + 1) := rfl
      have hpf : (y * wdI (l.getD i (0, 0, 0)).2.1).tdiv 16 = partF l y i := rfl
      have gi := gb i hlt
      repeat' (first | with_reducible refine iteI (fun _ => ?_) (fun _ => ?_) | ((first | unfold AOpsC | unfold AOpsD | skip); simp (maxSteps := 1000000) (disch := (first | omega | assumption | (simp only [List.length_append, List.length_cons, List.length_nil, List.length_set]; omega))) only [go_sem, ↓skipC, ↓exitC, ↓retC, ↓seqC, ↓blockC, ↓condC, ↓regC, ↓drawC, ↓drawStep, ↓AOpC, ↓AOpF, ↓AOpE, ↓AEff, ↓contE_at, ↓contC_at, ↓keepC_at, ↓keepW_at, ↓map_parts, ↓reduceIte, reduceCtorEq, Nat.reduceLT, Nat.reduceEqDiff, Nat.reduceAdd, Nat.reduceMul, Nat.reduceLeDiff, Nat.reduceSub, Nat.reduceBEq, Nat.reduceBNe, Nat.reduceBneDiff, Nat.reduceBeqDiff, ag_28, ag_3, ag_39, ag_48, by_28, by_3, by_39, by_48, el_28, fi_39_1, in_3, nf_39, nf_48, pl_39, pl_48, ps_39, ps_48, sz_28, sz_3, sz_39, sz_48, ze_28, ze_3, ze_39, ze_48, Sp123, SPartOf, SSum, D123, hp, hg1, d1, o1, o2, o3, o4, t0, t1, t4, t5, t12, t13, l4, hpf]))
      refine ⟨⟨i + 1, hlt, rfl, by simp [upd, hss, t0, t1, t4, t5, t12, t13], by simp [upd, hss, t0, t1, t4, t5, t12, t13], by simp [upd, hss, t0, t1, t4, t5, t12, t13], by simp [upd, hss, t0, t1, t4, t5, t12, t13], by simp [upd, hss, t0, t1, t4, t5, t12, t13], by simp [upd, hss, t0, t1, t4, t5, t12, t13], by simp [upd, l4], rfl⟩, by simp [ctr, upd, t13]; omega⟩
    · obtain rfl : i = ms.length := by omega
      clear sb
      by_cases hle : ms.sum + sumN (partF l y) ms.length ≤ 10000000
      case neg =>
        have hz : rnOK l ms y = false := by simpa [rnOK] using hle
        have hM : nRnM l ms ts y = ms := by rw [nRnM, hz]; rfl
        have hL : nRnL l ms ts y = (0, 0, 0, 0) := by rw [nRnL, hz]; rfl
        rw [hM, hL] at hK
        repeat' (first | with_reducible refine iteI (fun _ => ?_) (fun _ => ?_) | ((first | unfold AOpsC | unfold AOpsD | skip); simp (maxSteps := 1000000) (disch := (first | omega | assumption | (simp only [List.length_append, List.length_cons, List.length_nil, List.length_set]; omega))) only [go_sem, ↓skipC, ↓exitC, ↓retC, ↓seqC, ↓blockC, ↓condC, ↓regC, ↓drawC, ↓drawStep, ↓AOpC, ↓AOpF, ↓AOpE, ↓AEff, ↓contE_at, ↓contC_at, ↓keepC_at, ↓keepW_at, ↓map_parts, ↓reduceIte, reduceCtorEq, Nat.reduceLT, Nat.reduceEqDiff, Nat.reduceAdd, Nat.reduceMul, Nat.reduceLeDiff, Nat.reduceSub, Nat.reduceBEq, Nat.reduceBNe, Nat.reduceBneDiff, Nat.reduceBeqDiff, ag_28, ag_3, ag_39, ag_48, by_28, by_3, by_39, by_48, el_28, fi_39_1, in_3, nf_39, nf_48, pl_39, pl_48, ps_39, ps_48, sz_28, sz_3, sz_39, sz_48, ze_28, ze_3, ze_39, ze_48, Sp123, SPartOf, SSum, D123, hp, hg1, d1, dm, o1, o2, o3, o4, hpos, t0, t1, t4, t5, t12, t13, l4]))
        exact hK _ hP ((Ext.refl _).touch _)
      have hz : rnOK l ms y = true := by simpa [rnOK] using hle
      have hM : nRnM l ms ts y = (List.range ms.length).map (addF l ms y) := by rw [nRnM, hz]; rfl
      have hL : nRnL l ms ts y = (sumN (partF l y) ms.length, 0, 0, 0) := by rw [nRnL, hz]; rfl
      rw [hM, hL] at hK
      repeat' (first | with_reducible refine iteI (fun _ => ?_) (fun _ => ?_) | ((first | unfold AOpsC | unfold AOpsD | skip); simp (maxSteps := 1000000) (disch := (first | omega | assumption | (simp only [List.length_append, List.length_cons, List.length_nil, List.length_set]; omega))) only [go_sem, ↓skipC, ↓exitC, ↓retC, ↓seqC, ↓blockC, ↓condC, ↓regC, ↓drawC, ↓drawStep, ↓AOpC, ↓AOpF, ↓AOpE, ↓AEff, ↓contE_at, ↓contC_at, ↓keepC_at, ↓keepW_at, ↓map_parts, ↓reduceIte, reduceCtorEq, Nat.reduceLT, Nat.reduceEqDiff, Nat.reduceAdd, Nat.reduceMul, Nat.reduceLeDiff, Nat.reduceSub, Nat.reduceBEq, Nat.reduceBNe, Nat.reduceBneDiff, Nat.reduceBeqDiff, ag_28, ag_3, ag_39, ag_48, by_28, by_3, by_39, by_48, el_28, fi_39_1, in_3, nf_39, nf_48, pl_39, pl_48, ps_39, ps_48, sz_28, sz_3, sz_39, sz_48, ze_28, ze_3, ze_39, ze_48, Sp123, SPartOf, SSum, D123, hp, hg1, d1, dm, o1, o2, o3, o4, hpos, t0, t1, t4, t5, t12, t13, l4]))
      refine ⟨invRn2 η' p y r b1 v1 l ms, fun st => ctr ms.length st 39, .inl ⟨0, Nat.zero_le _, rfl, by simp [upd, t0, t1, t4, t5], by simp [upd, t0, t1, t4, t5], by simp [upd, t0, t1, t4, t5], by simp [upd, t0, t1, t4, t5], by simp [upd, t0, t1, t4, t5], by simp [upd, t0, t1, t4, t5], by simp [upd, l4], by rw [mixed_0]; exact (set_same hg1).symm⟩, ?_⟩
      rintro ⟨n, τ, lam, η'⟩ ⟨i, g0, hn, t0, t1, t4, t5, t38, t39, l4, hη⟩; simp only at hn t0 t1 t4 t5 t38 t39 l4 hη; subst hn hη
      have hml := mixed_len (addF l ms y) ms g0
      generalize hH : η'.set b1 ⟨v1, 3, 1, (mixed (addF l ms y) ms i).map (.int .i64)⟩ = H
      have q1 : H[b1]? = some ⟨v1, 3, 1, (mixed (addF l ms y) ms i).map (.int .i64)⟩ := by rw [← hH]; exact set_eq hb1l
      have qp : H[p]? = η'[p]? := by rw [← hH]; exact set_ne hp1.symm
      have q0 : H[b0]? = η'[b0]? := by rw [← hH]; exact set_ne d01.symm
      have q2 : H[b2]? = η'[b2]? := by rw [← hH]; exact set_ne d12
      have q3 : H[b3]? = η'[b3]? := by rw [← hH]; exact set_ne d13
      rw [hp] at qp
      rw [hg0] at q0
      rw [hg2] at q2
      rw [hg3] at q3
      have D1 : dec3 45 H (.sl b0 v0 0 l.length) = l := IsR.dec3 ⟨b0, v0, rfl, q0⟩
      have O1 : ok3 45 H (.sl b0 v0 0 l.length) := ⟨l, ⟨b0, v0, rfl, q0⟩, by omega⟩
      have O2 : okI H (.sl b1 v1 0 ms.length) := ⟨mixed (addF l ms y) ms i, ⟨b1, v1, by rw [hml], q1⟩, by omega⟩
      have O3 : okI H (.sl b2 v2 0 ts.length) := ⟨ts, ⟨b2, v2, rfl, q2⟩, by omega⟩
      have O4 : okI H (.sl b3 v3 0 bs.length) := ⟨bs, ⟨b3, v3, rfl, q3⟩, by omega⟩
      have hHl : b1 < H.length := blt q1
      by_cases hlt : i < ms.length
      · have m1 := cells_at k7 (i := i) (by omega)
        have hpf : (y * wdI (l.getD i (0, 0, 0)).2.1).tdiv 16 = partF l y i := rfl
        have gi := gb i hlt
        have hms : (mixed (addF l ms y) ms i).set i (addF l ms y i) = mixed (addF l ms y) ms (i + 1) := mixed_set (addF l ms y) ms hlt
        have hmg := mixed_get (addF l ms y) ms 0 hlt
        have had : ms.getD i 0 + partF l y i = addF l ms y i := rfl
        repeat' (first | with_reducible refine iteI (fun _ => ?_) (fun _ => ?_) | ((first | unfold AOpsC | unfold AOpsD | skip); simp (maxSteps := 1000000) (disch := (first | omega | assumption | (simp only [List.length_append, List.length_cons, List.length_nil, List.length_set]; omega))) only [go_sem, ↓skipC, ↓exitC, ↓retC, ↓seqC, ↓blockC, ↓condC, ↓regC, ↓drawC, ↓drawStep, ↓AOpC, ↓AOpF, ↓AOpE, ↓AEff, ↓contE_at, ↓contC_at, ↓keepC_at, ↓keepW_at, ↓map_parts, ↓reduceIte, reduceCtorEq, Nat.reduceLT, Nat.reduceEqDiff, Nat.reduceAdd, Nat.reduceMul, Nat.reduceLeDiff, Nat.reduceSub, Nat.reduceBEq, Nat.reduceBNe, Nat.reduceBneDiff, Nat.reduceBeqDiff, ag_28, ag_3, ag_39, ag_48, by_28, by_3, by_39, by_48, el_28, fi_39_1, in_3, nf_39, nf_48, pl_39, pl_48, ps_39, ps_48, sz_28, sz_3, sz_39, sz_48, ze_28, ze_3, ze_39, ze_48, Sp123, SPartOf, SSum, D123, qp, q1, D1, O1, O2, O3, O4, t0, t1, t4, t5, t38, t39, l4, hml, hmg, hpf]))
        refine ⟨⟨i + 1, hlt, rfl, by simp [upd, t0, t1, t4, t5, t38, t39], by simp [upd, t0, t1, t4, t5, t38, t39], by simp [upd, t0, t1, t4, t5, t38, t39], by simp [upd, t0, t1, t4, t5, t38, t39], by simp [upd, t0, t1, t4, t5, t38, t39], by simp [upd, t0, t1, t4, t5, t38, t39], by simp [upd, l4], ?_⟩, by simp [ctr, upd, t39]; omega⟩
        try dsimp only
        rw [← hH, List.set_set, had, hms]
      · obtain rfl : i = ms.length := by omega
        repeat' (first | with_reducible refine iteI (fun _ => ?_) (fun _ => ?_) | ((first | unfold AOpsC | unfold AOpsD | skip); simp (maxSteps := 1000000) (disch := (first | omega | assumption | (simp only [List.length_append, List.length_cons, List.length_nil, List.length_set]; omega))) only [go_sem, ↓skipC, ↓exitC, ↓retC, ↓seqC, ↓blockC, ↓condC, ↓regC, ↓drawC, ↓drawStep, ↓AOpC, ↓AOpF, ↓AOpE, ↓AEff, ↓contE_at, ↓contC_at, ↓keepC_at, ↓keepW_at, ↓map_parts, ↓reduceIte, reduceCtorEq, Nat.reduceLT, Nat.reduceEqDiff, Nat.reduceAdd, Nat.reduceMul, Nat.reduceLeDiff, Nat.reduceSub, Nat.reduceBEq, Nat.reduceBNe, Nat.reduceBneDiff, Nat.reduceBeqDiff, ag_28, ag_3, ag_39, ag_48, by_28, by_3, by_39, by_48, el_28, fi_39_1, in_3, nf_39, nf_48, pl_39, pl_48, ps_39, ps_48, sz_28, sz_3, sz_39, sz_48, ze_28, ze_3, ze_39, ze_48, Sp123, SPartOf, SSum, D123, qp, q1, t0, t1, t4, t5, t38, t39, l4]))
        rw [← hH, mixed_end]
        exact hK _ (hP.put1 (by simp)) (Touch.set (.inr (.inr (.inl rfl))))
  · exact h.elim

/- impl.RainOn -/
def Sp53 (lo : Nat) : Spec := fun g args η K => match g with | 103 => SOk args η K | 109 => SCopyS args η K | 110 => SRain args η K | 123 => SRnP lo args η K | _ => False
theorem Sp53_ok {lo : Nat} : Sound Try.prog lo (Sp53 lo) := by
  intro g args η K h
  unfold Sp53 at h
  split at h
  · exact f103_ok h
  · exact f109_ok h
  · exact f110_ok h
  · exact f123_ok h
  · exact h.elim
def D53 : Draws := fun id => match id with | 5 => ([0, 0, 1, 7], [], [], (.one 0 (.two 1 2 (.one 2 (.one 3 .nil)) (.one 1 (.one 3 .nil))))) | _ => ([], [], [], .nil)
theorem f53_ok {lo : Nat} {args : List AV} {η : List Blk} {K : AV → List Blk → Prop} (h : SRnS args η K) : AF Try.prog lo 53 args η K := by
  unfold SRnS at h
  split at h
  · obtain ⟨⟨⟨l, hr, hl⟩, ⟨ms, ha, hla⟩, ⟨ts, hb, hlb⟩, ⟨bs, hc, hlc⟩⟩, hK⟩ := h
    rename_i r _ _ _ _ y
    have d1 := hr.dec3
    have d2 := ha.dec
    have d3 := hb.dec
    have d4 := hc.dec
    have o1 : ok3 45 _ _ := ⟨l, hr, hl⟩
    have o2 : okI _ _ := ⟨ms, ha, hla⟩
    have o3 : okI _ _ := ⟨ts, hb, hlb⟩
    have o4 : okI _ _ := ⟨bs, hc, hlc⟩
    simp only [d1, d2, d3, d4] at hK
    have hr' := hr
    have ha' := ha
    have hb' := hb
    have hc' := hc
    obtain ⟨b0, v0, rfl, hb0⟩ := hr'
    obtain ⟨b1, v1, rfl, hb1⟩ := ha'
    obtain ⟨b2, v2, rfl, hb2⟩ := hb'
    obtain ⟨b3, v3, rfl, hb3⟩ := hc'
    refine AF_run Sp53_ok D53 [6] [.cell 4 39, .cell 5 48] hm Try.func53 rfl (by decide) Try.ntmps53 rfl (by kernel_rfl) (Nat.le_of_ble_eq_true rfl) ?_; intro hlo
    repeat' (first | with_reducible refine iteI (fun _ => ?_) (fun _ => ?_) | ((first | unfold AOpsC | unfold AOpsD | skip); simp (maxSteps := 1000000) (disch := (first | omega | assumption | (simp only [List.length_append, List.length_cons, List.length_nil, List.length_set]; omega))) only [go_sem, ↓skipC, ↓exitC, ↓retC, ↓seqC, ↓blockC, ↓condC, ↓regC, ↓drawC, ↓drawStep, ↓AOpC, ↓AOpF, ↓AOpE, ↓AEff, ↓contE_at, ↓contC_at, ↓keepC_at, ↓keepW_at, ↓map_parts, ↓reduceIte, reduceCtorEq, Nat.reduceLT, Nat.reduceEqDiff, Nat.reduceAdd, Nat.reduceMul, Nat.reduceLeDiff, Nat.reduceSub, Nat.reduceBEq, Nat.reduceBNe, Nat.reduceBneDiff, Nat.reduceBeqDiff, ag_39, ag_48, by_39, by_48, nf_39, nf_48, pl_39, pl_48, ps_39, ps_48, sz_39, sz_48, ze_39, ze_48, Sp53, SOk, SRain, D53, hb0, hb1, hb2, hb3, d1, d2, d3, d4, o1, o2, o3, o4]))
    refine copyN ⟨l, ms, ts, bs, ⟨hr, ha, hb, hc⟩, ⟨hl, hla, hlb, hlc⟩, fun H q0 q1 q2 q3 hN x => ?_⟩
    have w0 := x.blk hb0
    have w1 := x.blk hb1
    have w2 := x.blk hb2
    have w3 := x.blk hb3
    have D1 : dec3 45 H (.sl b0 v0 0 l.length) = l := IsR.dec3 ⟨b0, v0, rfl, w0⟩
    have D2 : decI H (.sl b1 v1 0 ms.length) = ms := IsI.dec ⟨b1, v1, rfl, w1⟩
    have D3 : decI H (.sl b2 v2 0 ts.length) = ts := IsI.dec ⟨b2, v2, rfl, w2⟩
    have D4 : decI H (.sl b3 v3 0 bs.length) = bs := IsI.dec ⟨b3, v3, rfl, w3⟩
    have O1 : ok3 45 H (.sl b0 v0 0 l.length) := ⟨l, ⟨b0, v0, rfl, w0⟩, hl⟩
    have O2 : okI H (.sl b1 v1 0 ms.length) := ⟨ms, ⟨b1, v1, rfl, w1⟩, hla⟩
    have O3 : okI H (.sl b2 v2 0 ts.length) := ⟨ts, ⟨b2, v2, rfl, w2⟩, hlb⟩
    have O4 : okI H (.sl b3 v3 0 bs.length) := ⟨bs, ⟨b3, v3, rfl, w3⟩, hlc⟩
    have hHl := x.len
    have nlt := fun c => hN.lt (c := c)
    have l0 := nlt q0 (.inl rfl)
    have l1 := nlt q1 (.inr (.inl rfl))
    have l2 := nlt q2 (.inr (.inr (.inl rfl)))
    have l3 := nlt q3 (.inr (.inr (.inr rfl)))
    have u0 := blt w0
    have u1 := blt w1
    have u2 := blt w2
    have u3 := blt w3
    generalize hH2 : H ++ [(⟨0, 39, 5, [.int .i64 r, .sl q0 0 0 l.length, .sl q1 0 0 ms.length, .sl q2 0 0 ts.length, .sl q3 0 0 bs.length]⟩ : Blk)] = H2
    have x2 : Ext H H2 := ⟨_, hH2.symm⟩
    have hP : PtrS η.length H.length H2 r q0 q1 q2 q3 0 0 0 0 l ms ts bs := ⟨by rw [← hH2]; exact app_last _ _, hN.ext x2, hHl, by omega, by omega, by omega, by omega⟩
    have xx := x.trans x2
    have w0k := xx.blk hb0
    have w1k := xx.blk hb1
    have w2k := xx.blk hb2
    have w3k := xx.blk hb3
    have D1k : dec3 45 H2 (.sl b0 v0 0 l.length) = l := IsR.dec3 ⟨b0, v0, rfl, w0k⟩
    have D2k : decI H2 (.sl b1 v1 0 ms.length) = ms := IsI.dec ⟨b1, v1, rfl, w1k⟩
    have D3k : decI H2 (.sl b2 v2 0 ts.length) = ts := IsI.dec ⟨b2, v2, rfl, w2k⟩
    have D4k : decI H2 (.sl b3 v3 0 bs.length) = bs := IsI.dec ⟨b3, v3, rfl, w3k⟩
    have O1k : ok3 45 H2 (.sl b0 v0 0 l.length) := ⟨l, ⟨b0, v0, rfl, w0k⟩, hl⟩
    have O2k : okI H2 (.sl b1 v1 0 ms.length) := ⟨ms, ⟨b1, v1, rfl, w1k⟩, hla⟩
    have O3k : okI H2 (.sl b2 v2 0 ts.length) := ⟨ts, ⟨b2, v2, rfl, w2k⟩, hlb⟩
    have O4k : okI H2 (.sl b3 v3 0 bs.length) := ⟨bs, ⟨b3, v3, rfl, w3k⟩, hlc⟩
    have hp := hP.pb
    cases e1 : okB r l ms ts bs
    · repeat' (first | with_reducible refine iteI (fun _ => ?_) (fun _ => ?_) | ((first | unfold AOpsC | unfold AOpsD | skip); simp (maxSteps := 1000000) (disch := (first | omega | assumption | (simp only [List.length_append, List.length_cons, List.length_nil, List.length_set]; omega))) only [go_sem, ↓skipC, ↓exitC, ↓retC, ↓seqC, ↓blockC, ↓condC, ↓regC, ↓drawC, ↓drawStep, ↓AOpC, ↓AOpF, ↓AOpE, ↓AEff, ↓contE_at, ↓contC_at, ↓keepC_at, ↓keepW_at, ↓map_parts, ↓reduceIte, reduceCtorEq, Nat.reduceLT, Nat.reduceEqDiff, Nat.reduceAdd, Nat.reduceMul, Nat.reduceLeDiff, Nat.reduceSub, Nat.reduceBEq, Nat.reduceBNe, Nat.reduceBneDiff, Nat.reduceBeqDiff, ag_39, ag_48, by_39, by_48, nf_39, nf_48, pl_39, pl_48, ps_39, ps_48, sz_39, sz_48, ze_39, ze_48, Sp53, SOk, SRain, D53, w0, w1, w2, w3, D1, D2, D3, D4, O1, O2, O3, O4, hH2, hp, w0k, w1k, w2k, w3k, D1k, D2k, D3k, D4k, O1k, O2k, O3k, O4k, e1]))
      have z0 : wRnM r l ms ts bs y = ms := by simp [wRnM, wRnB, e1]
      have z1 : wRnT r l ms ts bs y = ts := by simp [wRnT, wRnB, e1]
      have z2 : wRnL r l ms ts bs y = (0, 0, 0, 0) := by simp [wRnL, wRnB, e1]
      rw [z0, z1, z2] at hK
      repeat' (first | with_reducible refine iteI (fun _ => ?_) (fun _ => ?_) | ((first | unfold AOpsC | unfold AOpsD | skip); simp (maxSteps := 1000000) (disch := (first | omega | assumption | (simp only [List.length_append, List.length_cons, List.length_nil, List.length_set]; omega))) only [go_sem, ↓skipC, ↓exitC, ↓retC, ↓seqC, ↓blockC, ↓condC, ↓regC, ↓drawC, ↓drawStep, ↓AOpC, ↓AOpF, ↓AOpE, ↓AEff, ↓contE_at, ↓contC_at, ↓keepC_at, ↓keepW_at, ↓map_parts, ↓reduceIte, reduceCtorEq, Nat.reduceLT, Nat.reduceEqDiff, Nat.reduceAdd, Nat.reduceMul, Nat.reduceLeDiff, Nat.reduceSub, Nat.reduceBEq, Nat.reduceBNe, Nat.reduceBneDiff, Nat.reduceBeqDiff, ag_39, ag_48, by_39, by_48, nf_39, nf_48, pl_39, pl_48, ps_39, ps_48, sz_39, sz_48, ze_39, ze_48, Sp53, SOk, SRain, D53]))
      exact hK _ _ _ _ _ _ _ _ _ hP.n4 xx
    cases e2 : inB y 0 10000
    · repeat' (first | with_reducible refine iteI (fun _ => ?_) (fun _ => ?_) | ((first | unfold AOpsC | unfold AOpsD | skip); simp (maxSteps := 1000000) (disch := (first | omega | assumption | (simp only [List.length_append, List.length_cons, List.length_nil, List.length_set]; omega))) only [go_sem, ↓skipC, ↓exitC, ↓retC, ↓seqC, ↓blockC, ↓condC, ↓regC, ↓drawC, ↓drawStep, ↓AOpC, ↓AOpF, ↓AOpE, ↓AEff, ↓contE_at, ↓contC_at, ↓keepC_at, ↓keepW_at, ↓map_parts, ↓reduceIte, reduceCtorEq, Nat.reduceLT, Nat.reduceEqDiff, Nat.reduceAdd, Nat.reduceMul, Nat.reduceLeDiff, Nat.reduceSub, Nat.reduceBEq, Nat.reduceBNe, Nat.reduceBneDiff, Nat.reduceBeqDiff, ag_39, ag_48, by_39, by_48, nf_39, nf_48, pl_39, pl_48, ps_39, ps_48, sz_39, sz_48, ze_39, ze_48, Sp53, SOk, SRain, D53, w0, w1, w2, w3, D1, D2, D3, D4, O1, O2, O3, O4, hH2, hp, w0k, w1k, w2k, w3k, D1k, D2k, D3k, D4k, O1k, O2k, O3k, O4k, e1, e2]))
      have z0 : wRnM r l ms ts bs y = ms := by simp [wRnM, wRnB, e2]
      have z1 : wRnT r l ms ts bs y = ts := by simp [wRnT, wRnB, e2]
      have z2 : wRnL r l ms ts bs y = (0, 0, 0, 0) := by simp [wRnL, wRnB, e2]
      rw [z0, z1, z2] at hK
      repeat' (first | with_reducible refine iteI (fun _ => ?_) (fun _ => ?_) | ((first | unfold AOpsC | unfold AOpsD | skip); simp (maxSteps := 1000000) (disch := (first | omega | assumption | (simp only [List.length_append, List.length_cons, List.length_nil, List.length_set]; omega))) only [go_sem, ↓skipC, ↓exitC, ↓retC, ↓seqC, ↓blockC, ↓condC, ↓regC, ↓drawC, ↓drawStep, ↓AOpC, ↓AOpF, ↓AOpE, ↓AEff, ↓contE_at, ↓contC_at, ↓keepC_at, ↓keepW_at, ↓map_parts, ↓reduceIte, reduceCtorEq, Nat.reduceLT, Nat.reduceEqDiff, Nat.reduceAdd, Nat.reduceMul, Nat.reduceLeDiff, Nat.reduceSub, Nat.reduceBEq, Nat.reduceBNe, Nat.reduceBneDiff, Nat.reduceBeqDiff, ag_39, ag_48, by_39, by_48, nf_39, nf_48, pl_39, pl_48, ps_39, ps_48, sz_39, sz_48, ze_39, ze_48, Sp53, SOk, SRain, D53]))
      exact hK _ _ _ _ _ _ _ _ _ hP.n4 xx
    have hy := inT e2
    have hB : wRnB r l ms ts bs y = true := by simp [wRnB, e1, e2]
    have z0 : wRnM r l ms ts bs y = nRnM l ms ts y := if_pos hB
    have z1 : wRnT r l ms ts bs y = nRnT l ms ts y := if_pos hB
    have z2 : wRnL r l ms ts bs y = nRnL l ms ts y := if_pos hB
    rw [z0, z1, z2] at hK
    repeat' (first | with_reducible refine iteI (fun _ => ?_) (fun _ => ?_) | ((first | unfold AOpsC | unfold AOpsD | skip); simp (maxSteps := 1000000) (disch := (first | omega | assumption | (simp only [List.length_append, List.length_cons, List.length_nil, List.length_set]; omega))) only [go_sem, ↓skipC, ↓exitC, ↓retC, ↓seqC, ↓blockC, ↓condC, ↓regC, ↓drawC, ↓drawStep, ↓AOpC, ↓AOpF, ↓AOpE, ↓AEff, ↓contE_at, ↓contC_at, ↓keepC_at, ↓keepW_at, ↓map_parts, ↓reduceIte, reduceCtorEq, Nat.reduceLT, Nat.reduceEqDiff, Nat.reduceAdd, Nat.reduceMul, Nat.reduceLeDiff, Nat.reduceSub, Nat.reduceBEq, Nat.reduceBNe, Nat.reduceBneDiff, Nat.reduceBeqDiff, ag_39, ag_48, by_39, by_48, nf_39, nf_48, pl_39, pl_48, ps_39, ps_48, sz_39, sz_48, ze_39, ze_48, Sp53, SOk, SRain, D53, w0, w1, w2, w3, D1, D2, D3, D4, O1, O2, O3, O4, hH2, hp, w0k, w1k, w2k, w3k, D1k, D2k, D3k, D4k, O1k, O2k, O3k, O4k, e1, e2]))
    unfold SRnP
    refine ⟨η.length, r, q0, q1, q2, q3, 0, 0, 0, 0, l, ms, ts, bs, hlo, hP, e1, hy, fun H3 hP3 t3 => ?_⟩
    have hp3 := hP3.pb
    have x3 := xx.after t3 (fun c hc => hP.low hc)
    rw [nRnM_len, nRnT_len] at hp3
    repeat' (first | with_reducible refine iteI (fun _ => ?_) (fun _ => ?_) | ((first | unfold AOpsC | unfold AOpsD | skip); simp (maxSteps := 1000000) (disch := (first | omega | assumption | (simp only [List.length_append, List.length_cons, List.length_nil, List.length_set]; omega))) only [go_sem, ↓skipC, ↓exitC, ↓retC, ↓seqC, ↓blockC, ↓condC, ↓regC, ↓drawC, ↓drawStep, ↓AOpC, ↓AOpF, ↓AOpE, ↓AEff, ↓contE_at, ↓contC_at, ↓keepC_at, ↓keepW_at, ↓map_parts, ↓reduceIte, reduceCtorEq, Nat.reduceLT, Nat.reduceEqDiff, Nat.reduceAdd, Nat.reduceMul, Nat.reduceLeDiff, Nat.reduceSub, Nat.reduceBEq, Nat.reduceBNe, Nat.reduceBneDiff, Nat.reduceBeqDiff, ag_39, ag_48, by_39, by_48, nf_39, nf_48, pl_39, pl_48, ps_39, ps_48, sz_39, sz_48, ze_39, ze_48, Sp53, SOk, SRain, D53, hp3]))
    have hk := hK _ _ _ _ _ _ _ _ _ hP3.n4 x3
    rw [nRnM_len, nRnT_len] at hk
    exact hk
  · exact h.elim

end Go.Proofs.Ytffefndnnbcplaa
