/- What functions of the program compute, said in the abstract logic; no conditions. -/
import Derived.Test.YtaalpmbopkbdiaaGreatGFlux2
import Derived.Test.YtaalpmbopkbdiaaGreatGRem

namespace Go.Proofs.YtaalpmbopkbdiaaGreat
open Go
set_option linter.unusedSimpArgs false
set_option linter.unusedVariables false
set_option maxRecDepth 100000
set_option maxHeartbeats 8000000
attribute [local go_sem] st0 AC thenA andC locLoadB KsSW_same KsSW_grow oldLoadB noBlkB KsSL_same KsOS_same KsOS_grow pv ev put upd dstOk cv cvc binI setB Value.oneCell' EndA resA resA1 List.mapM_cons List.mapM_nil Option.pure_def Option.bind_eq_bind noLocV noLoc1 noLoc noLocs plainV cellsA newVarA putCells condA lam0 inBlockA cur lenA rowA writeA dstA appendC appendZ mapPut mapGet avoidsB avoidB clearB Array.toList_append Op.operands Call.operands newSlot Nat.zero_add Nat.add_zero Nat.succ_ne_self Nat.lt_add_one Nat.zero_lt_succ true_and and_true true_or or_true false_or or_false and_self true_implies forall_const Bool.false_eq_true Bool.true_eq_false false_implies implies_true imp_self ne_eq not_false_eq_true not_true_eq_false false_and and_false List.getElem?_toArray List.getElem?_cons_succ List.getElem?_cons_zero Option.bind_some Option.map_some Bool.not_true Bool.not_false List.getD_cons_zero List.getD_cons_succ Option.some.injEq exists_eq_left' AV.bool.injEq List.map_cons List.map_nil List.all_cons List.all_nil Bool.and_self Bool.and_true Bool.true_and List.append_nil List.cons_append List.nil_append List.length_cons List.length_nil List.drop_zero List.take_zero List.drop_succ_cons List.take_succ_cons List.take_nil List.drop_nil List.not_mem_nil List.mem_cons List.contains_nil List.contains_cons Bool.or_self Bool.or_true Bool.true_or Bool.false_or Bool.or_false Bool.and_false Bool.false_and KsS_same KsS_grow skipV KsS_ext KsSW_ext KsOS_ext rep1 rep2 rep3 rep4 rep5 List.flatten_cons List.flatten_nil partsA isPtr fillA List.size_toArray ltT ltF leT leF ltTn ltFn leTn leFn eqTi eqFi wrapId toNat1 intGet boolGet memD app_get app_last app_lst app_set app_setL app_setF set_ne set_eq gt_iff_lt ge_iff_le decide_eq_true_eq len2 len3 get20 get21 drop2 put2 get30 get31 get32 drop3 put3 putI pairEta bneTi bneFi beqTi beqFi bne_eq_false_iff_eq beq_eq_false_iff_ne beq_iff_eq bne_iff_ne Int.toNat_natCast Nat.mul_one List.length_map Bool.not_eq_true Bool.not_eq_false Bool.decide_eq_true decide_true decide_false Bool.not_eq_true' Bool.not_eq_false' decide_eq_false_iff_not eq_self Decidable.not_not
attribute [local go_sem ↓] skipC exitC retC seqC blockC condC regC drawC drawStep AOpC AOpF AOpE AEff contE_at contC_at keepC_at keepW_at keepO_at keepL_at map_parts
attribute [local go_sem] reduceCtorEq Nat.reduceLT Nat.reduceEqDiff Nat.reduceAdd Nat.reduceMul Nat.reduceLeDiff Nat.reduceSub Nat.reduceBEq Nat.reduceBNe Nat.reduceBneDiff Nat.reduceBeqDiff
attribute [local go_sem ↓] reduceIte
attribute [local go_sem] ag_25 ag_3 ag_34 ag_51 ag_54 by_25 by_3 by_34 by_51 by_54 el_25 en_3 fi_34_1 fi_34_2 fi_51_0 fi_51_2 fi_54_0 fi_54_1 fi_54_2 in_3 nf_34 nf_51 nf_54 pl_34 pl_51 pl_54 ps_34 ps_51 ps_54 sz_25 sz_3 sz_34 sz_51 sz_54 ze_25 ze_3 ze_34 ze_51 ze_54

def SSame3 : List AV → List Blk → (AV → List Blk → Prop) → Prop
  | [.agg [.int .i64 a, .int .i64 b, .int .i64 c]], η, K => K (.agg [.int .i64 a, .int .i64 b, .int .i64 c]) η
  | _, _, _ => False
def borderB (a b c : Int) : Bool := inB a 0 10000 && inB b 0 1000 && inB c 0 250
def SBorder : List AV → List Blk → (AV → List Blk → Prop) → Prop
  | [.agg [.int .i64 a, .int .i64 b, .int .i64 c]], η, K => K (.bool (borderB a b c)) η
  | _, _, _ => False

def brdP (y z w : Int) : Prop := (0 ≤ y ∧ y ≤ 10000) ∧ (0 ≤ z ∧ z ≤ 1000) ∧ (0 ≤ w ∧ w ≤ 250)
theorem brdT {y z w : Int} (h : borderB y z w = true) : brdP y z w := by
  simp only [borderB, Bool.and_eq_true] at h
  exact ⟨inT h.1.1, inT h.1.2, inT h.2⟩
def bOut (ms : List Int) (w : Int) : Int := (ms.getD (ms.length - 1) 0 * w).tdiv 1000
def bTr (ms ts : List Int) (w : Int) : Int := shareO (ts.getD (ms.length - 1) 0) (bOut ms w) (ms.getD (ms.length - 1) 0)
def bM (ms : List Int) (w : Int) : List Int := ms.set (ms.length - 1) (ms.getD (ms.length - 1) 0 - bOut ms w)
def bT (ms ts : List Int) (w : Int) : List Int := ts.set (ms.length - 1) (ts.getD (ms.length - 1) 0 - bTr ms ts w)
def nBrM (l : List Id3) (ms ts : List Int) (y z w : Int) : List Int := if (bM ms w).sum + y ≤ 10000000 then (bM ms w).set 0 ((bM ms w).getD 0 0 + y) else bM ms w
def nBrT (l : List Id3) (ms ts : List Int) (y z w : Int) : List Int := if (bM ms w).sum + y ≤ 10000000 then (bT ms ts w).set 0 ((bT ms ts w).getD 0 0 + y * z) else bT ms ts w
def nBrL (l : List Id3) (ms ts : List Int) (y z w : Int) : Int × Int × Int × Int := if (bM ms w).sum + y ≤ 10000000 then (y, bOut ms w, y * z, bTr ms ts w) else (0, bOut ms w, 0, bTr ms ts w)
theorem getSetD {l : List Int} {i j : Nat} {x d : Int} : (l.set i x).getD j d = if i = j ∧ j < l.length then x else l.getD j d := by
  simp only [List.getD_eq_getElem?_getD, List.getElem?_set]
  by_cases h : i = j
  · subst h
    by_cases h2 : i < l.length
    · simp [h2]
    · simp [h2]
  · simp [h]
theorem bout_bd {ms : List Int} {w : Int} (hw : 0 ≤ w ∧ w ≤ 250) (hm : 0 ≤ ms.getD (ms.length - 1) 0 ∧ ms.getD (ms.length - 1) 0 ≤ 10000000) : 0 ≤ ms.getD (ms.length - 1) 0 * w ∧ ms.getD (ms.length - 1) 0 * w ≤ 2500000000 ∧ 0 ≤ bOut ms w ∧ bOut ms w ≤ ms.getD (ms.length - 1) 0 := by
  have h1 : 0 ≤ ms.getD (ms.length - 1) 0 * w := Int.mul_nonneg hm.1 hw.1
  have h2 : ms.getD (ms.length - 1) 0 * w ≤ ms.getD (ms.length - 1) 0 * 250 := Int.mul_le_mul_of_nonneg_left hw.2 hm.1
  unfold bOut
  rw [Int.tdiv_eq_ediv_of_nonneg h1]
  omega
theorem posSet {ms : List Int} {i : Nat} {x : Int} (h : posB ms) (hx : 0 ≤ x ∧ x ≤ 10000000000) : posB (ms.set i x) := by
  intro z hz
  rcases List.mem_or_eq_of_mem_set hz with hz | rfl
  · exact h z hz
  · exact hx
theorem mul_yz {y z : Int} (hy : 0 ≤ y ∧ y ≤ 10000) (hz : 0 ≤ z ∧ z ≤ 1000) : 0 ≤ y * z ∧ y * z ≤ 10000000 := by
  have h1 : 0 ≤ y * z := Int.mul_nonneg hy.1 hz.1
  have h2 : y * z ≤ y * 1000 := Int.mul_le_mul_of_nonneg_left hz.2 hy.1
  omega

/- spec.BorderOk -/
def Sp93 (lo : Nat) : Spec := fun g args η K => match g with | 55 => SIn args η K | _ => False
theorem Sp93_ok {lo : Nat} : Sound Tryz.prog lo (Sp93 lo) := by
  intro g args η K h
  unfold Sp93 at h
  split at h
  · exact .inl (f55_ok h)
  · exact h.elim
theorem f93_ok {lo : Nat} {args : List AV} {η : List Blk} {K : AV → List Blk → Prop} (h : SBorder args η K) : AF Tryz.prog lo 93 args η K := by
  unfold SBorder at h
  split at h
  · rename_i a b c
    refine AF_run Sp93_ok D0 [] [.tmp 2] hm Tryz.func93 rfl (by decide) Tryz.ntmps93 rfl (by kernel_rfl) (Nat.le_of_ble_eq_true rfl) ?_; intro hlo
    cases h1 : inB a 0 10000
    · repeat' (first | with_reducible refine iteI (fun _ => ?_) (fun _ => ?_) | ((first | unfold AOpsC | unfold AOpsD | skip); simp (maxSteps := 1000000) (disch := (first | omega | assumption | (simp only [List.length_append, List.length_cons, List.length_nil, List.length_set]; omega))) only [go_sem, Sp93, SIn, h1]))
      exact KB h (by simp [borderB, h1])
    cases h2 : inB b 0 1000
    · repeat' (first | with_reducible refine iteI (fun _ => ?_) (fun _ => ?_) | ((first | unfold AOpsC | unfold AOpsD | skip); simp (maxSteps := 1000000) (disch := (first | omega | assumption | (simp only [List.length_append, List.length_cons, List.length_nil, List.length_set]; omega))) only [go_sem, Sp93, SIn, h1, h2]))
      exact KB h (by simp [borderB, h2])
    cases h3 : inB c 0 250
    · repeat' (first | with_reducible refine iteI (fun _ => ?_) (fun _ => ?_) | ((first | unfold AOpsC | unfold AOpsD | skip); simp (maxSteps := 1000000) (disch := (first | omega | assumption | (simp only [List.length_append, List.length_cons, List.length_nil, List.length_set]; omega))) only [go_sem, Sp93, SIn, h1, h2, h3]))
      exact KB h (by simp [borderB, h3])
    · repeat' (first | with_reducible refine iteI (fun _ => ?_) (fun _ => ?_) | ((first | unfold AOpsC | unfold AOpsD | skip); simp (maxSteps := 1000000) (disch := (first | omega | assumption | (simp only [List.length_append, List.length_cons, List.length_nil, List.length_set]; omega))) only [go_sem, Sp93, SIn, h1, h2, h3]))
      exact KB h (by simp [borderB, h1, h2, h3])
  · exact h.elim

/- impl.BorderOk -/
def Sp99 (lo : Nat) : Spec := fun g args η K => match g with | 59 => SIn args η K | _ => False
theorem Sp99_ok {lo : Nat} : Sound Tryz.prog lo (Sp99 lo) := by
  intro g args η K h
  unfold Sp99 at h
  split at h
  · exact .inl (f59_ok h)
  · exact h.elim
theorem f99_ok {lo : Nat} {args : List AV} {η : List Blk} {K : AV → List Blk → Prop} (h : SBorder args η K) : AF Tryz.prog lo 99 args η K := by
  unfold SBorder at h
  split at h
  · rename_i a b c
    refine AF_run Sp99_ok D0 [] [.tmp 2] hm Tryz.func99 rfl (by decide) Tryz.ntmps99 rfl (by kernel_rfl) (Nat.le_of_ble_eq_true rfl) ?_; intro hlo
    cases h1 : inB a 0 10000
    · repeat' (first | with_reducible refine iteI (fun _ => ?_) (fun _ => ?_) | ((first | unfold AOpsC | unfold AOpsD | skip); simp (maxSteps := 1000000) (disch := (first | omega | assumption | (simp only [List.length_append, List.length_cons, List.length_nil, List.length_set]; omega))) only [go_sem, Sp99, SIn, h1]))
      exact KB h (by simp [borderB, h1])
    cases h2 : inB b 0 1000
    · repeat' (first | with_reducible refine iteI (fun _ => ?_) (fun _ => ?_) | ((first | unfold AOpsC | unfold AOpsD | skip); simp (maxSteps := 1000000) (disch := (first | omega | assumption | (simp only [List.length_append, List.length_cons, List.length_nil, List.length_set]; omega))) only [go_sem, Sp99, SIn, h1, h2]))
      exact KB h (by simp [borderB, h2])
    cases h3 : inB c 0 250
    · repeat' (first | with_reducible refine iteI (fun _ => ?_) (fun _ => ?_) | ((first | unfold AOpsC | unfold AOpsD | skip); simp (maxSteps := 1000000) (disch := (first | omega | assumption | (simp only [List.length_append, List.length_cons, List.length_nil, List.length_set]; omega))) only [go_sem, Sp99, SIn, h1, h2, h3]))
      exact KB h (by simp [borderB, h3])
    · repeat' (first | with_reducible refine iteI (fun _ => ?_) (fun _ => ?_) | ((first | unfold AOpsC | unfold AOpsD | skip); simp (maxSteps := 1000000) (disch := (first | omega | assumption | (simp only [List.length_append, List.length_cons, List.length_nil, List.length_set]; omega))) only [go_sem, Sp99, SIn, h1, h2, h3]))
      exact KB h (by simp [borderB, h1, h2, h3])
  · exact h.elim

def SBrP (lo : Nat) : List AV → List Blk → (AV → List Blk → Prop) → Prop
  | [.ptr p 0 0, .agg [.int .i64 y, .int .i64 z, .int .i64 w]], η, K => ∃ (n : Nat) (r : Int) (b0 b1 b2 b3 v0 v1 v2 v3 : Nat) (l : List Id3) (ms ts bs : List Int), lo ≤ n ∧ PtrS n p η r b0 b1 b2 b3 v0 v1 v2 v3 l ms ts bs ∧ okB r l ms ts bs = true ∧ brdP y z w ∧
      ∀ H, PtrS n p H r b0 b1 b2 b3 v0 v1 v2 v3 l (nBrM l ms ts y z w) (nBrT l ms ts y z w) bs → Touch (hit5 p b0 b1 b2 b3) η H → K (.agg [.int .i64 (nBrL l ms ts y z w).1, .int .i64 (nBrL l ms ts y z w).2.1, .int .i64 (nBrL l ms ts y z w).2.2.1, .int .i64 (nBrL l ms ts y z w).2.2.2]) H
  | _, _, _ => False
def SBrQ : List AV → List Blk → (AV → List Blk → Prop) → Prop
  | [.agg [.int .i64 r, v, a, b, c], .agg [.int .i64 y, .int .i64 z, .int .i64 w]], η, K => ∃ (l : List Id3) (ms ts bs : List Int), ((IsR 69 3 enc3 η v l ∧ IsI η a ms ∧ IsI η b ts ∧ IsI η c bs) ∧ okB r l ms ts bs = true ∧ brdP y z w) ∧ ∀ H b0 b1 b2 b3 v0 v1 v2 v3, New4 η.length H b0 b1 b2 b3 v0 v1 v2 v3 l (nBrM l ms ts y z w) (nBrT l ms ts y z w) bs → Ext η H →
      K (.tup [.agg [.int .i64 r, .sl b0 v0 0 l.length, .sl b1 v1 0 ms.length, .sl b2 v2 0 ts.length, .sl b3 v3 0 bs.length], .agg [.int .i64 (nBrL l ms ts y z w).1, .int .i64 (nBrL l ms ts y z w).2.1, .int .i64 (nBrL l ms ts y z w).2.2.1, .int .i64 (nBrL l ms ts y z w).2.2.2]]) H
  | _, _, _ => False
/- (*impl.State).border -/
def Sp102 (lo : Nat) : Spec := fun g args η K => match g with | 115 => SSum args η K | 138 => SRem lo args η K | _ => False
theorem Sp102_ok {lo : Nat} : Sound Tryz.prog lo (Sp102 lo) := by
  intro g args η K h
  unfold Sp102 at h
  split at h
  · exact .inl (f115_ok h)
  · exact .inl (f138_ok h)
  · exact h.elim
def Dr102 : Draws := fun id => match id with | 3 => ([0, 0, 0, 4, 12, 28, 0, 124, 252, 0, 512, 2044, 4092, 8191], [], [], (.one 0 (.one 1 (.one 2 (.one 3 (.one 4 (.one 5 (.one 6 (.one 7 (.one 8 (.one 9 (.one 10 (.one 11 (.one 12 (.one 13 .nil))))))))))))))) | 4 => ([0, 1, 3, 7, 15, 0, 32, 127, 255], [4], [], (.one 0 (.one 1 (.one 2 (.one 3 (.one 5 (.one 6 (.one 4 (.one 7 (.one 8 .nil)))))))))) | 5 => ([0, 1, 3, 7, 15, 31, 0, 64, 255, 511, 1023], [], [], (.one 0 (.one 1 (.one 2 (.one 3 (.one 4 (.one 5 (.one 6 (.one 7 (.one 8 (.one 9 (.one 10 .nil)))))))))))) | 6 => ([0, 1, 3, 7, 15, 31, 0, 64, 0, 256, 960, 2047, 4095, 8191], [], [], (.one 0 (.one 1 (.one 2 (.one 3 (.one 4 (.one 5 (.one 6 (.one 7 (.one 8 (.one 9 (.one 10 (.one 11 (.one 12 (.one 13 .nil))))))))))))))) | 7 => ([0, 1, 0, 4, 0, 16, 60, 3, 131, 511, 1023], [], [], (.one 0 (.one 1 (.one 2 (.one 4 (.one 7 (.three 3 5 8 (.two 5 8 (.one 6 (.one 8 (.one 9 (.one 10 .nil)))) (.one 5 (.one 6 (.one 9 (.one 10 .nil))))) (.two 3 8 (.one 6 (.one 8 (.one 9 (.one 10 .nil)))) (.one 3 (.one 6 (.one 9 (.one 10 .nil))))) (.one 3 (.one 5 (.one 6 (.one 9 (.one 10 .nil)))))))))))) | _ => ([], [], [], .nil)
theorem f102_ok {lo : Nat} {args : List AV} {η : List Blk} {K : AV → List Blk → Prop} (h : SBrP lo args η K) : AF Tryz.prog lo 102 args η K := by
  unfold SBrP at h
  split at h
  · obtain ⟨n, r, b0, b1, b2, b3, v0, v1, v2, v3, l, ms, ts, bs, hn, hP, e1, hy, hK⟩ := h
    rename_i p y z w
    obtain ⟨k1, k2, k3, k4, k5, k6, k7, k8⟩ := okT e1
    have hl8 : l.length ≤ 128 := by have := mesh_len k1; omega
    have hne := mesh_ne k1
    obtain ⟨hy1, hy2, hy3⟩ := hy
    have yz := mul_yz hy1 hy2
    obtain ⟨J, hJ⟩ : ∃ J, J + 1 = ms.length := ⟨ms.length - 1, by omega⟩
    have hJ1 : ms.length - 1 = J := by omega
    have hjn : ((ms.length : Int) - 1).toNat = J := by omega
    have mJ := cells_at k7 (i := J) (by omega)
    have m0 := cells_at k7 (i := 0) (by omega)
    have ob := bout_bd (ms := ms) hy3 (by rw [hJ1]; omega)
    rw [hJ1] at ob
    have tb := shareO_le (t := ts.getD J 0) (p := bOut ms w) (w := ms.getD J 0) (by omega)
    have eO : (ms.getD J 0 * w).tdiv 1000 = bOut ms w := by rw [bOut, hJ1]
    have eT : shareO (ts.getD J 0) (bOut ms w) (ms.getD J 0) = bTr ms ts w := by rw [bTr, hJ1]
    have eM : ms.set J (ms.getD J 0 - bOut ms w) = bM ms w := by rw [bM, hJ1]
    have eS : ts.set J (ts.getD J 0 - bTr ms ts w) = bT ms ts w := by rw [bT, hJ1]
    have hpos := cells_posM k7
    have hposM : posB (bM ms w) := by rw [← eM]; exact posSet hpos (by omega)
    have hlM : (bM ms w).length = ms.length := by rw [← eM]; simp
    have hlT : (bT ms ts w).length = ts.length := by rw [← eS]; simp
    have sm := sum_bd hposM
    rw [hlM] at sm
    have g0M : 0 ≤ (bM ms w).getD 0 0 ∧ (bM ms w).getD 0 0 ≤ 10000000000 := hposM _ (getD_mem (by omega))
    have g0T : 0 ≤ (bT ms ts w).getD 0 0 ∧ (bT ms ts w).getD 0 0 ≤ 10000000000 := by
      rw [← eS, getSetD]
      rw [eT] at tb
      split <;> omega
    have hp := hP.pb
    have hg1 := hP.n4.g1
    have hpl := blt hp
    have hg1l := blt hg1
    have hg2l := blt hP.n4.g2
    have hnp := hP.np
    have h5 : ∀ c, hit5 p b0 b1 b2 b3 c → c < η.length := fun c hc => by
      rcases hc with rfl | hc
      · exact hpl
      · exact hP.n4.lt hc
    refine AF_run Sp102_ok Dr102 [5] [.cell 4 51] hm Tryz.func102 rfl (by decide) Tryz.ntmps102 rfl (by kernel_rfl) (Nat.le_of_ble_eq_true rfl) ?_; intro hlo
    repeat' (first | with_reducible refine iteI (fun _ => ?_) (fun _ => ?_) | ((first | unfold AOpsC | unfold AOpsD | skip); simp (maxSteps := 1000000) (disch := (first | omega | assumption | (simp only [List.length_append, List.length_cons, List.length_nil, List.length_set]; omega))) only [go_sem, Sp102, Dr102, hp, hg1, hjn, eO]))
    generalize hH0 : η ++ [(⟨0, 51, 4, [.int .i64 0, .int .i64 0, .int .i64 0, .int .i64 0]⟩ : Blk)] = H0
    have x0 : Ext η H0 := ⟨_, hH0.symm⟩
    have hq0 : H0[η.length]? = some (ledB 0 0 0 0) := by rw [← hH0]; exact app_last _ _
    unfold SRem
    refine ⟨n, r, b0, b1, b2, b3, v0, v1, v2, v3, l, ms, ts, bs, 0, 0, 0, 0, hn, ⟨x0.blk hP.pb, hP.n4.ext x0, hP.np, hP.p0, hP.p1, hP.p2, hP.p3⟩, hq0, by omega, ⟨fun e => by omega, fun e => by have := h5 η.length (.inr e); omega⟩, by omega, ?_, ?_, by omega, ?_⟩
    · rw [hjn]; omega
    · rw [hjn]; omega
    rw [hjn, eT, eM, eS]
    intro H1 hP1 hq1 t1
    have hlen1 : H0.length ≤ H1.length := t1.1
    have hlen0 := x0.len
    have pp := hP1.pb
    rw [hlM, hlT] at pp
    have pg1 := hP1.n4.g1
    have pg2 := hP1.n4.g2
    have d12 := hP1.n4.d12
    have p1 := hP1.p1
    have p2 := hP1.p2
    have hqq := hq1
    unfold ledB at hqq
    simp only [Int.zero_add] at hqq
    have dm : decI H1 (.sl b1 v1 0 ms.length) = bM ms w := IsI.dec ⟨b1, v1, by rw [hlM], pg1⟩
    have om : okI H1 (.sl b1 v1 0 ms.length) := ⟨bM ms w, ⟨b1, v1, by rw [hlM], pg1⟩, by omega⟩
    have tq : Touch (hit5 p b0 b1 b2 b3) η H1 := ⟨by omega, fun c hc hs => by rw [t1.2 c (by omega) (fun e => e.elim (fun e => by omega) hs), x0.get hc]⟩
    have lq1 := blt pg1
    have lq2 := blt pg2
    have lqq := blt hqq
    have lpp := blt pp
    have hlb1 : lo ≤ b1 := Nat.le_trans hn hP.n4.n1
    have hlb2 : lo ≤ b2 := Nat.le_trans hn hP.n4.n2
    have nq1 : η.length ≠ b1 := by omega
    have nq2 : η.length ≠ b2 := by omega
    have nqp : η.length ≠ p := by omega
    repeat' (first | with_reducible refine iteI (fun _ => ?_) (fun _ => ?_) | ((first | unfold AOpsC | unfold AOpsD | skip); simp (maxSteps := 1000000) (disch := (first | omega | assumption | (simp only [List.length_append, List.length_cons, List.length_nil, List.length_set]; omega))) only [go_sem, Sp102, Dr102, pp, hqq]))
    unfold SSum
    refine ⟨⟨om, by rw [dm]; exact hposM⟩, ?_⟩
    rw [dm]
    by_cases hle : (bM ms w).sum + y ≤ 10000000
    case neg =>
      have zM : nBrM l ms ts y z w = bM ms w := if_neg hle
      have zT : nBrT l ms ts y z w = bT ms ts w := if_neg hle
      have zL : nBrL l ms ts y z w = (0, bOut ms w, 0, bTr ms ts w) := if_neg hle
      rw [zM, zT, zL] at hK
      repeat' (first | with_reducible refine iteI (fun _ => ?_) (fun _ => ?_) | ((first | unfold AOpsC | unfold AOpsD | skip); simp (maxSteps := 1000000) (disch := (first | omega | assumption | (simp only [List.length_append, List.length_cons, List.length_nil, List.length_set]; omega))) only [go_sem, Sp102, Dr102, pp, hqq]))
      exact hK _ hP1 tq
    have zM : nBrM l ms ts y z w = (bM ms w).set 0 ((bM ms w).getD 0 0 + y) := if_pos hle
    have zT : nBrT l ms ts y z w = (bT ms ts w).set 0 ((bT ms ts w).getD 0 0 + y * z) := if_pos hle
    have zL : nBrL l ms ts y z w = (y, bOut ms w, y * z, bTr ms ts w) := if_pos hle
    rw [zM, zT, zL] at hK
    have j1 := hP1.put1 (ms' := (bM ms w).set 0 ((bM ms w).getD 0 0 + y)) (by simp)
    have j2 := j1.put2 (ts' := (bT ms ts w).set 0 ((bT ms ts w).getD 0 0 + y * z)) (by simp)
    have i0M : 0 < (bM ms w).length := by omega
    have i0T : 0 < (bT ms ts w).length := by omega
    have gM : ((bM ms w).map (AV.int .i64))[0]? = some (.int .i64 ((bM ms w).getD 0 0)) := intGet i0M
    have gT : ((bT ms ts w).map (AV.int .i64))[0]? = some (.int .i64 ((bT ms ts w).getD 0 0)) := intGet i0T
    have sM : ((bM ms w).map (AV.int .i64)).take 0 ++ [.int .i64 ((bM ms w).getD 0 0 + y)] ++ ((bM ms w).map (AV.int .i64)).drop 1 = ((bM ms w).set 0 ((bM ms w).getD 0 0 + y)).map (.int .i64) := putI i0M
    have sT : ((bT ms ts w).map (AV.int .i64)).take 0 ++ [.int .i64 ((bT ms ts w).getD 0 0 + y * z)] ++ ((bT ms ts w).map (AV.int .i64)).drop 1 = ((bT ms ts w).set 0 ((bT ms ts w).getD 0 0 + y * z)).map (.int .i64) := putI i0T
    rw [List.take_zero, List.nil_append] at sM sT
    repeat' (first | with_reducible refine iteI (fun _ => ?_) (fun _ => ?_) | ((first | unfold AOpsC | unfold AOpsD | skip); simp (maxSteps := 1000000) (disch := (first | omega | assumption | (simp only [List.length_append, List.length_cons, List.length_nil, List.length_set]; omega))) only [go_sem, Sp102, Dr102, pp, hqq, pg1, pg2, gM, gT, sM, sT, hlM, hlT, setGet, List.length_set, List.set_set, Int.toNat_zero, Nat.zero_mul]))
    have tw := (tq.trans (Touch.set (S := hit5 p b0 b1 b2 b3) (b := b1) (x := ⟨v1, 3, 1, ((bM ms w).set 0 ((bM ms w).getD 0 0 + y)).map (.int .i64)⟩) (.inr (.inr (.inl rfl))))).trans (Touch.set (S := hit5 p b0 b1 b2 b3) (b := b2) (x := ⟨v2, 3, 1, ((bT ms ts w).set 0 ((bT ms ts w).getD 0 0 + y * z)).map (.int .i64)⟩) (.inr (.inr (.inr (.inl rfl)))))
    refine hK _ ⟨setBlk j2.pb nqp, j2.n4.touch (Touch.set (S := fun x => x = η.length) rfl) (fun x (e : x = η.length) e2 => by have := h5 x (.inr e2); omega), hP1.np, hP1.p0, hP1.p1, hP1.p2, hP1.p3⟩ ⟨by simpa using tw.1, fun c hc hs => ?_⟩
    rw [set_ne (by omega)]
    exact tw.2 c hc hs
  · exact h.elim

/- spec.l13Apply -/
def Sp94 (lo : Nat) : Spec := fun g args η K => match g with | 30 => SCopyS args η K | 64 => SSum args η K | 71 => SShare args η K | _ => False
theorem Sp94_ok {lo : Nat} : Sound Tryz.prog lo (Sp94 lo) := by
  intro g args η K h
  unfold Sp94 at h
  split at h
  · exact .inl (f30_ok h)
  · exact .inl (f64_ok h)
  · exact .inl (f71_ok h)
  · exact h.elim
def Dr94 : Draws := fun id => match id with | 3 => ([0, 1, 0, 7, 15, 0, 32, 127, 255, 511], [], [], (.one 0 (.one 1 (.one 2 (.one 3 (.one 4 (.one 5 (.one 6 (.one 7 (.one 8 (.one 9 .nil))))))))))) | 4 => ([0, 1, 0, 7, 15, 0, 0, 64, 0, 448, 960, 2047, 4095], [], [], (.one 0 (.one 1 (.one 2 (.one 3 (.one 4 (.one 5 (.one 6 (.one 7 (.one 8 (.one 9 (.one 10 (.one 11 (.one 12 .nil)))))))))))))) | 5 => ([0, 1, 0, 0, 8, 0, 56, 120, 0, 504, 1023, 2047], [], [], (.one 0 (.one 1 (.one 2 (.one 3 (.one 4 (.one 5 (.one 6 (.one 7 (.one 8 (.one 9 (.one 10 (.one 11 .nil))))))))))))) | 6 => ([0, 1, 0, 0, 8, 0, 56, 120, 0, 504, 1023, 2047], [], [], (.one 0 (.one 1 (.one 2 (.one 3 (.one 4 (.one 5 (.one 6 (.one 7 (.one 8 (.one 9 (.one 10 (.one 11 .nil))))))))))))) | 8 => ([0, 1, 3, 0, 8, 31, 63], [2], [], (.one 0 (.one 1 (.one 3 (.one 4 (.one 2 (.one 5 (.one 6 .nil)))))))) | 9 => ([0, 1, 0, 4, 12, 28, 0, 64, 252, 511, 1023], [], [], (.one 0 (.one 1 (.one 2 (.one 3 (.one 4 (.one 5 (.one 6 (.one 7 (.one 8 (.one 9 (.one 10 .nil)))))))))))) | 10 => ([0, 1, 0, 4, 12, 28, 0, 64, 0, 256, 960, 2044, 4095, 8191], [], [], (.one 0 (.one 1 (.one 2 (.one 3 (.one 4 (.one 5 (.one 6 (.one 7 (.one 8 (.one 9 (.one 10 (.one 11 (.one 12 (.one 13 .nil))))))))))))))) | 13 => ([0, 0, 1, 7], [], [], (.one 0 (.two 1 2 (.one 2 (.one 3 .nil)) (.one 1 (.one 3 .nil))))) | _ => ([], [], [], .nil)
theorem f94_ok {lo : Nat} {args : List AV} {η : List Blk} {K : AV → List Blk → Prop} (h : SBrQ args η K) : AF Tryz.prog lo 94 args η K := by
  unfold SBrQ at h
  split at h
  · obtain ⟨l, ms, ts, bs, ⟨⟨hr, ha, hb, hc⟩, e1, hy⟩, hK⟩ := h
    rename_i r _ _ _ _ y z w
    obtain ⟨k1, k2, k3, k4, k5, k6, k7, k8⟩ := okT e1
    have hl8 : l.length ≤ 128 := by have := mesh_len k1; omega
    have hb8 : bs.length ≤ 8 := by have := mesh_len k1; omega
    have hne := mesh_ne k1
    have hl : l.length ≤ 1048576 := by omega
    have hla : ms.length ≤ 1048576 := by omega
    have hlb : ts.length ≤ 1048576 := by omega
    have hlc : bs.length ≤ 1048576 := by omega
    have d1 := hr.dec3
    have d2 := ha.dec
    have d3 := hb.dec
    have d4 := hc.dec
    have o1 : ok3 69 _ _ := ⟨l, hr, hl⟩
    have o2 : okI _ _ := ⟨ms, ha, hla⟩
    have o3 : okI _ _ := ⟨ts, hb, hlb⟩
    have o4 : okI _ _ := ⟨bs, hc, hlc⟩
    have hr' := hr
    have ha' := ha
    have hb' := hb
    have hc' := hc
    obtain ⟨b0, v0, rfl, hb0⟩ := hr'
    obtain ⟨b1, v1, rfl, hb1⟩ := ha'
    obtain ⟨b2, v2, rfl, hb2⟩ := hb'
    obtain ⟨b3, v3, rfl, hb3⟩ := hc'
    obtain ⟨hy1, hy2, hy3⟩ := hy
    have yz := mul_yz hy1 hy2
    obtain ⟨J, hJ⟩ : ∃ J, J + 1 = ms.length := ⟨ms.length - 1, by omega⟩
    have hJ1 : ms.length - 1 = J := by omega
    have hjn : ((ms.length : Int) - 1).toNat = J := by omega
    have mJ := cells_at k7 (i := J) (by omega)
    have m0 := cells_at k7 (i := 0) (by omega)
    have ob := bout_bd (ms := ms) hy3 (by rw [hJ1]; omega)
    rw [hJ1] at ob
    have tb := shareO_le (t := ts.getD J 0) (p := bOut ms w) (w := ms.getD J 0) (by omega)
    have eO : (ms.getD J 0 * w).tdiv 1000 = bOut ms w := by rw [bOut, hJ1]
    have eT : shareO (ts.getD J 0) (bOut ms w) (ms.getD J 0) = bTr ms ts w := by rw [bTr, hJ1]
    have eM : ms.set J (ms.getD J 0 - bOut ms w) = bM ms w := by rw [bM, hJ1]
    have eS : ts.set J (ts.getD J 0 - bTr ms ts w) = bT ms ts w := by rw [bT, hJ1]
    have hpos := cells_posM k7
    have hposM : posB (bM ms w) := by rw [← eM]; exact posSet hpos (by omega)
    have hlM : (bM ms w).length = ms.length := by rw [← eM]; simp
    have hlT : (bT ms ts w).length = ts.length := by rw [← eS]; simp
    have sm := sum_bd hposM
    rw [hlM] at sm
    have g0M : 0 ≤ (bM ms w).getD 0 0 ∧ (bM ms w).getD 0 0 ≤ 10000000000 := hposM _ (getD_mem (by omega))
    have g0T : 0 ≤ (bT ms ts w).getD 0 0 ∧ (bT ms ts w).getD 0 0 ≤ 10000000000 := by
      rw [← eS, getSetD]
      rw [eT] at tb
      split <;> omega
    rw [eT] at tb
    refine AF_run Sp94_ok Dr94 [] [.cell 4 34, .cell 5 51] hm Tryz.func94 rfl (by decide) Tryz.ntmps94 rfl (by kernel_rfl) (Nat.le_of_ble_eq_true rfl) ?_; intro hlo
    repeat' (first | with_reducible refine iteI (fun _ => ?_) (fun _ => ?_) | ((first | unfold AOpsC | unfold AOpsD | skip); simp (maxSteps := 1000000) (disch := (first | omega | assumption | (simp only [List.length_append, List.length_cons, List.length_nil, List.length_set]; omega))) only [go_sem, Sp94, SShare, Dr94, hb0, hb1, hb2, hb3, d1, d2, d3, d4, o1, o2, o3, o4]))
    refine copyN ⟨l, ms, ts, bs, ⟨hr, ha, hb, hc⟩, ⟨hl, hla, hlb, hlc⟩, fun H q0 q1 q2 q3 hN x => ?_⟩
    have w0 := x.blk hb0
    have w1 := x.blk hb1
    have w2 := x.blk hb2
    have w3 := x.blk hb3
    have D1 : dec3 69 H (.sl b0 v0 0 l.length) = l := IsR.dec3 ⟨b0, v0, rfl, w0⟩
    have D2 : decI H (.sl b1 v1 0 ms.length) = ms := IsI.dec ⟨b1, v1, rfl, w1⟩
    have D3 : decI H (.sl b2 v2 0 ts.length) = ts := IsI.dec ⟨b2, v2, rfl, w2⟩
    have D4 : decI H (.sl b3 v3 0 bs.length) = bs := IsI.dec ⟨b3, v3, rfl, w3⟩
    have O1 : ok3 69 H (.sl b0 v0 0 l.length) := ⟨l, ⟨b0, v0, rfl, w0⟩, hl⟩
    have O2 : okI H (.sl b1 v1 0 ms.length) := ⟨ms, ⟨b1, v1, rfl, w1⟩, hla⟩
    have O3 : okI H (.sl b2 v2 0 ts.length) := ⟨ts, ⟨b2, v2, rfl, w2⟩, hlb⟩
    have O4 : okI H (.sl b3 v3 0 bs.length) := ⟨bs, ⟨b3, v3, rfl, w3⟩, hlc⟩
    have pg1 := hN.g1
    have pg2 := hN.g2
    have d12 := hN.d12
    have n1 := hN.n1
    have n2 := hN.n2
    have lq1 := blt pg1
    have lq2 := blt pg2
    have bt1 := blt hb1
    have bt2 := blt hb2
    repeat' (first | with_reducible refine iteI (fun _ => ?_) (fun _ => ?_) | ((first | unfold AOpsC | unfold AOpsD | skip); simp (maxSteps := 1000000) (disch := (first | omega | assumption | (simp only [List.length_append, List.length_cons, List.length_nil, List.length_set]; omega))) only [go_sem, Sp94, SShare, Dr94, w0, w1, w2, w3, D1, D2, D3, D4, O1, O2, O3, O4, pg1, pg2, hjn, eO, eT, eM, eS, setGet, List.length_set, List.set_set]))
    have k1' := (hN.put1 (bM ms w)).put2 (bT ms ts w)
    have x1 : Ext η ((H.set q1 ⟨0, 3, 1, (bM ms w).map (.int .i64)⟩).set q2 ⟨0, 3, 1, (bT ms ts w).map (.int .i64)⟩) := (x.set n1 _).set n2 _
    generalize (H.set q1 ⟨0, 3, 1, (bM ms w).map (.int .i64)⟩).set q2 ⟨0, 3, 1, (bT ms ts w).map (.int .i64)⟩ = H1 at *
    have pg1' := k1'.g1
    have pg2' := k1'.g2
    have lr1 := blt pg1'
    have lr2 := blt pg2'
    have dm : decI H1 (.sl q1 0 0 ms.length) = bM ms w := IsI.dec ⟨q1, 0, by rw [hlM], pg1'⟩
    have om : okI H1 (.sl q1 0 0 ms.length) := ⟨bM ms w, ⟨q1, 0, by rw [hlM], pg1'⟩, by omega⟩
    unfold SSum
    refine ⟨⟨om, by rw [dm]; exact hposM⟩, ?_⟩
    rw [dm]
    by_cases hle : (bM ms w).sum + y ≤ 10000000
    case neg =>
      have zM : nBrM l ms ts y z w = bM ms w := if_neg hle
      have zT : nBrT l ms ts y z w = bT ms ts w := if_neg hle
      have zL : nBrL l ms ts y z w = (0, bOut ms w, 0, bTr ms ts w) := if_neg hle
      rw [zM, zT, zL] at hK
      repeat' (first | with_reducible refine iteI (fun _ => ?_) (fun _ => ?_) | ((first | unfold AOpsC | unfold AOpsD | skip); simp (maxSteps := 1000000) (disch := (first | omega | assumption | (simp only [List.length_append, List.length_cons, List.length_nil, List.length_set]; omega))) only [go_sem, Sp94, SShare, Dr94]))
      exact hK _ _ _ _ _ _ _ _ _ k1' x1
    have zM : nBrM l ms ts y z w = (bM ms w).set 0 ((bM ms w).getD 0 0 + y) := if_pos hle
    have zT : nBrT l ms ts y z w = (bT ms ts w).set 0 ((bT ms ts w).getD 0 0 + y * z) := if_pos hle
    have zL : nBrL l ms ts y z w = (y, bOut ms w, y * z, bTr ms ts w) := if_pos hle
    rw [zM, zT, zL] at hK
    have i0M : 0 < (bM ms w).length := by omega
    have i0T : 0 < (bT ms ts w).length := by omega
    have gM : ((bM ms w).map (AV.int .i64))[0]? = some (.int .i64 ((bM ms w).getD 0 0)) := intGet i0M
    have gT : ((bT ms ts w).map (AV.int .i64))[0]? = some (.int .i64 ((bT ms ts w).getD 0 0)) := intGet i0T
    have sM : ((bM ms w).map (AV.int .i64)).take 0 ++ [.int .i64 ((bM ms w).getD 0 0 + y)] ++ ((bM ms w).map (AV.int .i64)).drop 1 = ((bM ms w).set 0 ((bM ms w).getD 0 0 + y)).map (.int .i64) := putI i0M
    have sT : ((bT ms ts w).map (AV.int .i64)).take 0 ++ [.int .i64 ((bT ms ts w).getD 0 0 + y * z)] ++ ((bT ms ts w).map (AV.int .i64)).drop 1 = ((bT ms ts w).set 0 ((bT ms ts w).getD 0 0 + y * z)).map (.int .i64) := putI i0T
    rw [List.take_zero, List.nil_append] at sM sT
    repeat' (first | with_reducible refine iteI (fun _ => ?_) (fun _ => ?_) | ((first | unfold AOpsC | unfold AOpsD | skip); simp (maxSteps := 1000000) (disch := (first | omega | assumption | (simp only [List.length_append, List.length_cons, List.length_nil, List.length_set]; omega))) only [go_sem, Sp94, SShare, Dr94, pg1', pg2', gM, gT, sM, sT, hlM, hlT, setGet, List.length_set, List.set_set, Int.toNat_zero, Nat.zero_mul]))
    exact hK _ _ _ _ _ _ _ _ _ ((k1'.put1 _).put2 _) ((x1.set n1 _).set n2 _)
  · exact h.elim

end Go.Proofs.YtaalpmbopkbdiaaGreat
