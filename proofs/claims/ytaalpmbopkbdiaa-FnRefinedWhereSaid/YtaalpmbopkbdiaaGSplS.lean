/- What functions of the program compute, said in the abstract logic; no conditions. -/
import Derived.Test.YtaalpmbopkbdiaaGBalw
import Derived.Test.YtaalpmbopkbdiaaGOut
import Derived.Test.YtaalpmbopkbdiaaGOwn
import Derived.Test.YtaalpmbopkbdiaaGStepOk

namespace Go.Proofs.Ytaalpmbopkbdiaa
open Go
set_option linter.unusedSimpArgs false
set_option linter.unusedVariables false
set_option maxRecDepth 100000
set_option maxHeartbeats 8000000
attribute [local go_sem] st0 AC thenA andC locLoadB KsSW_same KsSW_grow oldLoadB noBlkB KsSL_same KsOS_same KsOS_grow pv ev put upd dstOk cv cvc binI setB Value.oneCell' EndA resA resA1 List.mapM_cons List.mapM_nil Option.pure_def Option.bind_eq_bind noLocV noLoc1 noLoc noLocs plainV cellsA newVarA putCells condA lam0 inBlockA cur lenA rowA writeA dstA appendC appendZ mapPut mapGet avoidsB avoidB clearB Array.toList_append Op.operands Call.operands newSlot Nat.zero_add Nat.add_zero Nat.succ_ne_self Nat.lt_add_one Nat.zero_lt_succ true_and and_true true_or or_true false_or or_false and_self true_implies forall_const Bool.false_eq_true Bool.true_eq_false false_implies implies_true imp_self ne_eq not_false_eq_true not_true_eq_false false_and and_false List.getElem?_toArray List.getElem?_cons_succ List.getElem?_cons_zero Option.bind_some Option.map_some Bool.not_true Bool.not_false List.getD_cons_zero List.getD_cons_succ Option.some.injEq exists_eq_left' AV.bool.injEq List.map_cons List.map_nil List.all_cons List.all_nil Bool.and_self Bool.and_true Bool.true_and List.append_nil List.cons_append List.nil_append List.length_cons List.length_nil List.drop_zero List.take_zero List.drop_succ_cons List.take_succ_cons List.take_nil List.drop_nil List.not_mem_nil List.mem_cons List.contains_nil List.contains_cons Bool.or_self Bool.or_true Bool.true_or Bool.false_or Bool.or_false Bool.and_false Bool.false_and KsS_same KsS_grow skipV KsS_ext KsSW_ext KsOS_ext rep1 rep2 rep3 rep4 rep5 List.flatten_cons List.flatten_nil partsA isPtr fillA List.size_toArray ltT ltF leT leF ltTn ltFn leTn leFn eqTi eqFi wrapId toNat1 intGet boolGet memD app_get app_last app_lst app_set app_setL app_setF set_ne set_eq gt_iff_lt ge_iff_le decide_eq_true_eq len2 len3 get20 get21 drop2 put2 get30 get31 get32 drop3 put3 putI pairEta bneTi bneFi beqTi beqFi bne_eq_false_iff_eq beq_eq_false_iff_ne beq_iff_eq bne_iff_ne Int.toNat_natCast Nat.mul_one List.length_map Bool.not_eq_true Bool.not_eq_false Bool.decide_eq_true decide_true decide_false Bool.not_eq_true' Bool.not_eq_false' decide_eq_false_iff_not eq_self Decidable.not_not
attribute [local go_sem ↓] skipC exitC retC seqC blockC condC regC drawC drawStep AOpC AOpF AOpE AEff contE_at contC_at keepC_at keepW_at keepO_at keepL_at map_parts
attribute [local go_sem] reduceCtorEq Nat.reduceLT Nat.reduceEqDiff Nat.reduceAdd Nat.reduceMul Nat.reduceLeDiff Nat.reduceSub Nat.reduceBEq Nat.reduceBNe Nat.reduceBneDiff Nat.reduceBeqDiff
attribute [local go_sem ↓] reduceIte
attribute [local go_sem] ag_24 ag_26 ag_27 ag_29 ag_3 ag_63 by_24 by_26 by_27 by_29 by_3 by_63 el_24 el_27 en_3 fi_26_1 fi_29_0 fi_29_1 fi_29_2 fi_29_3 fi_63_1 in_3 nf_26 nf_29 nf_63 pl_26 pl_29 pl_63 ps_26 ps_29 ps_63 sz_24 sz_26 sz_27 sz_29 sz_3 sz_63 ze_24 ze_26 ze_27 ze_29 ze_3 ze_63

def hlv (n : Int) : Int := n.tdiv 2
def SSpE : List AV → List Blk → (AV → List Blk → Prop) → Prop
  | [.int .i64 n], η, K => (0 ≤ n ∧ n ≤ 10000000) ∧ K (.tup [.int .i64 (n - n.tdiv 2), .int .i64 (n.tdiv 2)]) η
  | _, _, _ => False
/-- The rows after a leaf is split. -/
def splM (ms : List Int) (i : Nat) : List Int := ms.take i ++ [ms.getD i 0 - (ms.getD i 0).tdiv 2, (ms.getD i 0).tdiv 2] ++ ms.drop (i + 1)
def splA (ms ts : List Int) (i : Nat) : Int := shareO (ts.getD i 0) (ms.getD i 0 - (ms.getD i 0).tdiv 2) (ms.getD i 0)
def splT (ms ts : List Int) (i : Nat) : List Int := ts.take i ++ [splA ms ts i, ts.getD i 0 - splA ms ts i] ++ ts.drop (i + 1)
theorem celT {r : Int} {l : List Id3} {ms ts bs : List Int} (h : celB r l ms ts bs = true) : ms.length = l.length ∧ ts.length = l.length ∧ (bs.length : Int) = r ∧ bs.all bedB = true ∧ cellsB ms ts = true ∧ ms.sum ≤ 10000000 := by
  simpa only [celB, Bool.and_eq_true, decide_eq_true_eq] using h
theorem half_bd {n : Int} (h : 0 ≤ n) : 0 ≤ n.tdiv 2 ∧ n.tdiv 2 ≤ n ∧ 2 * n.tdiv 2 ≤ n ∧ n ≤ 2 * n.tdiv 2 + 1 := by
  rw [Int.tdiv_eq_ediv_of_nonneg h]; omega
theorem spl_at {xs : List Int} {x y : Int} {i : Nat} (hi : i < xs.length) (j : Nat) : (xs.take i ++ [x, y] ++ xs.drop (i + 1)).getD j 0 = if j < i then xs.getD j 0 else if j = i then x else if j = i + 1 then y else xs.getD (j - 1) 0 := by
  have ht : (xs.take i).length = i := by rw [List.length_take]; omega
  simp only [List.getD_eq_getElem?_getD]
  by_cases h1 : j < i
  · rw [if_pos h1, List.append_assoc, List.getElem?_append_left (by omega), List.getElem?_take_of_lt h1]
  · rw [if_neg h1, List.append_assoc, List.getElem?_append_right (by omega), ht]
    by_cases h2 : j = i
    · subst h2; simp
    · rw [if_neg h2]
      by_cases h3 : j = i + 1
      · subst h3; simp
      · rw [if_neg h3, List.getElem?_append_right (by simp only [List.length_cons, List.length_nil]; omega), List.getElem?_drop]
        congr 2
        simp only [List.length_cons, List.length_nil]
        omega
theorem spl_len {xs : List Int} {x y : Int} {i : Nat} (hi : i < xs.length) : (xs.take i ++ [x, y] ++ xs.drop (i + 1)).length = xs.length + 1 := by simp; omega
theorem spl_sum {xs : List Int} {x y : Int} {i : Nat} (hi : i < xs.length) (h : x + y = xs.getD i 0) : (xs.take i ++ [x, y] ++ xs.drop (i + 1)).sum = xs.sum := by
  have e1 : xs = xs.take i ++ (xs.getD i 0 :: xs.drop (i + 1)) := by
    rw [List.getD_eq_getElem?_getD, List.getElem?_eq_getElem hi, Option.getD_some, List.getElem_cons_drop, List.take_append_drop]
  have e2 : xs.sum = (xs.take i).sum + (xs.getD i 0 + (xs.drop (i + 1)).sum) := by
    conv => lhs; rw [e1]
    rw [List.sum_append, List.sum_cons]
  rw [e2, ← h]
  simp only [List.append_assoc, List.cons_append, List.nil_append, List.sum_append, List.sum_cons]
  omega
theorem splM_len {ms : List Int} {i : Nat} (h : i < ms.length) : (splM ms i).length = ms.length + 1 := spl_len h
theorem splT_len {ms ts : List Int} {i : Nat} (h : i < ts.length) : (splT ms ts i).length = ts.length + 1 := spl_len h
/-- The two parts of a leaf that is split. -/
theorem spl_piece {t m Lo Hi : Int} (hm : 0 ≤ m ∧ m ≤ 10000000) (ht : 0 ≤ t ∧ t ≤ 1000 * m) (h1 : Lo * m ≤ t) (h2 : t ≤ Hi * m) :
    (Lo * (m - m.tdiv 2) ≤ shareO t (m - m.tdiv 2) m ∧ shareO t (m - m.tdiv 2) m ≤ Hi * (m - m.tdiv 2)) ∧ (Lo * m.tdiv 2 ≤ t - shareO t (m - m.tdiv 2) m ∧ t - shareO t (m - m.tdiv 2) m ≤ Hi * m.tdiv 2) := by
  have hh := half_bd hm.1
  obtain ⟨p1, _, p3⟩ := piece hm ht (r := m - m.tdiv 2) (l := 0) (by omega) (by omega) (by omega) h1 h2
  have eA : leafA t m (m - m.tdiv 2) 0 = shareO t (m - m.tdiv 2) m := by
    unfold leafA
    split
    · rfl
    · rename_i hn
      unfold shareO
      rw [if_neg fun hc => hn ⟨hc.1, hc.2.2, hc.2.1, by simp [inB]; omega⟩]
  have eB : leafBq t m (m - m.tdiv 2) 0 = 0 := by
    unfold leafBq
    split
    · rw [Int.add_zero, Int.sub_self]
    · rfl
  rw [eA] at p1 p3
  rw [eB] at p3
  rw [show m - (m - m.tdiv 2) - 0 = m.tdiv 2 by omega, show t - shareO t (m - m.tdiv 2) m - 0 = t - shareO t (m - m.tdiv 2) m by omega] at p3
  exact ⟨p1, p3⟩
/-- Shares that lie in a range. -/
def ShR (Lo Hi : Int) (ms ts : List Int) : Prop := ∀ j, j < ms.length → Lo * ms.getD j 0 ≤ ts.getD j 0 ∧ ts.getD j 0 ≤ Hi * ms.getD j 0
theorem spl_shares {ms ts : List Int} {i : Nat} {Lo Hi : Int} (hc : cellsB ms ts = true) (hl : ts.length = ms.length) (hi : i < ms.length) (h : ShR Lo Hi ms ts) : ShR Lo Hi (splM ms i) (splT ms ts i) := by
  intro j hj
  rw [splM_len hi] at hj
  have c := cells_at hc hi
  have p := spl_piece ⟨c.1, c.2.1⟩ ⟨c.2.2.1, c.2.2.2⟩ (h i hi).1 (h i hi).2
  rw [splM, splT, spl_at hi, spl_at (by omega), splA]
  by_cases h1 : j < i
  · simp only [if_pos h1]; exact h j (by omega)
  · simp only [if_neg h1]
    by_cases h2 : j = i
    · simp only [if_pos h2]; exact p.1
    · simp only [if_neg h2]
      by_cases h3 : j = i + 1
      · simp only [if_pos h3]; exact p.2
      · simp only [if_neg h3]; exact h (j - 1) (by omega)
theorem spl_cel {r : Int} {l : List Id3} {ms ts bs : List Int} {i : Nat} (h : celB r l ms ts bs = true) (hi : i < l.length) : celB r (splitL l i) (splM ms i) (splT ms ts i) bs = true := by
  obtain ⟨k3, k4, k5, k6, k7, k8⟩ := celT h
  have hb : ShR 0 1000 ms ts := fun j hj => by have := cells_at k7 hj; omega
  have hs := spl_shares k7 (by omega) (i := i) (by omega) hb
  have hsum : (splM ms i).sum = ms.sum := spl_sum (by omega) (by omega)
  have n1 := splM_len (ms := ms) (i := i) (by omega)
  have n2 := splT_len (ms := ms) (ts := ts) (i := i) (by omega)
  have n3 := split_len hi
  have cel : cellsB (splM ms i) (splT ms ts i) = true := by
    rw [cellsB, List.all_eq_true]
    intro j hj
    rw [List.mem_range] at hj
    have s := hs j hj
    have c := cells_at k7 (i := i) (by omega)
    have hh := half_bd c.1
    have mb : 0 ≤ (splM ms i).getD j 0 ∧ (splM ms i).getD j 0 ≤ 10000000 := by
      rw [splM, spl_at (by omega)]
      by_cases h1 : j < i
      · rw [if_pos h1]; have := cells_at k7 (i := j) (by omega); omega
      · rw [if_neg h1]
        by_cases h2 : j = i
        · rw [if_pos h2]; omega
        · rw [if_neg h2]
          by_cases h3 : j = i + 1
          · rw [if_pos h3]; omega
          · rw [if_neg h3]; have := cells_at k7 (i := j - 1) (by omega); omega
    simp only [cellB, inB, Bool.and_eq_true, decide_eq_true_eq]
    omega
  simp only [celB, Bool.and_eq_true, decide_eq_true_eq]
  exact ⟨by omega, by omega, k5, k6, cel, by omega⟩
/-- Splits until the mesh is balanced. -/
def lvl : Nat → List Id3 → List Int → List Int → List Id3 × List Int × List Int
  | 0, l, ms, ts => (l, ms, ts)
  | n + 1, l, ms, ts => if unbI l < 0 then (l, ms, ts) else lvl n (splitL l (coarI l (unbI l).toNat)) (splM ms (coarI l (unbI l).toNat)) (splT ms ts (coarI l (unbI l).toNat))
def lvlR (l : List Id3) (ms ts : List Int) : List Id3 × List Int × List Int := lvl (129 - l.length) l ms ts
theorem lvlR_0 {l : List Id3} {ms ts : List Int} (h : unbI l < 0) : lvlR l ms ts = (l, ms, ts) := by
  unfold lvlR
  cases 129 - l.length with
  | zero => rfl
  | succ n => rw [lvl, if_pos h]
/-- What a step towards balance keeps. -/
theorem lvl_step {r : Int} {l : List Id3} {ms ts bs : List Int} (hM : meshB r l = true) (hC : celB r l ms ts bs = true) (h : 0 ≤ unbI l) :
    ∃ i : Nat, unbI l = i ∧ coarI l i < l.length ∧ (l.getD (coarI l i) z3).2.1 ≠ 4 ∧ meshB r (splitL l (coarI l i)) = true ∧ celB r (splitL l (coarI l i)) (splM ms (coarI l i)) (splT ms ts (coarI l i)) bs = true ∧ lvlR l ms ts = lvlR (splitL l (coarI l i)) (splM ms (coarI l i)) (splT ms ts (coarI l i)) := by
  have hlv := mesh_levs hM
  have hln := mesh_len hM
  obtain ⟨i, u1, u2, u3⟩ := unb_pos h
  obtain ⟨q1, q2⟩ := coar_ok hlv u2 u3
  have q3 := split_mesh hM q1 q2
  have q4 := split_len q1
  have hln' := mesh_len q3
  refine ⟨i, u1, q1, q2, q3, spl_cel hC q1, ?_⟩
  unfold lvlR
  rw [show 129 - l.length = (129 - (splitL l (coarI l i)).length) + 1 by omega, lvl, if_neg (by omega), u1, Int.toNat_natCast]
/-- All that levelling keeps. -/
theorem lvlR_ok {r : Int} {bs : List Int} : ∀ (n : Nat) {l : List Id3} {ms ts : List Int}, 129 - l.length = n → meshB r l = true → celB r l ms ts bs = true →
    okB r (lvlR l ms ts).1 (lvlR l ms ts).2.1 (lvlR l ms ts).2.2 bs = true ∧ (lvlR l ms ts).2.1.sum = ms.sum ∧ ∀ Lo Hi, ShR Lo Hi ms ts → ShR Lo Hi (lvlR l ms ts).2.1 (lvlR l ms ts).2.2
  | 0, l, ms, ts, hn, hM, hC => by have := mesh_len hM; omega
  | n + 1, l, ms, ts, hn, hM, hC => by
    by_cases hu : unbI l < 0
    · rw [lvlR_0 hu]
      refine ⟨by simp only [okB, balB, hM, hC, Bool.and_eq_true, decide_eq_true_eq, Bool.true_and, Bool.and_true]; omega, rfl, fun _ _ h => h⟩
    · obtain ⟨i, u1, q1, q2, q3, q4, q5⟩ := lvl_step hM hC (by omega)
      obtain ⟨k3, k4, k5, k6, k7, k8⟩ := celT hC
      have hl := split_len q1
      rw [q5]
      obtain ⟨a, b, c⟩ := lvlR_ok n (by omega) q3 q4
      exact ⟨a, b.trans (spl_sum (by omega) (by omega)), fun Lo Hi h => c Lo Hi (spl_shares k7 (by omega) (by omega) h)⟩

/- spec.SplitEven -/
/- impl.SplitEven -/
theorem f115_ok {lo : Nat} {args : List AV} {η : List Blk} {K : AV → List Blk → Prop} (h : SSpE args η K) : AF Try.prog lo 115 args η K := by
  unfold SSpE at h
  split at h
  · obtain ⟨h0, hK⟩ := h
    rename_i n
    have hh := half_bd h0.1
    refine AF_run noSp_ok D0 [] [.tmp 2, .tmp 3] hm Try.func115 rfl (by decide) Try.ntmps115 rfl (by kernel_rfl) (Nat.le_of_ble_eq_true rfl) ?_; intro hlo
    repeat' (first | with_reducible refine iteI (fun _ => ?_) (fun _ => ?_) | ((first | unfold AOpsC | unfold AOpsD | skip); simp (maxSteps := 1000000) (disch := (first | omega | assumption | (simp only [List.length_append, List.length_cons, List.length_nil, List.length_set]; omega))) only [go_sem, AOpsD]))
    exact hK
  · exact h.elim

/- spec.l08Split -/
/- spec.l08Level -/
/- spec.MayRefine -/
/- impl.MayRefine -/
/- spec.BalanceRefine -/
end Go.Proofs.Ytaalpmbopkbdiaa
