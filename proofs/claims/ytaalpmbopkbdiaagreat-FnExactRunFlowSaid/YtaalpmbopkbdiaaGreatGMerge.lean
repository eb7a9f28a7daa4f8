/- What functions of the program compute, said in the abstract logic; no conditions. -/
import Derived.Test.YtaalpmbopkbdiaaGreatGSplI

namespace Go.Proofs.YtaalpmbopkbdiaaGreat
open Go
set_option linter.unusedSimpArgs false
set_option linter.unusedVariables false
set_option maxRecDepth 100000
set_option maxHeartbeats 8000000
attribute [local go_sem] st0 AC thenA andC locLoadB KsSW_same KsSW_grow oldLoadB noBlkB KsSL_same KsOS_same KsOS_grow pv ev put upd dstOk cv cvc binI setB Value.oneCell' EndA resA resA1 List.mapM_cons List.mapM_nil Option.pure_def Option.bind_eq_bind noLocV noLoc1 noLoc noLocs plainV cellsA newVarA putCells condA lam0 inBlockA cur lenA rowA writeA dstA appendC appendZ mapPut mapGet avoidsB avoidB clearB Array.toList_append Op.operands Call.operands newSlot Nat.zero_add Nat.add_zero Nat.succ_ne_self Nat.lt_add_one Nat.zero_lt_succ true_and and_true true_or or_true false_or or_false and_self true_implies forall_const Bool.false_eq_true Bool.true_eq_false false_implies implies_true imp_self ne_eq not_false_eq_true not_true_eq_false false_and and_false List.getElem?_toArray List.getElem?_cons_succ List.getElem?_cons_zero Option.bind_some Option.map_some Bool.not_true Bool.not_false List.getD_cons_zero List.getD_cons_succ Option.some.injEq exists_eq_left' AV.bool.injEq List.map_cons List.map_nil List.all_cons List.all_nil Bool.and_self Bool.and_true Bool.true_and List.append_nil List.cons_append List.nil_append List.length_cons List.length_nil List.drop_zero List.take_zero List.drop_succ_cons List.take_succ_cons List.take_nil List.drop_nil List.not_mem_nil List.mem_cons List.contains_nil List.contains_cons Bool.or_self Bool.or_true Bool.true_or Bool.false_or Bool.or_false Bool.and_false Bool.false_and KsS_same KsS_grow skipV KsS_ext KsSW_ext KsOS_ext rep1 rep2 rep3 rep4 rep5 List.flatten_cons List.flatten_nil partsA isPtr fillA List.size_toArray ltT ltF leT leF ltTn ltFn leTn leFn eqTi eqFi wrapId toNat1 intGet boolGet memD app_get app_last app_lst app_set app_setL app_setF set_ne set_eq gt_iff_lt ge_iff_le decide_eq_true_eq len2 len3 get20 get21 drop2 put2 get30 get31 get32 drop3 put3 putI pairEta bneTi bneFi beqTi beqFi bne_eq_false_iff_eq beq_eq_false_iff_ne beq_iff_eq bne_iff_ne Int.toNat_natCast Nat.mul_one List.length_map Bool.not_eq_true Bool.not_eq_false Bool.decide_eq_true decide_true decide_false Bool.not_eq_true' Bool.not_eq_false' decide_eq_false_iff_not eq_self Decidable.not_not
attribute [local go_sem ↓] skipC exitC retC seqC blockC condC regC drawC drawStep AOpC AOpF AOpE AEff contE_at contC_at keepC_at keepW_at keepO_at keepL_at map_parts
attribute [local go_sem] reduceCtorEq Nat.reduceLT Nat.reduceEqDiff Nat.reduceAdd Nat.reduceMul Nat.reduceLeDiff Nat.reduceSub Nat.reduceBEq Nat.reduceBNe Nat.reduceBneDiff Nat.reduceBeqDiff
attribute [local go_sem ↓] reduceIte
attribute [local go_sem] ag_3 ag_69 by_3 by_69 en_3 fi_69_0 fi_69_1 fi_69_2 in_3 nf_69 pl_69 ps_69 sz_3 sz_69 ze_3 ze_69
/-- The cell that two siblings make. -/
def parL (x : Id3) : Id3 := (x.1, x.2.1 - 1, x.2.2.tdiv 2)
def parB (x : Id3) : Bool := idT x && decide (x.2.1 ≠ 0)
def sibB (a b : Id3) : Bool := idT a && (idT b && (decide (a.1 = b.1) && (decide (a.2.1 = b.2.1) && (decide (a.2.2.tmod 2 = 0) && decide (b.2.2 = a.2.2 + 1)))))
def mrgL (l : List Id3) (i : Nat) : List Id3 := l.take i ++ [parL (l.getD i z3)] ++ l.drop (i + 2)
def mrgI (ms : List Int) (i : Nat) : List Int := ms.take i ++ [ms.getD i 0 + ms.getD (i + 1) 0] ++ ms.drop (i + 2)
/-- Two leaves may be made one. -/
def mayC (l : List Id3) (i : Nat) : Bool := sibB (l.getD i z3) (l.getD (i + 1) z3) && ((decide (i = 0) || decide (lvD l (i - 1) ≤ lvD l i)) && (decide (l.length ≤ i + 2) || decide (lvD l (i + 2) ≤ lvD l i)))
theorem mrgL_len {l : List Id3} {i : Nat} (h : i + 1 < l.length) : (mrgL l i).length = l.length - 1 := by simp [mrgL]; omega
theorem mrgI_len {ms : List Int} {i : Nat} (h : i + 1 < ms.length) : (mrgI ms i).length = ms.length - 1 := by simp [mrgI]; omega
theorem sib_t {a b : Id3} (h : sibB a b = true) : idB a.1 a.2.1 a.2.2 = true ∧ idB b.1 b.2.1 b.2.2 = true ∧ a.1 = b.1 ∧ a.2.1 = b.2.1 ∧ a.2.2.tmod 2 = 0 ∧ b.2.2 = a.2.2 + 1 := by
  simpa only [sibB, idT, Bool.and_eq_true, decide_eq_true_eq] using h
/-- Siblings, and the cell that they make. -/
theorem sib_geo {a b : Id3} (h : sibB a b = true) : ∃ ix, parL a = (a.1, a.2.1 - 1, ix) ∧ a.2.2 = 2 * ix + 0 ∧ b.2.2 = 2 * ix + 1 ∧ b.1 = a.1 ∧ b.2.1 = a.2.1 ∧ idB a.1 (a.2.1 - 1) ix = true ∧ a.2.1 - 1 ≠ 4 ∧ 1 ≤ a.2.1 ∧ a.2.1 ≤ 4 := by
  obtain ⟨h1, h2, h3, h4, h5, h6⟩ := sib_t h
  obtain ⟨r, lv, ix⟩ := a
  obtain ⟨r', lv', ix'⟩ := b
  simp only at h1 h2 h3 h4 h5 h6 ⊢
  subst h3 h4 h6
  simp only [idB, inB, Bool.and_eq_true, decide_eq_true_eq] at h1 h2
  obtain ⟨⟨a1, a2⟩, ⟨a3, a4⟩, a5, a6⟩ := h1
  obtain ⟨_, _, _, b6⟩ := h2
  have e1 : ix.tmod 2 = ix % 2 := Int.tmod_eq_emod_of_nonneg a5
  have e2 : ix.tdiv 2 = ix / 2 := Int.tdiv_eq_ediv_of_nonneg a5
  rw [e1] at h5
  refine ⟨ix / 2, by rw [parL, e2], by omega, by omega, rfl, rfl, ?_, ?_⟩
  · have hh : lv = 0 ∨ lv = 1 ∨ lv = 2 ∨ lv = 3 ∨ lv = 4 := by omega
    rcases hh with rfl | rfl | rfl | rfl | rfl <;> simp [idB, inB] at a6 b6 ⊢ <;> omega
  · have hh : lv = 0 ∨ lv = 1 ∨ lv = 2 ∨ lv = 3 ∨ lv = 4 := by omega
    rcases hh with rfl | rfl | rfl | rfl | rfl <;> simp at a6 b6 ⊢ <;> omega
theorem mrg_mesh {r : Int} {l : List Id3} {i : Nat} (h : meshB r l = true) (hi : i + 1 < l.length) (hs : sibB (l.getD i z3) (l.getD (i + 1) z3) = true) : meshB r (mrgL l i) = true := by
  obtain ⟨ix, g1, g2, g3, g4, g5, g6, g7, g8, g9⟩ := sib_geo hs
  obtain ⟨s1, s2, s3, s4, s5, s6⟩ := sib_t hs
  obtain ⟨c1, c2, c3, c4, c5⟩ := child_geo g6 g7
  rw [← g2, Int.sub_add_cancel] at c1 c3
  rw [← g3, Int.sub_add_cancel] at c2 c5
  have e : meshAt 0 (mrgL l i) = meshAt 0 l := by
    have e1 : l = l.take i ++ (l.getD i z3 :: l.getD (i + 1) z3 :: l.drop (i + 2)) := by
      rw [List.getD_eq_getElem?_getD, List.getElem?_eq_getElem (by omega), Option.getD_some, List.getD_eq_getElem?_getD, List.getElem?_eq_getElem hi, Option.getD_some, List.getElem_cons_drop, List.getElem_cons_drop, List.take_append_drop]
    rw [mrgL, List.append_assoc, meshAt_cat]
    conv => rhs; rw [e1, meshAt_cat]
    cases hm : meshAt 0 (l.take i) with
    | none => rfl
    | some a =>
      generalize hx : l.getD i z3 = x at *
      generalize hy : l.getD (i + 1) z3 = y at *
      obtain ⟨xr, xl, xi⟩ := x
      obtain ⟨yr, yl, yi⟩ := y
      try simp only at *
      replace g4 := g4.symm
      replace g5 := g5.symm
      subst g4 g5
      simp only [Option.bind_some, List.cons_append, List.nil_append, meshAt, idT, s1, s2, g1, g6, true_and]
      try rw [Int.sub_add_cancel, ← g2, ← g3] at c4
      by_cases ha : stI xr xl xi = a
      · have hp : stI xr (xl - 1) ix = a := by rw [← c3]; exact ha
        simp [ha, hp, c4, c5]
      · have : ¬ stI xr (xl - 1) ix = a := by rw [← c3]; exact ha
        simp [ha, this]
  unfold meshB at h ⊢
  rw [e]; exact h
theorem mrg_at {xs : List Int} {i : Nat} (hi : i + 1 < xs.length) (j : Nat) : (mrgI xs i).getD j 0 = if j < i then xs.getD j 0 else if j = i then xs.getD i 0 + xs.getD (i + 1) 0 else xs.getD (j + 1) 0 := by
  have ht : (xs.take i).length = i := by rw [List.length_take]; omega
  unfold mrgI
  simp only [List.getD_eq_getElem?_getD]
  by_cases h1 : j < i
  · rw [if_pos h1, List.append_assoc, List.getElem?_append_left (by omega), List.getElem?_take_of_lt h1]
  · rw [if_neg h1, List.append_assoc, List.getElem?_append_right (by omega), ht]
    by_cases h2 : j = i
    · subst h2; simp
    · rw [if_neg h2, List.getElem?_append_right (by simp only [List.length_cons, List.length_nil]; omega), List.getElem?_drop]
      congr 2
      simp only [List.length_cons, List.length_nil]
      omega
theorem mrgL_at {l : List Id3} {i : Nat} (hi : i + 1 < l.length) (j : Nat) : (mrgL l i).getD j z3 = if j < i then l.getD j z3 else if j = i then parL (l.getD i z3) else l.getD (j + 1) z3 := by
  have ht : (l.take i).length = i := by rw [List.length_take]; omega
  unfold mrgL
  simp only [List.getD_eq_getElem?_getD]
  by_cases h1 : j < i
  · rw [if_pos h1, List.append_assoc, List.getElem?_append_left (by omega), List.getElem?_take_of_lt h1]
  · rw [if_neg h1, List.append_assoc, List.getElem?_append_right (by omega), ht]
    by_cases h2 : j = i
    · subst h2; simp
    · rw [if_neg h2, List.getElem?_append_right (by simp only [List.length_cons, List.length_nil]; omega), List.getElem?_drop]
      congr 2
      simp only [List.length_cons, List.length_nil]
      omega
theorem two_sum {ms : List Int} {i : Nat} (hi : i + 1 < ms.length) : ms.sum = (ms.take i).sum + (ms.getD i 0 + (ms.getD (i + 1) 0 + (ms.drop (i + 2)).sum)) := by
  have e1 : ms = ms.take i ++ (ms.getD i 0 :: ms.getD (i + 1) 0 :: ms.drop (i + 2)) := by
    rw [List.getD_eq_getElem?_getD, List.getElem?_eq_getElem (by omega), Option.getD_some, List.getD_eq_getElem?_getD, List.getElem?_eq_getElem hi, Option.getD_some, List.getElem_cons_drop, List.getElem_cons_drop, List.take_append_drop]
  conv => lhs; rw [e1]
  rw [List.sum_append, List.sum_cons, List.sum_cons]
theorem mrg_sum {ms : List Int} {i : Nat} (hi : i + 1 < ms.length) : (mrgI ms i).sum = ms.sum := by
  rw [two_sum hi, mrgI]
  simp only [List.append_assoc, List.cons_append, List.nil_append, List.sum_append, List.sum_cons]
  omega
theorem sum_nn : ∀ (l : List Int), (∀ x ∈ l, 0 ≤ x) → 0 ≤ l.sum
  | [], _ => by simp
  | x :: l, h => by
    have h1 := h x (by simp)
    have h2 := sum_nn l fun y hy => h y (by simp [hy])
    simp only [List.sum_cons]
    omega
theorem mrg_cel {r : Int} {l : List Id3} {ms ts bs : List Int} {i : Nat} (h : celB r l ms ts bs = true) (hi : i + 1 < l.length) : celB r (mrgL l i) (mrgI ms i) (mrgI ts i) bs = true := by
  obtain ⟨k3, k4, k5, k6, k7, k8⟩ := celT h
  have cb := fun j (h : j < ms.length) => cells_at k7 h
  have mm : ∀ x ∈ ms, 0 ≤ x := fun x hx => by
    obtain ⟨j, hj⟩ := List.getElem?_of_mem hx
    have hl := (List.getElem?_eq_some_iff.1 hj).1
    have := (cb j hl).1
    rw [List.getD_eq_getElem?_getD, hj] at this
    exact this
  have s1 := sum_nn _ fun x hx => mm x (List.mem_of_mem_take (i := i) hx)
  have s2 := sum_nn _ fun x hx => mm x (List.mem_of_mem_drop (i := i + 2) hx)
  have hs := two_sum (ms := ms) (i := i) (by omega)
  have n1 := mrgI_len (ms := ms) (i := i) (by omega)
  have n2 := mrgI_len (ms := ts) (i := i) (by omega)
  have n3 := mrgL_len (l := l) (i := i) hi
  have cel : cellsB (mrgI ms i) (mrgI ts i) = true := by
    rw [cellsB, List.all_eq_true]
    intro j hj
    rw [List.mem_range] at hj
    have c1 := cb i (by omega)
    have c2 := cb (i + 1) (by omega)
    simp only [cellB, inB, Bool.and_eq_true, decide_eq_true_eq]
    rw [mrg_at (by omega), mrg_at (by omega)]
    by_cases h1 : j < i
    · simp only [if_pos h1]; have := cb j (by omega); omega
    · simp only [if_neg h1]
      by_cases h2 : j = i
      · simp only [if_pos h2]; omega
      · simp only [if_neg h2]; have := cb (j + 1) (by omega); omega
  simp only [celB, Bool.and_eq_true, decide_eq_true_eq]
  have hsm := mrg_sum (ms := ms) (i := i) (by omega)
  exact ⟨by omega, by omega, k5, k6, cel, by omega⟩

def parV (x : Id3) : Id3 := if parB x = true then parL x else (0, 0, 0)
def SPar : List AV → List Blk → (AV → List Blk → Prop) → Prop
  | [.agg [.int .i64 a, .int .i64 b, .int .i64 c]], η, K => K (.tup [.agg [.int .i64 (parV (a, b, c)).1, .int .i64 (parV (a, b, c)).2.1, .int .i64 (parV (a, b, c)).2.2], .bool (parB (a, b, c))]) η
  | _, _, _ => False
def SSib : List AV → List Blk → (AV → List Blk → Prop) → Prop
  | [.agg [.int .i64 a, .int .i64 b, .int .i64 c], .agg [.int .i64 d, .int .i64 e, .int .i64 f]], η, K => K (.bool (sibB (a, b, c) (d, e, f))) η
  | _, _, _ => False
def SMay : List AV → List Blk → (AV → List Blk → Prop) → Prop
  | [.agg [.int .i64 r, v], .int .i64 i], η, K => (ok3 69 η v ∧ levs (dec3 69 η v) ∧ 0 ≤ i ∧ i + 1 < (dec3 69 η v).length) ∧ K (.bool (mayC (dec3 69 η v) i.toNat)) η
  | _, _, _ => False

/- spec.ParentOf -/
def Sp111 (lo : Nat) : Spec := fun g args η K => match g with | 107 => SId args η K | _ => False
theorem Sp111_ok {lo : Nat} : Sound Tryz.prog lo (Sp111 lo) := by
  intro g args η K h
  unfold Sp111 at h
  split at h
  · exact .inl (f107_ok h)
  · exact h.elim
theorem f111_ok {lo : Nat} {args : List AV} {η : List Blk} {K : AV → List Blk → Prop} (h : SPar args η K) : AF Tryz.prog lo 111 args η K := by
  unfold SPar at h
  split at h
  · rename_i a b c
    refine AF_run Sp111_ok D0 [] [.cell 2 69, .tmp 3] hm Tryz.func111 rfl (by decide) Tryz.ntmps111 rfl (by kernel_rfl) (Nat.le_of_ble_eq_true rfl) ?_; intro hlo
    cases e1 : idB a b c
    · have hz : parB (a, b, c) = false := by simp [parB, idT, e1]
      rw [parV, hz, if_neg Bool.false_ne_true] at h
      repeat' (first | with_reducible refine iteI (fun _ => ?_) (fun _ => ?_) | ((first | unfold AOpsC | unfold AOpsD | skip); simp (maxSteps := 1000000) (disch := (first | omega | assumption | (simp only [List.length_append, List.length_cons, List.length_nil, List.length_set]; omega))) only [go_sem, Sp111, SId, e1]))
      exact h
    by_cases e2 : b = 0
    · have hz : parB (a, b, c) = false := by simp [parB, e2]
      rw [parV, hz, if_neg Bool.false_ne_true] at h
      repeat' (first | with_reducible refine iteI (fun _ => ?_) (fun _ => ?_) | ((first | unfold AOpsC | unfold AOpsD | skip); simp (maxSteps := 1000000) (disch := (first | omega | assumption | (simp only [List.length_append, List.length_cons, List.length_nil, List.length_set]; omega))) only [go_sem, Sp111, SId, e1]))
      exact h
    · have hz : parB (a, b, c) = true := by simp [parB, idT, e1, e2]
      have hb := id_bd e1
      have hd := tdiv_bd (a := c) (b := 2) (X := 16) (by omega) (by omega)
      rw [parV, hz, if_pos rfl, parL] at h
      repeat' (first | with_reducible refine iteI (fun _ => ?_) (fun _ => ?_) | ((first | unfold AOpsC | unfold AOpsD | skip); simp (maxSteps := 1000000) (disch := (first | omega | assumption | (simp only [List.length_append, List.length_cons, List.length_nil, List.length_set]; omega))) only [go_sem, Sp111, SId, e1]))
      exact h
  · exact h.elim

/- impl.ParentOf -/
def Sp152 (lo : Nat) : Spec := fun g args η K => match g with | 116 => SId args η K | _ => False
theorem Sp152_ok {lo : Nat} : Sound Tryz.prog lo (Sp152 lo) := by
  intro g args η K h
  unfold Sp152 at h
  split at h
  · exact .inl (f116_ok h)
  · exact h.elim
theorem f152_ok {lo : Nat} {args : List AV} {η : List Blk} {K : AV → List Blk → Prop} (h : SPar args η K) : AF Tryz.prog lo 152 args η K := by
  unfold SPar at h
  split at h
  · rename_i a b c
    refine AF_run Sp152_ok D0 [] [.cell 2 69, .tmp 3] hm Tryz.func152 rfl (by decide) Tryz.ntmps152 rfl (by kernel_rfl) (Nat.le_of_ble_eq_true rfl) ?_; intro hlo
    cases e1 : idB a b c
    · have hz : parB (a, b, c) = false := by simp [parB, idT, e1]
      rw [parV, hz, if_neg Bool.false_ne_true] at h
      repeat' (first | with_reducible refine iteI (fun _ => ?_) (fun _ => ?_) | ((first | unfold AOpsC | unfold AOpsD | skip); simp (maxSteps := 1000000) (disch := (first | omega | assumption | (simp only [List.length_append, List.length_cons, List.length_nil, List.length_set]; omega))) only [go_sem, Sp152, SId, e1]))
      exact h
    by_cases e2 : b = 0
    · have hz : parB (a, b, c) = false := by simp [parB, e2]
      rw [parV, hz, if_neg Bool.false_ne_true] at h
      repeat' (first | with_reducible refine iteI (fun _ => ?_) (fun _ => ?_) | ((first | unfold AOpsC | unfold AOpsD | skip); simp (maxSteps := 1000000) (disch := (first | omega | assumption | (simp only [List.length_append, List.length_cons, List.length_nil, List.length_set]; omega))) only [go_sem, Sp152, SId, e1]))
      exact h
    · have hz : parB (a, b, c) = true := by simp [parB, idT, e1, e2]
      have hb := id_bd e1
      have hd := tdiv_bd (a := c) (b := 2) (X := 16) (by omega) (by omega)
      rw [parV, hz, if_pos rfl, parL] at h
      repeat' (first | with_reducible refine iteI (fun _ => ?_) (fun _ => ?_) | ((first | unfold AOpsC | unfold AOpsD | skip); simp (maxSteps := 1000000) (disch := (first | omega | assumption | (simp only [List.length_append, List.length_cons, List.length_nil, List.length_set]; omega))) only [go_sem, Sp152, SId, e1]))
      exact h
  · exact h.elim

/- spec.IsSibling -/
def Sp128 (lo : Nat) : Spec := fun g args η K => match g with | 107 => SId args η K | _ => False
theorem Sp128_ok {lo : Nat} : Sound Tryz.prog lo (Sp128 lo) := by
  intro g args η K h
  unfold Sp128 at h
  split at h
  · exact .inl (f107_ok h)
  · exact h.elim
theorem f128_ok {lo : Nat} {args : List AV} {η : List Blk} {K : AV → List Blk → Prop} (h : SSib args η K) : AF Tryz.prog lo 128 args η K := by
  unfold SSib at h
  split at h
  · rename_i a b c d e f
    refine AF_run Sp128_ok D0 [] [.tmp 4] hm Tryz.func128 rfl (by decide) Tryz.ntmps128 rfl (by kernel_rfl) (Nat.le_of_ble_eq_true rfl) ?_; intro hlo
    cases e1 : idB a b c
    · repeat' (first | with_reducible refine iteI (fun _ => ?_) (fun _ => ?_) | ((first | unfold AOpsC | unfold AOpsD | skip); simp (maxSteps := 1000000) (disch := (first | omega | assumption | (simp only [List.length_append, List.length_cons, List.length_nil, List.length_set]; omega))) only [go_sem, Sp128, SId, e1]))
      exact KB h (by simp [sibB, idT, e1])
    cases e2 : idB d e f
    · repeat' (first | with_reducible refine iteI (fun _ => ?_) (fun _ => ?_) | ((first | unfold AOpsC | unfold AOpsD | skip); simp (maxSteps := 1000000) (disch := (first | omega | assumption | (simp only [List.length_append, List.length_cons, List.length_nil, List.length_set]; omega))) only [go_sem, Sp128, SId, e1, e2]))
      exact KB h (by simp [sibB, idT, e1, e2])
    have b1 := id_bd e1
    have b2 := id_bd e2
    by_cases e3 : a = d
    case neg =>
      repeat' (first | with_reducible refine iteI (fun _ => ?_) (fun _ => ?_) | ((first | unfold AOpsC | unfold AOpsD | skip); simp (maxSteps := 1000000) (disch := (first | omega | assumption | (simp only [List.length_append, List.length_cons, List.length_nil, List.length_set]; omega))) only [go_sem, Sp128, SId, e1, e2]))
      exact KB h (by simp [sibB, e3])
    by_cases e4 : b = e
    case neg =>
      repeat' (first | with_reducible refine iteI (fun _ => ?_) (fun _ => ?_) | ((first | unfold AOpsC | unfold AOpsD | skip); simp (maxSteps := 1000000) (disch := (first | omega | assumption | (simp only [List.length_append, List.length_cons, List.length_nil, List.length_set]; omega))) only [go_sem, Sp128, SId, e1, e2]))
      exact KB h (by simp [sibB, e4])
    by_cases e5 : c.tmod 2 = 0
    case neg =>
      repeat' (first | with_reducible refine iteI (fun _ => ?_) (fun _ => ?_) | ((first | unfold AOpsC | unfold AOpsD | skip); simp (maxSteps := 1000000) (disch := (first | omega | assumption | (simp only [List.length_append, List.length_cons, List.length_nil, List.length_set]; omega))) only [go_sem, Sp128, SId, e1, e2, e5]))
      exact KB h (by simp [sibB, e5])
    by_cases e6 : f = c + 1
    · repeat' (first | with_reducible refine iteI (fun _ => ?_) (fun _ => ?_) | ((first | unfold AOpsC | unfold AOpsD | skip); simp (maxSteps := 1000000) (disch := (first | omega | assumption | (simp only [List.length_append, List.length_cons, List.length_nil, List.length_set]; omega))) only [go_sem, Sp128, SId, e1, e2, e5]))
      subst e3 e4 e6
      exact KB h (by simp [sibB, idT, e1, e2, e5])
    · repeat' (first | with_reducible refine iteI (fun _ => ?_) (fun _ => ?_) | ((first | unfold AOpsC | unfold AOpsD | skip); simp (maxSteps := 1000000) (disch := (first | omega | assumption | (simp only [List.length_append, List.length_cons, List.length_nil, List.length_set]; omega))) only [go_sem, Sp128, SId, e1, e2, e5]))
      exact KB h (by simp [sibB, e6])
  · exact h.elim

theorem sib_of {a b : Id3} (h1 : parB a = true) (h2 : parB b = true) (h3 : parL a = parL b) (h4 : a.2.2.tmod 2 = 0) (h5 : b.2.2 = a.2.2 + 1) : sibB a b = true := by
  simp only [parB, Bool.and_eq_true] at h1 h2
  simp only [parL, Prod.mk.injEq] at h3
  simp only [sibB, Bool.and_eq_true, decide_eq_true_eq]
  exact ⟨h1.1, h2.1, h3.1, by omega, h4, h5⟩
theorem sib_par {a b : Id3} (h : sibB a b = true) : parB a = true ∧ parB b = true ∧ parL a = parL b := by
  obtain ⟨ix, g1, g2, g3, g4, g5, g6, g7, g8, g9⟩ := sib_geo h
  obtain ⟨h1, h2, h3, h4, h5, h6⟩ := sib_t h
  refine ⟨by simp [parB, idT, h1]; omega, by simp [parB, idT, h2]; omega, ?_⟩
  rw [g1]
  have h7 := id_bd h1
  have e2 : b.2.2.tdiv 2 = b.2.2 / 2 := Int.tdiv_eq_ediv_of_nonneg (by omega)
  have e3 : b.2.2.tdiv 2 = ix := by omega
  rw [parL, e3, g4, g5]
def eq3 (x y : Id3) : Bool := sameInts [(IntKind.i64, x.1), (.i64, x.2.1), (.i64, x.2.2)] [(.i64, y.1), (.i64, y.2.1), (.i64, y.2.2)]
theorem eq3_iff (x y : Id3) : eq3 x y = true ↔ x = y := by
  obtain ⟨a, b, c⟩ := x
  obtain ⟨d, e, f⟩ := y
  simp [eq3, sameInts]

/- impl.IsSibling -/
def Sp132 (lo : Nat) : Spec := fun g args η K => match g with | 152 => SPar args η K | _ => False
theorem Sp132_ok {lo : Nat} : Sound Tryz.prog lo (Sp132 lo) := by
  intro g args η K h
  unfold Sp132 at h
  split at h
  · exact .inl (f152_ok h)
  · exact h.elim
theorem f132_ok {lo : Nat} {args : List AV} {η : List Blk} {K : AV → List Blk → Prop} (h : SSib args η K) : AF Tryz.prog lo 132 args η K := by
  unfold SSib at h
  split at h
  · rename_i a b c d e f
    have hq : sameInts [(IntKind.i64, (parV (a, b, c)).1), (.i64, (parV (a, b, c)).2.1), (.i64, (parV (a, b, c)).2.2)] [(.i64, (parV (d, e, f)).1), (.i64, (parV (d, e, f)).2.1), (.i64, (parV (d, e, f)).2.2)] = eq3 (parV (a, b, c)) (parV (d, e, f)) := rfl
    refine AF_run Sp132_ok D0 [] [.tmp 4] hm Tryz.func132 rfl (by decide) Tryz.ntmps132 rfl (by kernel_rfl) (Nat.le_of_ble_eq_true rfl) ?_; intro hlo
    cases e1 : parB (a, b, c)
    · have hs : sibB (a, b, c) (d, e, f) = false := by
        cases hs : sibB (a, b, c) (d, e, f)
        · rfl
        · rw [(sib_par hs).1] at e1; cases e1
      rw [hs] at h
      cases e2 : parB (d, e, f)
      · repeat' (first | with_reducible refine iteI (fun _ => ?_) (fun _ => ?_) | ((first | unfold AOpsC | unfold AOpsD | skip); simp (maxSteps := 1000000) (disch := (first | omega | assumption | (simp only [List.length_append, List.length_cons, List.length_nil, List.length_set]; omega))) only [go_sem, Sp132, SPar, e1, e2, intsOf, hq]))
        exact h
      · repeat' (first | with_reducible refine iteI (fun _ => ?_) (fun _ => ?_) | ((first | unfold AOpsC | unfold AOpsD | skip); simp (maxSteps := 1000000) (disch := (first | omega | assumption | (simp only [List.length_append, List.length_cons, List.length_nil, List.length_set]; omega))) only [go_sem, Sp132, SPar, e1, e2, intsOf, hq]))
        exact h
    have hid : idB a b c = true := by simp only [parB, idT, Bool.and_eq_true] at e1; exact e1.1
    have hbd := id_bd hid
    cases e2 : parB (d, e, f)
    · have hs : sibB (a, b, c) (d, e, f) = false := by
        cases hs : sibB (a, b, c) (d, e, f)
        · rfl
        · rw [(sib_par hs).2.1] at e2; cases e2
      rw [hs] at h
      repeat' (first | with_reducible refine iteI (fun _ => ?_) (fun _ => ?_) | ((first | unfold AOpsC | unfold AOpsD | skip); simp (maxSteps := 1000000) (disch := (first | omega | assumption | (simp only [List.length_append, List.length_cons, List.length_nil, List.length_set]; omega))) only [go_sem, Sp132, SPar, e1, e2, intsOf, hq]))
      exact h
    cases e3 : eq3 (parV (a, b, c)) (parV (d, e, f))
    · have hs : sibB (a, b, c) (d, e, f) = false := by
        cases hs : sibB (a, b, c) (d, e, f)
        · rfl
        · have h3 := (sib_par hs).2.2
          have : eq3 (parV (a, b, c)) (parV (d, e, f)) = true := (eq3_iff _ _).2 (by rw [parV, if_pos e1, parV, if_pos e2, h3])
          rw [e3] at this; cases this
      rw [hs] at h
      repeat' (first | with_reducible refine iteI (fun _ => ?_) (fun _ => ?_) | ((first | unfold AOpsC | unfold AOpsD | skip); simp (maxSteps := 1000000) (disch := (first | omega | assumption | (simp only [List.length_append, List.length_cons, List.length_nil, List.length_set]; omega))) only [go_sem, Sp132, SPar, e1, e2, e3, intsOf, hq]))
      exact h
    have h3 : parL (a, b, c) = parL (d, e, f) := by
      have := (eq3_iff _ _).1 e3
      rwa [parV, if_pos e1, parV, if_pos e2] at this
    by_cases e4 : c.tmod 2 = 0
    case neg =>
      repeat' (first | with_reducible refine iteI (fun _ => ?_) (fun _ => ?_) | ((first | unfold AOpsC | unfold AOpsD | skip); simp (maxSteps := 1000000) (disch := (first | omega | assumption | (simp only [List.length_append, List.length_cons, List.length_nil, List.length_set]; omega))) only [go_sem, Sp132, SPar, e1, e2, e3, e4, intsOf, hq]))
      exact KB h (by simp [sibB, e4])
    by_cases e5 : f = c + 1
    · have hs := sib_of e1 e2 h3 e4 e5
      rw [hs] at h
      repeat' (first | with_reducible refine iteI (fun _ => ?_) (fun _ => ?_) | ((first | unfold AOpsC | unfold AOpsD | skip); simp (maxSteps := 1000000) (disch := (first | omega | assumption | (simp only [List.length_append, List.length_cons, List.length_nil, List.length_set]; omega))) only [go_sem, Sp132, SPar, e1, e2, e3, e4, intsOf, hq]))
      exact h
    · repeat' (first | with_reducible refine iteI (fun _ => ?_) (fun _ => ?_) | ((first | unfold AOpsC | unfold AOpsD | skip); simp (maxSteps := 1000000) (disch := (first | omega | assumption | (simp only [List.length_append, List.length_cons, List.length_nil, List.length_set]; omega))) only [go_sem, Sp132, SPar, e1, e2, e3, e4, intsOf, hq]))
      exact KB h (by simp [sibB, e5])
  · exact h.elim

end Go.Proofs.YtaalpmbopkbdiaaGreat
