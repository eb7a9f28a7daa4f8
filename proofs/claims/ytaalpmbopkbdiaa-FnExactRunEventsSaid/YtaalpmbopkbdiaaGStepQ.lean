/- What functions of the program compute, said in the abstract logic; no conditions. -/
import Derived.Test.YtaalpmbopkbdiaaGMove
import Derived.Test.YtaalpmbopkbdiaaGAct
import Derived.Test.YtaalpmbopkbdiaaGCopy

namespace Go.Proofs.Ytaalpmbopkbdiaa
open Go
set_option linter.unusedSimpArgs false
set_option linter.unusedVariables false
set_option maxRecDepth 100000
set_option maxHeartbeats 8000000
attribute [local go_sem] st0 AC thenA andC locLoadB KsSW_same KsSW_grow oldLoadB noBlkB KsSL_same KsOS_same KsOS_grow pv ev put upd dstOk cv cvc binI setB Value.oneCell' EndA resA resA1 List.mapM_cons List.mapM_nil Option.pure_def Option.bind_eq_bind noLocV noLoc1 noLoc noLocs plainV cellsA newVarA putCells condA lam0 inBlockA cur lenA rowA writeA dstA appendC appendZ avoidsB avoidB clearB Array.toList_append Op.operands Call.operands newSlot Nat.zero_add Nat.add_zero Nat.succ_ne_self Nat.lt_add_one Nat.zero_lt_succ true_and and_true true_or or_true false_or or_false and_self true_implies forall_const Bool.false_eq_true Bool.true_eq_false false_implies implies_true imp_self ne_eq not_false_eq_true not_true_eq_false false_and and_false List.getElem?_toArray List.getElem?_cons_succ List.getElem?_cons_zero Option.bind_some Option.map_some Bool.not_true Bool.not_false List.getD_cons_zero List.getD_cons_succ Option.some.injEq exists_eq_left' AV.bool.injEq List.map_cons List.map_nil List.all_cons List.all_nil Bool.and_self Bool.and_true Bool.true_and List.append_nil List.cons_append List.nil_append List.length_cons List.length_nil List.drop_zero List.take_zero List.drop_succ_cons List.take_succ_cons List.take_nil List.drop_nil List.not_mem_nil List.mem_cons List.contains_nil List.contains_cons Bool.or_self Bool.or_true Bool.true_or Bool.false_or Bool.or_false Bool.and_false Bool.false_and KsS_same KsS_grow skipV KsS_ext KsSW_ext KsOS_ext rep1 rep2 rep3 rep4 rep5 List.flatten_cons List.flatten_nil partsA isPtr fillA List.size_toArray ltT ltF leT leF ltTn ltFn leTn leFn eqTi eqFi wrapId toNat1 intGet boolGet memD app_get app_last app_lst app_set app_setL app_setF set_ne set_eq gt_iff_lt ge_iff_le decide_eq_true_eq len2 len3 get20 get21 drop2 put2 get30 get31 get32 drop3 put3 putI pairEta bneTi bneFi beqTi beqFi bne_eq_false_iff_eq beq_eq_false_iff_ne beq_iff_eq bne_iff_ne Int.toNat_natCast Nat.mul_one List.length_map Bool.not_eq_true Bool.not_eq_false Bool.decide_eq_true decide_true decide_false Bool.not_eq_true' Bool.not_eq_false' decide_eq_false_iff_not eq_self Decidable.not_not
theorem max0 (x : Int) : (if x < 0 then 0 else x) = posP x := by
  unfold posP
  split <;> split <;> omega
/-- Fluxes, and masses, once the faces before i are done. -/
def qF (p : Nat → Int) (i j : Nat) : Int := if j < i then p j else 0
def qM (ms : List Int) (p : Nat → Int) (i j : Nat) : Int := ms.getD j 0 - (if j < i then p j else 0) + (if 0 < j ∧ j - 1 < i then p (j - 1) else 0)
theorem qF_0 (p : Nat → Int) (j : Nat) : qF p 0 j = 0 := by simp [qF]
theorem qM_0 (ms : List Int) (p : Nat → Int) (j : Nat) : qM ms p 0 j = ms.getD j 0 := by simp [qM]
theorem qF_step (p : Nat → Int) (i j : Nat) : (if j = i then p i else qF p i j) = qF p (i + 1) j := by
  unfold qF
  by_cases h : j = i
  · subst h
    rw [if_pos rfl, if_pos (by omega)]
  · have c : (j < i + 1) ↔ j < i := by omega
    rw [if_neg h]
    simp only [c]
theorem qM_step (ms : List Int) (p : Nat → Int) (i j : Nat) : shf (qM ms p i) i (i + 1) (p i) j = qM ms p (i + 1) j := by
  unfold shf qM
  by_cases h : j = i
  · subst h
    have c : (0 < j ∧ j - 1 < j + 1) ↔ (0 < j ∧ j - 1 < j) := by omega
    rw [if_pos rfl, if_neg (Nat.lt_irrefl j), if_pos (show j < j + 1 by omega)]
    simp only [c]
    omega
  · rw [if_neg h]
    by_cases h2 : j = i + 1
    · subst h2
      rw [if_pos rfl, if_neg (show ¬ i + 1 < i by omega), if_neg (show ¬ i + 1 < i + 1 by omega), if_neg (show ¬ (0 < i + 1 ∧ i + 1 - 1 < i) by omega), if_pos (show 0 < i + 1 ∧ i + 1 - 1 < i + 1 by omega), Nat.add_sub_cancel]
      omega
    · rw [if_neg h2]
      have c1 : (j < i + 1) ↔ j < i := by omega
      have c2 : (0 < j ∧ j - 1 < i + 1) ↔ (0 < j ∧ j - 1 < i) := by omega
      simp only [c1, c2]
theorem q_skip {ms : List Int} {p : Nat → Int} {i : Nat} (h : p i = 0) (j : Nat) : qF p i j = qF p (i + 1) j ∧ qM ms p i j = qM ms p (i + 1) j := by
  constructor
  · rw [← qF_step]
    by_cases e : j = i
    · subst e; rw [if_pos rfl, h]; simp [qF]
    · rw [if_neg e]
  · rw [← qM_step, h, shf_0]
theorem qM_bd {ms : List Int} {p : Nat → Int} {X : Int} {m : Nat} (hm : ∀ j, j < m → 0 ≤ ms.getD j 0 ∧ ms.getD j 0 ≤ X) (hp : ∀ j, j < m → -X ≤ p j ∧ p j ≤ X) (i : Nat) {j : Nat} (hj : j < m) (hX : 0 ≤ X) : -(2 * X) ≤ qM ms p i j ∧ qM ms p i j ≤ 3 * X := by
  have a := hm j hj
  unfold qM
  have c1 : -X ≤ (if j < i then p j else 0) ∧ (if j < i then p j else 0) ≤ X := by
    split
    · exact hp j hj
    · omega
  have c2 : -X ≤ (if 0 < j ∧ j - 1 < i then p (j - 1) else 0) ∧ (if 0 < j ∧ j - 1 < i then p (j - 1) else 0) ≤ X := by
    split
    · exact hp _ (by omega)
    · omega
  omega
theorem qF_end {p : Nat → Int} {i m j : Nat} (h : i + 1 = m) (hp : j + 1 = m → p j = 0) (hj : j < m) : qF p i j = p j := by
  unfold qF
  by_cases h2 : j < i
  · rw [if_pos h2]
  · rw [if_neg h2, hp (by omega)]
theorem qM_end {l : List Id3} {ms bs A : List Int} {i m j : Nat} (h : i + 1 = m) (hp : j + 1 = m → phi l ms bs A j = 0) (hj : j < m) : qM ms (phi l ms bs A) i j = stM l ms bs A j := by
  unfold qM stM
  have e1 : (if j < i then phi l ms bs A j else 0) = phi l ms bs A j := qF_end h hp hj
  have c : (0 < j ∧ j - 1 < i) ↔ 0 < j := by omega
  rw [e1]
  simp only [c]
/-- Tracers, once the leaves before i are done. -/
def qT (ts : List Int) (a b : Nat → Int) (i j : Nat) : Int := ts.getD j 0 + dV a b i j
theorem qT_0 (ts : List Int) (a b : Nat → Int) (j : Nat) : qT ts a b 0 j = ts.getD j 0 := by rw [qT, dV_0, Int.add_zero]
theorem qT_step {ts : List Int} {a b : Nat → Int} (h0 : b 0 = 0) (i j : Nat) : qT ts a b (i + 1) j = (if j = i then qT ts a b i i - a i - b i else if j + 1 = i then qT ts a b i j + b i else if j = i + 1 then qT ts a b i j + a i else qT ts a b i j) := by
  unfold qT
  rw [← dV_step h0]
  unfold shf
  by_cases h : j = i
  · subst h
    simp only [if_true]
    omega
  · rw [if_neg h, if_neg h, if_neg h]
    by_cases h2 : j + 1 = i
    · rw [if_pos h2, if_pos (by omega), if_neg (by omega)]
      omega
    · rw [if_neg h2]
      by_cases h3 : j = i - 1
      · have : i = 0 := by omega
        omega
      · rw [if_neg h3]
        split <;> omega
section
variable {ts : List Int} {a b : Nat → Int} {m i : Nat}
theorem qT_a (h0 : b 0 = 0) (ha : a i = 0) (hb : b i = 0) : ((List.range m).map (qT ts a b i)).set i (qT ts a b i i - a i - b i) = (List.range m).map (qT ts a b (i + 1)) := by
  rw [mapSet]
  apply mapEq
  intro j _
  rw [qT_step h0, ha, hb]
  by_cases h : j = i
  · rw [if_pos h, if_pos h]
  · rw [if_neg h, if_neg h]
    split
    · omega
    · split <;> omega
theorem qT_b (h0 : b 0 = 0) (hb : b i = 0) : (((List.range m).map (qT ts a b i)).set i (qT ts a b i i - a i - b i)).set (i + 1) (qT ts a b i (i + 1) + a i) = (List.range m).map (qT ts a b (i + 1)) := by
  rw [mapSet, mapSet]
  apply mapEq
  intro j _
  rw [qT_step h0, hb]
  by_cases h : j = i
  · subst h
    rw [if_neg (by omega), if_pos rfl, if_pos rfl]
  · rw [if_neg h, if_neg h]
    by_cases h2 : j = i + 1
    · subst h2
      rw [if_pos rfl, if_neg (by omega)]
    · rw [if_neg h2, if_neg h2]
      split <;> omega
theorem qT_c (h0 : b 0 = 0) (ha : a i = 0) (hi : 0 < i) : (((List.range m).map (qT ts a b i)).set i (qT ts a b i i - a i - b i)).set (i - 1) (qT ts a b i (i - 1) + b i) = (List.range m).map (qT ts a b (i + 1)) := by
  rw [mapSet, mapSet]
  apply mapEq
  intro j _
  rw [qT_step h0, ha]
  by_cases h : j = i
  · subst h
    rw [if_neg (by omega), if_pos rfl, if_pos rfl]
  · rw [if_neg h, if_neg h]
    by_cases h2 : j = i - 1
    · have h3 : j + 1 = i := by omega
      rw [if_pos h2, if_pos h3, h2]
    · rw [if_neg h2, if_neg (by omega)]
      split <;> omega
theorem qT_d (h0 : b 0 = 0) (hi : 0 < i) : ((((List.range m).map (qT ts a b i)).set i (qT ts a b i i - a i - b i)).set (i + 1) (qT ts a b i (i + 1) + a i)).set (i - 1) (qT ts a b i (i - 1) + b i) = (List.range m).map (qT ts a b (i + 1)) := by
  rw [mapSet, mapSet, mapSet]
  apply mapEq
  intro j _
  rw [qT_step h0]
  by_cases h : j = i
  · subst h
    rw [if_neg (by omega), if_neg (by omega), if_pos rfl, if_pos rfl]
  · rw [if_neg h, if_neg h]
    by_cases h2 : j = i - 1
    · have h3 : j + 1 = i := by omega
      rw [if_pos h2, if_pos h3, h2]
    · rw [if_neg h2, if_neg (show ¬ j + 1 = i by omega)]
      by_cases h3 : j = i + 1
      · subst h3
        rw [if_pos rfl]
      · rw [if_neg h3, if_neg h3]
end

theorem range_getD' (l : List Int) : (List.range l.length).map (fun i => l.getD i 0) = l := by
  apply List.ext_getElem
  · simp
  · intro i h1 h2
    simp [List.getD_eq_getElem?_getD, List.getElem?_eq_getElem h2]

theorem New4.oth {n : Nat} {η : List Blk} {b b0 b1 b2 b3 v0 v1 v2 v3 : Nat} {l : List Id3} {ms ts bs : List Int} (h : New4 n η b0 b1 b2 b3 v0 v1 v2 v3 l ms ts bs) (hb : b ≠ b0 ∧ b ≠ b1 ∧ b ≠ b2 ∧ b ≠ b3) (B : Blk) : New4 n (η.set b B) b0 b1 b2 b3 v0 v1 v2 v3 l ms ts bs :=
  ⟨setBlk h.g0 hb.1, setBlk h.g1 hb.2.1, setBlk h.g2 hb.2.2.1, setBlk h.g3 hb.2.2.2, h.n0, h.n1, h.n2, h.n3, h.d01, h.d02, h.d03, h.d12, h.d13, h.d23⟩
end Go.Proofs.Ytaalpmbopkbdiaa
