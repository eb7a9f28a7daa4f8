/- What functions of the program compute, said in the abstract logic; no conditions. -/
import Derived.Test.YtaalpmbopkbdiaaGreatGFlux2
import Derived.Test.YtaalpmbopkbdiaaGreatGRem
import Derived.Test.YtaalpmbopkbdiaaGreatGAct

namespace Go.Proofs.YtaalpmbopkbdiaaGreat
open Go
set_option linter.unusedSimpArgs false
set_option linter.unusedVariables false
set_option maxRecDepth 100000
set_option maxHeartbeats 8000000
attribute [local go_sem] st0 AC thenA andC locLoadB KsSW_same KsSW_grow oldLoadB noBlkB KsSL_same KsOS_same KsOS_grow pv ev put upd dstOk cv cvc binI setB Value.oneCell' EndA resA resA1 List.mapM_cons List.mapM_nil Option.pure_def Option.bind_eq_bind noLocV noLoc1 noLoc noLocs plainV cellsA newVarA putCells condA lam0 inBlockA cur lenA rowA writeA dstA appendC appendZ mapPut mapGet avoidsB avoidB clearB Array.toList_append Op.operands Call.operands newSlot Nat.zero_add Nat.add_zero Nat.succ_ne_self Nat.lt_add_one Nat.zero_lt_succ true_and and_true true_or or_true false_or or_false and_self true_implies forall_const Bool.false_eq_true Bool.true_eq_false false_implies implies_true imp_self ne_eq not_false_eq_true not_true_eq_false false_and and_false List.getElem?_toArray List.getElem?_cons_succ List.getElem?_cons_zero Option.bind_some Option.map_some Bool.not_true Bool.not_false List.getD_cons_zero List.getD_cons_succ Option.some.injEq exists_eq_left' AV.bool.injEq List.map_cons List.map_nil List.all_cons List.all_nil Bool.and_self Bool.and_true Bool.true_and List.append_nil List.cons_append List.nil_append List.length_cons List.length_nil List.drop_zero List.take_zero List.drop_succ_cons List.take_succ_cons List.take_nil List.drop_nil List.not_mem_nil List.mem_cons List.contains_nil List.contains_cons Bool.or_self Bool.or_true Bool.true_or Bool.false_or Bool.or_false Bool.and_false Bool.false_and KsS_same KsS_grow skipV KsS_ext KsSW_ext KsOS_ext rep1 rep2 rep3 rep4 rep5 List.flatten_cons List.flatten_nil partsA isPtr fillA List.size_toArray ltT ltF leT leF ltTn ltFn leTn leFn eqTi eqFi wrapId toNat1 intGet boolGet memD app_get app_last app_lst app_set app_setL app_setF set_ne set_eq gt_iff_lt ge_iff_le decide_eq_true_eq len2 len3 get20 get21 drop2 put2 get30 get31 get32 drop3 put3 putI pairEta bneTi bneFi beqTi beqFi bne_eq_false_iff_eq beq_eq_false_iff_ne beq_iff_eq bne_iff_ne Int.toNat_natCast Nat.mul_one List.length_map Bool.not_eq_true Bool.not_eq_false Bool.decide_eq_true decide_true decide_false Bool.not_eq_true' Bool.not_eq_false' decide_eq_false_iff_not eq_self Decidable.not_not
attribute [local go_sem ↓] skipC exitC retC seqC blockC condC regC drawC drawStep AOpC AOpF AOpE AEff contE_at contC_at keepC_at keepW_at keepO_at keepL_at map_parts
attribute [local go_sem] reduceCtorEq Nat.reduceLT Nat.reduceEqDiff Nat.reduceAdd Nat.reduceMul Nat.reduceLeDiff Nat.reduceSub Nat.reduceBEq Nat.reduceBNe Nat.reduceBneDiff Nat.reduceBeqDiff
attribute [local go_sem ↓] reduceIte
attribute [local go_sem] ag_25 ag_3 by_25 by_3 el_25 en_3 in_3 sz_25 sz_3 ze_25 ze_3
theorem mapSet (f : Nat → Int) (n i : Nat) (x : Int) : ((List.range n).map f).set i x = (List.range n).map (fun j => if j = i then x else f j) := by
  apply List.ext_getElem
  · simp
  · intro j h1 h2
    simp only [List.getElem_set, List.getElem_map, List.getElem_range]
    by_cases h : i = j
    · subst h; simp
    · rw [if_neg h, if_neg (fun e => h e.symm)]
theorem mapEq {f g : Nat → Int} {n : Nat} (h : ∀ j, j < n → f j = g j) : (List.range n).map f = (List.range n).map g := by
  apply List.map_congr_left
  intro j hj
  exact h j (List.mem_range.1 hj)
theorem mapAt (f : Nat → Int) {n i : Nat} (h : i < n) : ((List.range n).map f).getD i 0 = f i := by
  simp [List.getD_eq_getElem?_getD, List.getElem?_map, List.getElem?_range h]
theorem mapLn (f : Nat → Int) (n : Nat) : ((List.range n).map f).length = n := by simp
/-- Moved from i to k. -/
def shf (f : Nat → Int) (i k : Nat) (m : Int) (j : Nat) : Int := if j = i then f j - m else if j = k then f j + m else f j
theorem shf_0 (f : Nat → Int) (i k j : Nat) : shf f i k 0 j = f j := by
  unfold shf
  split
  · omega
  · split <;> omega
theorem shf_set {f : Nat → Int} {n i k : Nat} {m : Int} (h : k ≠ i) : (((List.range n).map f).set i (f i - m)).set k (f k + m) = (List.range n).map (shf f i k m) := by
  rw [mapSet, mapSet]
  apply mapEq
  intro j _
  unfold shf
  by_cases h1 : j = i
  · subst h1
    rw [if_neg (fun e => h e.symm), if_pos rfl, if_pos rfl]
  · rw [if_neg h1, if_neg h1]
    by_cases h2 : j = k
    · subst h2; simp
    · rw [if_neg h2, if_neg h2]
/-- What flows through a face. -/
def phi (l : List Id3) (ms bs : List Int) (A : List Int) (i : Nat) : Int := if (i : Int) ∈ A then fluxI l ms bs i else 0
def posP (x : Int) : Int := if 0 < x then x else 0
def rgt (l : List Id3) (ms bs : List Int) (A : List Int) (i : Nat) : Int := posP (phi l ms bs A i)
def lft (l : List Id3) (ms bs : List Int) (A : List Int) (i : Nat) : Int := if 0 < i then posP (-(phi l ms bs A (i - 1))) else 0
def outA (l : List Id3) (ms ts bs : List Int) (A : List Int) (i : Nat) : Int := leafA (ts.getD i 0) (ms.getD i 0) (rgt l ms bs A i) (lft l ms bs A i)
def outB (l : List Id3) (ms ts bs : List Int) (A : List Int) (i : Nat) : Int := leafBq (ts.getD i 0) (ms.getD i 0) (rgt l ms bs A i) (lft l ms bs A i)
/-- Masses and tracers after a tick. -/
def stM (l : List Id3) (ms bs : List Int) (A : List Int) (j : Nat) : Int := ms.getD j 0 - phi l ms bs A j + (if 0 < j then phi l ms bs A (j - 1) else 0)
def stT (l : List Id3) (ms ts bs : List Int) (A : List Int) (j : Nat) : Int := ts.getD j 0 - outA l ms ts bs A j - outB l ms ts bs A j + (if 0 < j then outA l ms ts bs A (j - 1) else 0) + (if j + 1 < ms.length then outB l ms ts bs A (j + 1) else 0)
def nM (l : List Id3) (ms bs : List Int) (A : List Int) : List Int := (List.range ms.length).map (stM l ms bs A)
def nT (l : List Id3) (ms ts bs : List Int) (A : List Int) : List Int := (List.range ms.length).map (stT l ms ts bs A)
theorem posP_nn (x : Int) : 0 ≤ posP x := by
  unfold posP
  split <;> omega
/-- The faces are faces of the mesh. -/
def facesB (n : Nat) (A : List Int) : Prop := ∀ x ∈ A, 0 ≤ x ∧ x + 1 < n
section
variable {r : Int} {l : List Id3} {ms ts bs : List Int} {A : List Int}
theorem phi_bd (e1 : okB r l ms ts bs = true) (hA : facesB ms.length A) {i : Nat} (hi : i < ms.length) : phi l ms bs A i ≤ (ms.getD i 0).tdiv 4 ∧ (i + 1 < ms.length → -((ms.getD (i + 1) 0).tdiv 4) ≤ phi l ms bs A i) ∧ (i + 1 = ms.length → phi l ms bs A i = 0) := by
  obtain ⟨k1, k2, k3, k4, k5, k6, k7, k8⟩ := okT e1
  have c := cells_at k7 hi
  have q1 : 0 ≤ (ms.getD i 0).tdiv 4 := Int.tdiv_nonneg c.1 (by omega)
  unfold phi
  by_cases h : (i : Int) ∈ A
  · have := hA _ h
    have hf := flux_bd e1 (i := i) (by omega)
    simp only [if_pos h]
    exact ⟨hf.2, fun _ => hf.1, fun e => by omega⟩
  · simp only [if_neg h]
    refine ⟨q1, fun h2 => ?_, fun _ => by simp⟩
    have := cells_at k7 h2
    have : 0 ≤ (ms.getD (i + 1) 0).tdiv 4 := Int.tdiv_nonneg this.1 (by omega)
    omega
/-- What leaves a leaf is at most half of it. -/
theorem out_bd (e1 : okB r l ms ts bs = true) (hA : facesB ms.length A) {i : Nat} (hi : i < ms.length) : 0 ≤ rgt l ms bs A i ∧ 0 ≤ lft l ms bs A i ∧ rgt l ms bs A i + lft l ms bs A i ≤ ms.getD i 0 ∧ (i + 1 = ms.length → rgt l ms bs A i = 0) ∧ (i = 0 → lft l ms bs A i = 0) := by
  obtain ⟨k1, k2, k3, k4, k5, k6, k7, k8⟩ := okT e1
  have c := cells_at k7 hi
  have q : (ms.getD i 0).tdiv 4 = (ms.getD i 0) / 4 := Int.tdiv_eq_ediv_of_nonneg c.1
  have p1 := phi_bd e1 hA hi
  refine ⟨posP_nn _, ?_, ?_, ?_, ?_⟩
  · unfold lft
    split
    · exact posP_nn _
    · omega
  · have a1 : rgt l ms bs A i ≤ ms.getD i 0 / 4 := by
      unfold rgt posP
      split <;> omega
    have a2 : lft l ms bs A i ≤ ms.getD i 0 / 4 := by
      unfold lft
      split
      · rename_i h0
        have p2 := (phi_bd e1 hA (i := i - 1) (by omega)).2.1 (by omega)
        rw [show i - 1 + 1 = i by omega, q] at p2
        unfold posP
        split <;> omega
      · omega
    omega
  · intro h
    simp [rgt, posP, p1.2.2 h]
  · rintro rfl
    simp [lft]
end
/-- The fluxes booked so far, to the right and to the left. -/
def fR (l : List Id3) (ms bs A : List Int) (k j : Nat) : Int := if (j : Int) ∈ A.take k then posP (fluxI l ms bs j) else 0
def fL (l : List Id3) (ms bs A : List Int) (k j : Nat) : Int := if 0 < j ∧ (j : Int) - 1 ∈ A.take k then posP (-(fluxI l ms bs (j - 1))) else 0
section
variable {l : List Id3} {ms bs A : List Int} {i j : Nat}
theorem take_mem (hi : i < A.length) (hj : A.getD i 0 = (j : Int)) (x : Int) : x ∈ A.take (i + 1) ↔ x ∈ A.take i ∨ x = j := by
  rw [take1 (d := 0) hi, hj, List.mem_append, List.mem_singleton]
theorem fR_pos (hi : i < A.length) (hj : A.getD i 0 = (j : Int)) (hF : 0 < fluxI l ms bs j) (q : Nat) : (if q = j then fluxI l ms bs j else fR l ms bs A i q) = fR l ms bs A (i + 1) q := by
  unfold fR
  simp only [take_mem hi hj]
  by_cases h : q = j
  · subst h
    rw [if_pos rfl, if_pos (.inr rfl), posP, if_pos hF]
  · rw [if_neg h]
    have : ((q : Int) ∈ A.take i ∨ (q : Int) = j) ↔ (q : Int) ∈ A.take i := ⟨fun e => e.elim id (fun e => by omega), .inl⟩
    simp only [this]
theorem fL_pos (hi : i < A.length) (hj : A.getD i 0 = (j : Int)) (hF : 0 < fluxI l ms bs j) (q : Nat) : fL l ms bs A i q = fL l ms bs A (i + 1) q := by
  unfold fL
  simp only [take_mem hi hj]
  by_cases h0 : 0 < q
  · by_cases h : q - 1 = j
    · subst h
      have e : posP (-(fluxI l ms bs (q - 1))) = 0 := by rw [posP, if_neg (by omega)]
      simp only [e]
      simp
    · have : ((q : Int) - 1 ∈ A.take i ∨ (q : Int) - 1 = j) ↔ (q : Int) - 1 ∈ A.take i := ⟨fun e => e.elim id (fun e => by omega), .inl⟩
      simp only [this]
  · simp [h0]
theorem fR_neg (hi : i < A.length) (hj : A.getD i 0 = (j : Int)) (hF : ¬ 0 < fluxI l ms bs j) (q : Nat) : fR l ms bs A i q = fR l ms bs A (i + 1) q := by
  unfold fR
  simp only [take_mem hi hj]
  by_cases h : q = j
  · subst h
    have e : posP (fluxI l ms bs q) = 0 := by rw [posP, if_neg hF]
    simp only [e]
    simp
  · have : ((q : Int) ∈ A.take i ∨ (q : Int) = j) ↔ (q : Int) ∈ A.take i := ⟨fun e => e.elim id (fun e => by omega), .inl⟩
    simp only [this]
theorem fL_neg (hi : i < A.length) (hj : A.getD i 0 = (j : Int)) (hF : ¬ 0 < fluxI l ms bs j) (q : Nat) : (if q = j + 1 then -(fluxI l ms bs j) else fL l ms bs A i q) = fL l ms bs A (i + 1) q := by
  unfold fL
  simp only [take_mem hi hj]
  by_cases h : q = j + 1
  · subst h
    rw [if_pos rfl, if_pos ⟨by omega, .inr (by omega)⟩]
    simp only [Nat.add_sub_cancel, posP]
    split <;> omega
  · rw [if_neg h]
    by_cases h0 : 0 < q
    · have : ((q : Int) - 1 ∈ A.take i ∨ (q : Int) - 1 = j) ↔ (q : Int) - 1 ∈ A.take i := ⟨fun e => e.elim id (fun e => by omega), .inl⟩
      simp only [this]
    · simp [h0]
theorem fR_end (q : Nat) : fR l ms bs A A.length q = rgt l ms bs A q := by
  unfold fR rgt phi
  rw [List.take_length]
  split <;> simp [posP]
theorem fL_end (q : Nat) : fL l ms bs A A.length q = lft l ms bs A q := by
  unfold fL lft phi
  rw [List.take_length]
  by_cases h0 : 0 < q
  · have e : ((q - 1 : Nat) : Int) = (q : Int) - 1 := by omega
    simp only [h0, true_and, if_true, e]
    split <;> simp [posP]
  · simp [h0]
theorem fR_0 (q : Nat) : fR l ms bs A 0 q = 0 := by simp [fR]
theorem fL_0 (q : Nat) : fL l ms bs A 0 q = 0 := by simp [fL]
end
/-- What the leaves before i have moved. -/
def dV (R L : Nat → Int) (i j : Nat) : Int := (if j + 1 < i then L (j + 1) else 0) + (if 0 < j ∧ j - 1 < i then R (j - 1) else 0) - (if j < i then R j + L j else 0)
theorem dV_0 (R L : Nat → Int) (j : Nat) : dV R L 0 j = 0 := by
  unfold dV
  rw [if_neg (by omega), if_neg (by omega), if_neg (by omega)]
  rfl
theorem dV_step {R L : Nat → Int} (h0 : L 0 = 0) (i j : Nat) : shf (shf (dV R L i) i (i + 1) (R i)) i (i - 1) (L i) j = dV R L (i + 1) j := by
  unfold shf
  by_cases h1 : j = i
  · subst h1
    simp only [if_true]
    unfold dV
    rw [if_neg (show ¬ j + 1 < j by omega), if_neg (show ¬ j + 1 < j + 1 by omega), if_neg (Nat.lt_irrefl j), if_pos (show j < j + 1 by omega)]
    by_cases hj : 0 < j
    · rw [if_pos ⟨hj, by omega⟩, if_pos ⟨hj, by omega⟩]; omega
    · rw [if_neg (fun e => hj e.1), if_neg (fun e => hj e.1)]; omega
  · rw [if_neg h1, if_neg h1]
    by_cases h2 : j = i - 1
    · have hi : 0 < i := by omega
      have e : i = j + 1 := by omega
      subst e
      rw [if_pos h2, if_neg (by omega)]
      unfold dV
      rw [if_neg (show ¬ j + 1 < j + 1 by omega), if_pos (show j + 1 < j + 1 + 1 by omega), if_pos (show j < j + 1 by omega), if_pos (show j < j + 1 + 1 by omega)]
      by_cases hj : 0 < j
      · rw [if_pos ⟨hj, by omega⟩, if_pos ⟨hj, by omega⟩]; omega
      · rw [if_neg (fun e => hj e.1), if_neg (fun e => hj e.1)]; omega
    · rw [if_neg h2]
      by_cases h3 : j = i + 1
      · subst h3
        have d1 : dV R L i (i + 1) = 0 := by
          unfold dV
          rw [if_neg (show ¬ i + 1 + 1 < i by omega), if_neg (show ¬ (0 < i + 1 ∧ i + 1 - 1 < i) by omega), if_neg (show ¬ i + 1 < i by omega)]
          rfl
        have d2 : dV R L (i + 1) (i + 1) = R i := by
          unfold dV
          rw [if_neg (show ¬ i + 1 + 1 < i + 1 by omega), if_pos (show 0 < i + 1 ∧ i + 1 - 1 < i + 1 by omega), if_neg (Nat.lt_irrefl (i + 1)), Nat.add_sub_cancel]
          omega
        rw [if_pos rfl, d1, d2]
        omega
      · rw [if_neg h3]
        unfold dV
        have c1 : (j + 1 < i + 1) ↔ (j + 1 < i) := by omega
        have c2 : (0 < j ∧ j - 1 < i + 1) ↔ (0 < j ∧ j - 1 < i) := by omega
        have c3 : (j < i + 1) ↔ (j < i) := by omega
        simp only [c1, c2, c3]
theorem dV_bd {R L : Nat → Int} {X : Int} {m : Nat} (hR : ∀ j, j < m → 0 ≤ R j ∧ R j ≤ X) (hL : ∀ j, j < m → 0 ≤ L j ∧ L j ≤ X) {i j : Nat} (hi : i ≤ m) (hj : j < m) : -(2 * X) ≤ dV R L i j ∧ dV R L i j ≤ 2 * X := by
  have a := hR j hj
  have b := hL j hj
  unfold dV
  have c1 : 0 ≤ (if j + 1 < i then L (j + 1) else 0) ∧ (if j + 1 < i then L (j + 1) else 0) ≤ X := by
    split
    · exact hL _ (by omega)
    · omega
  have c2 : 0 ≤ (if 0 < j ∧ j - 1 < i then R (j - 1) else 0) ∧ (if 0 < j ∧ j - 1 < i then R (j - 1) else 0) ≤ X := by
    split
    · exact hR _ (by omega)
    · omega
  have c3 : 0 ≤ (if j < i then R j + L j else 0) ∧ (if j < i then R j + L j else 0) ≤ 2 * X := by
    split <;> omega
  omega
section
variable {r : Int} {l : List Id3} {ms ts bs : List Int} {A : List Int}
theorem leaf_0 (t m q : Int) (hm : 0 ≤ m) : leafA t m 0 q = 0 := by
  unfold leafA shareO
  repeat' split
  all_goals first | rfl | simp
theorem leafB_0 (t m q : Int) : leafBq t m q 0 = 0 := by
  unfold leafBq
  rw [Int.add_zero, Int.sub_self]
  split <;> rfl
theorem share_nn {t p m : Int} (ht : 0 ≤ t) : 0 ≤ shareO t p m ∧ shareO t p m ≤ t := by
  have := shareO_le (t := t) (p := p) (w := m) ht
  omega
theorem leaf_bd {t m q s : Int} (ht : 0 ≤ t) (hq : 0 ≤ q) (hs : 0 ≤ s) : (0 ≤ leafA t m q s ∧ leafA t m q s ≤ t) ∧ 0 ≤ leafBq t m q s ∧ leafBq t m q s ≤ t := by
  have h1 := share_nn (p := q) (m := m) ht
  have h2 := share_nn (p := q + s) (m := m) ht
  constructor
  · unfold leafA
    split <;> omega
  · unfold leafBq
    split
    · rename_i h
      obtain ⟨c1, c2, c3, c4⟩ := h
      have i1 := inT c1
      have i2 := inT c2
      have i3 := inT c3
      have i4 := inT c4
      have e1 : shareO t q m = (t * q).tdiv m := if_pos ⟨c1, c3, c2⟩
      have e2 : shareO t (q + s) m = (t * (q + s)).tdiv m := if_pos ⟨c1, by simp [inB]; omega, c2⟩
      have a1 := Int.mul_nonneg ht hq
      have a2 := Int.mul_nonneg ht hs
      have a3 : t * q ≤ t * (q + s) := by rw [Int.mul_add]; omega
      have a4 : t * q / m ≤ t * (q + s) / m := Int.ediv_le_ediv (by omega) a3
      rw [Int.tdiv_eq_ediv_of_nonneg a1] at e1
      rw [Int.tdiv_eq_ediv_of_nonneg (by omega)] at e2
      omega
    · omega
theorem stM_eq (e1 : okB r l ms ts bs = true) (hA : facesB ms.length A) {j : Nat} (hj : j < ms.length) : ms.getD j 0 + dV (rgt l ms bs A) (lft l ms bs A) ms.length j = stM l ms bs A j := by
  have p0 := phi_bd e1 hA hj
  unfold dV stM
  rw [if_pos hj]
  have c1 : (if j + 1 < ms.length then lft l ms bs A (j + 1) else 0) - rgt l ms bs A j = -(phi l ms bs A j) := by
    by_cases h : j + 1 < ms.length
    · rw [if_pos h]
      unfold lft rgt posP
      rw [if_pos (by omega), Nat.add_sub_cancel]
      split <;> split <;> omega
    · rw [if_neg h]
      have := p0.2.2 (by omega)
      unfold rgt posP
      rw [this]
      simp
  have c2 : (if 0 < j ∧ j - 1 < ms.length then rgt l ms bs A (j - 1) else 0) - lft l ms bs A j = (if 0 < j then phi l ms bs A (j - 1) else 0) := by
    by_cases h : 0 < j
    · rw [if_pos ⟨h, by omega⟩, if_pos h]
      unfold lft rgt posP
      rw [if_pos h]
      split <;> split <;> omega
    · rw [if_neg (fun e => h e.1), if_neg h]
      unfold lft
      rw [if_neg h]
      rfl
  omega
theorem stT_eq {j : Nat} (hj : j < ms.length) : ts.getD j 0 + dV (outA l ms ts bs A) (outB l ms ts bs A) ms.length j = stT l ms ts bs A j := by
  unfold dV stT
  rw [if_pos hj]
  have c : (0 < j ∧ j - 1 < ms.length) ↔ 0 < j := by omega
  simp only [c]
  omega
end
theorem shf_bd {f : Nat → Int} {B M m : Int} {i k n : Nat} (hf : ∀ j, j < n → -B ≤ f j ∧ f j ≤ B) (hm : 0 ≤ m ∧ m ≤ M) (j : Nat) (hj : j < n) : -(B + M) ≤ shf f i k m j ∧ shf f i k m j ≤ B + M := by
  have := hf j hj
  unfold shf
  split
  · omega
  · split <;> omega

def rowB (v : Nat) (f : Nat → Int) (n : Nat) : Blk := ⟨v, 3, 1, ((List.range n).map f).map (.int .i64)⟩
def SShift (lo : Nat) : List AV → List Blk → (AV → List Blk → Prop) → Prop
  | [.int .i64 i, .int .i64 to, .int .i64 m, .int .i64 t, .ptr pm 0 0, .ptr pt 0 0], η, K => ∃ (n bm bt : Nat) (f g : Nat → Int), (lo ≤ bm ∧ lo ≤ bt ∧ bm ≠ bt) ∧ η[pm]? = some ⟨0, 25, 1, [.sl bm 0 0 n]⟩ ∧ η[pt]? = some ⟨0, 25, 1, [.sl bt 0 0 n]⟩ ∧ η[bm]? = some (rowB 0 f n) ∧ η[bt]? = some (rowB 0 g n) ∧
      ((0 ≤ m ∧ m ≤ 10000000000) ∧ (0 ≤ t ∧ t ≤ 10000000000000) ∧ (m = 0 → t = 0) ∧ (0 ≤ i ∧ i < n) ∧ (0 < m → 0 ≤ to ∧ to < n ∧ to ≠ i)) ∧ (∀ j, j < n → (-1000000000000 ≤ f j ∧ f j ≤ 1000000000000) ∧ -1000000000000000 ≤ g j ∧ g j ≤ 1000000000000000) ∧
      K (.tup []) ((η.set bm (rowB 0 (shf f i.toNat to.toNat m) n)).set bt (rowB 0 (shf g i.toNat to.toNat t) n))
  | _, _, _ => False
theorem rowB_0 (f : Nat → Int) (n : Nat) (h : ∀ q, f q = 0) : rowB 0 f n = ⟨0, 3, 1, (List.replicate n [AV.int .i64 0]).flatten⟩ := by
  unfold rowB
  congr 1
  apply List.ext_getElem
  · simp
  · intro i h1 h2
    simp [h]
theorem set_same' {η : List Blk} {b : Nat} {B : Blk} (h : η[b]? = some B) : η.set b B = η := by
  apply List.ext_getElem?
  intro j
  by_cases hj : b = j
  · subst hj
    rw [set_eq (blt h), h]
  · rw [set_ne hj]
theorem rowB_eq {f g : Nat → Int} {n : Nat} (v : Nat) (h : ∀ j, j < n → f j = g j) : rowB v f n = rowB v g n := by
  unfold rowB
  rw [mapEq h]

/- (*impl.State).move$1 -/
theorem f159_ok {lo : Nat} {args : List AV} {η : List Blk} {K : AV → List Blk → Prop} (h : SShift lo args η K) : AF Tryz.prog lo 159 args η K := by
  unfold SShift at h
  split at h
  · obtain ⟨n, bm, bt, f, g, ⟨hlm, hlt, hbb⟩, hpm, hpt, hm0, ht0, ⟨⟨m0, m1⟩, ⟨t0, t1⟩, hmt, ⟨i0, i1⟩, hto⟩, hbd, hK⟩ := h
    rename_i i to m t pm pt
    by_cases hm' : 0 < m
    case neg =>
      obtain rfl : m = 0 := by omega
      obtain rfl : t = 0 := hmt rfl
      have e1 : η.set bm (rowB 0 (shf f i.toNat to.toNat 0) n) = η := by
        rw [rowB_eq 0 (fun j _ => shf_0 f _ _ j)]; exact set_same' hm0
      have e2 : η.set bt (rowB 0 (shf g i.toNat to.toNat 0) n) = η := by
        rw [rowB_eq 0 (fun j _ => shf_0 g _ _ j)]; exact set_same' ht0
      rw [e1, e2] at hK
      refine AF_run noSp_ok D0 [] [] hm Tryz.func159 rfl (by decide) Tryz.ntmps159 rfl (by kernel_rfl) (Nat.le_of_ble_eq_true rfl) ?_; intro hlo
      repeat' (first | with_reducible refine iteI (fun _ => ?_) (fun _ => ?_) | ((first | unfold AOpsC | unfold AOpsD | skip); simp (maxSteps := 1000000) (disch := (first | omega | assumption | (simp only [List.length_append, List.length_cons, List.length_nil, List.length_set]; omega))) only [go_sem, AOpsD]))
      exact hK
    obtain ⟨k0, k1, k2⟩ := hto hm'
    obtain ⟨i, rfl⟩ : ∃ j : Nat, i = j := ⟨i.toNat, by omega⟩
    obtain ⟨k, rfl⟩ : ∃ j : Nat, to = j := ⟨to.toNat, by omega⟩
    rw [Int.toNat_natCast, Int.toNat_natCast] at hK
    have b1 := hbd i (by omega)
    have b2 := hbd k (by omega)
    have hki : k ≠ i := by omega
    have hml := blt hm0
    have htl := blt ht0
    have a1 := mapAt f (n := n) (i := i) (by omega)
    have a2 := mapAt g (n := n) (i := i) (by omega)
    have a3 : (((List.range n).map f).set i (f i - m)).getD k 0 = f k := by rw [mapSet, mapAt _ (by omega), if_neg hki]
    have a4 : (((List.range n).map g).set i (g i - t)).getD k 0 = g k := by rw [mapSet, mapAt _ (by omega), if_neg hki]
    have s1 := shf_set (f := f) (n := n) (m := m) hki
    have s2 := shf_set (f := g) (n := n) (m := t) hki
    have l1 := mapLn f n
    have l2 := mapLn g n
    unfold rowB at hK hm0 ht0
    generalize (List.range n).map (shf f i k m) = M' at *
    generalize (List.range n).map (shf g i k t) = T' at *
    generalize (List.range n).map f = M at *
    generalize (List.range n).map g = T at *
    have hbm : bm ≠ pm := by rintro rfl; rw [hpm] at hm0; cases hm0
    have hbt : bm ≠ pt := by rintro rfl; rw [hpt] at hm0; cases hm0
    have hcm : bt ≠ pm := by rintro rfl; rw [hpm] at ht0; cases ht0
    have hct : bt ≠ pt := by rintro rfl; rw [hpt] at ht0; cases ht0
    refine AF_run noSp_ok D0 [] [] hm Tryz.func159 rfl (by decide) Tryz.ntmps159 rfl (by kernel_rfl) (Nat.le_of_ble_eq_true rfl) ?_; intro hlo
    repeat' (first | with_reducible refine iteI (fun _ => ?_) (fun _ => ?_) | ((first | unfold AOpsC | unfold AOpsD | skip); simp (maxSteps := 1000000) (disch := (first | omega | assumption | (simp only [List.length_append, List.length_cons, List.length_nil, List.length_set]; omega))) only [go_sem, AOpsD, hpm, hpt, hm0, ht0, a1, a2, a3, a4, s1, s2, List.set_set]))
    exact hK
  · exact h.elim

end Go.Proofs.YtaalpmbopkbdiaaGreat
