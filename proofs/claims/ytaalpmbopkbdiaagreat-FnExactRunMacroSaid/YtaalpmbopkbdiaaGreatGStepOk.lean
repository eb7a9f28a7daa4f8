/- What functions of the program compute, said in the abstract logic; no conditions. -/
import Derived.Test.YtaalpmbopkbdiaaGreatGStepQ
import Derived.Test.YtaalpmbopkbdiaaGreatGLedP

namespace Go.Proofs.YtaalpmbopkbdiaaGreat
open Go
set_option linter.unusedSimpArgs false
set_option linter.unusedVariables false
set_option maxRecDepth 100000
set_option maxHeartbeats 8000000
attribute [local go_sem] st0 AC thenA andC locLoadB KsSW_same KsSW_grow oldLoadB noBlkB KsSL_same KsOS_same KsOS_grow pv ev put upd dstOk cv cvc binI setB Value.oneCell' EndA resA resA1 List.mapM_cons List.mapM_nil Option.pure_def Option.bind_eq_bind noLocV noLoc1 noLoc noLocs plainV cellsA newVarA putCells condA lam0 inBlockA cur lenA rowA writeA dstA appendC appendZ mapPut mapGet avoidsB avoidB clearB Array.toList_append Op.operands Call.operands newSlot Nat.zero_add Nat.add_zero Nat.succ_ne_self Nat.lt_add_one Nat.zero_lt_succ true_and and_true true_or or_true false_or or_false and_self true_implies forall_const Bool.false_eq_true Bool.true_eq_false false_implies implies_true imp_self ne_eq not_false_eq_true not_true_eq_false false_and and_false List.getElem?_toArray List.getElem?_cons_succ List.getElem?_cons_zero Option.bind_some Option.map_some Bool.not_true Bool.not_false List.getD_cons_zero List.getD_cons_succ Option.some.injEq exists_eq_left' AV.bool.injEq List.map_cons List.map_nil List.all_cons List.all_nil Bool.and_self Bool.and_true Bool.true_and List.append_nil List.cons_append List.nil_append List.length_cons List.length_nil List.drop_zero List.take_zero List.drop_succ_cons List.take_succ_cons List.take_nil List.drop_nil List.not_mem_nil List.mem_cons List.contains_nil List.contains_cons Bool.or_self Bool.or_true Bool.true_or Bool.false_or Bool.or_false Bool.and_false Bool.false_and KsS_same KsS_grow skipV KsS_ext KsSW_ext KsOS_ext rep1 rep2 rep3 rep4 rep5 List.flatten_cons List.flatten_nil partsA isPtr fillA List.size_toArray ltT ltF leT leF ltTn ltFn leTn leFn eqTi eqFi wrapId toNat1 intGet boolGet memD app_get app_last app_lst app_set app_setL app_setF set_ne set_eq gt_iff_lt ge_iff_le decide_eq_true_eq len2 len3 get20 get21 drop2 put2 get30 get31 get32 drop3 put3 putI pairEta bneTi bneFi beqTi beqFi bne_eq_false_iff_eq beq_eq_false_iff_ne beq_iff_eq bne_iff_ne Int.toNat_natCast Nat.mul_one List.length_map Bool.not_eq_true Bool.not_eq_false Bool.decide_eq_true decide_true decide_false Bool.not_eq_true' Bool.not_eq_false' decide_eq_false_iff_not eq_self Decidable.not_not
attribute [local go_sem ↓] skipC exitC retC seqC blockC condC regC drawC drawStep AOpC AOpF AOpE AEff contE_at contC_at keepC_at keepW_at keepO_at keepL_at map_parts
attribute [local go_sem] reduceCtorEq Nat.reduceLT Nat.reduceEqDiff Nat.reduceAdd Nat.reduceMul Nat.reduceLeDiff Nat.reduceSub Nat.reduceBEq Nat.reduceBNe Nat.reduceBneDiff Nat.reduceBeqDiff
attribute [local go_sem ↓] reduceIte

namespace Carried
theorem uMono {m ρ : Int} (hm : 0 < m) (h0 : 0 ≤ ρ) (h1 : ρ ≤ m) {x y : Int} (hy : 0 ≤ y) : ρ * x / m ≤ ρ * (x + y) / m ∧ ρ * (x + y) / m ≤ ρ * x / m + y := by
  constructor
  · apply Int.ediv_le_ediv hm
    exact Int.mul_le_mul_of_nonneg_left (by omega) h0
  · have h2 : ρ * (x + y) ≤ ρ * x + m * y := by
      rw [Int.mul_add]
      have := Int.mul_le_mul_of_nonneg_right h1 hy
      omega
    have h3 := Int.ediv_le_ediv hm h2
    rw [Int.add_mul_ediv_left _ _ (by omega)] at h3
    exact h3
theorem split {t m x : Int} (hm : 0 < m) : t * x / m = t / m * x + t % m * x / m := by
  have e : t * x = t % m * x + m * (t / m * x) := by
    conv => lhs; rw [← Int.emod_add_mul_ediv t m]
    rw [Int.add_mul, Int.mul_assoc]
  rw [e, Int.add_mul_ediv_left _ _ (by omega)]
  omega
/-- What leaves on both sides and what stays. -/
theorem carried {t m r l : Int} (hm : 0 < m) (ht : 0 ≤ t) (hr : 0 ≤ r) (hl : 0 ≤ l) (hrl : r + l ≤ m) :
    t * r / m ≥ t / m * r ∧ t * r / m ≤ (t + m - 1) / m * r ∧ t * (r + l) / m - t * r / m ≥ t / m * l ∧ t * (r + l) / m - t * r / m ≤ (t + m - 1) / m * l ∧
    t - t * (r + l) / m ≥ t / m * (m - r - l) ∧ t - t * (r + l) / m ≤ (t + m - 1) / m * (m - r - l) := by
  have e1 := split (t := t) (x := r) hm
  have e2 := split (t := t) (x := r + l) hm
  have hρ0 : 0 ≤ t % m := Int.emod_nonneg _ (by omega)
  have hρ1 : t % m < m := Int.emod_lt_of_pos _ hm
  have hdm := Int.emod_add_mul_ediv t m
  generalize hρ : t % m = ρ at *
  generalize hlow : t / m = low at *
  have a1 := uMono hm hρ0 (Int.le_of_lt hρ1) (x := 0) hr
  have a2 := uMono hm hρ0 (Int.le_of_lt hρ1) (x := r) hl
  have a3 := uMono hm hρ0 (Int.le_of_lt hρ1) (x := r + l) (y := m - r - l) (by omega)
  rw [show r + l + (m - r - l) = m by omega, Int.mul_ediv_cancel _ (by omega)] at a3
  rw [Int.mul_zero, Int.zero_ediv, Int.zero_add] at a1
  have b1 : low * (r + l) = low * r + low * l := Int.mul_add _ _ _
  have b2 : low * (m - r - l) = low * m - low * r - low * l := by rw [Int.mul_sub, Int.mul_sub]
  have b3 : low * m = m * low := Int.mul_comm _ _
  rw [e1, e2, b1, b2, b3]
  by_cases h0 : ρ = 0
  · have hh : (t + m - 1) / m = low := by
      subst h0
      have : t + m - 1 = (m - 1) + m * low := by omega
      rw [this, Int.add_mul_ediv_left _ _ (by omega), Int.ediv_eq_zero_of_lt (by omega) (by omega)]
      omega
    rw [hh, b2, b3]
    subst h0
    simp only [Int.zero_mul, Int.zero_ediv] at *
    omega
  · have hh : (t + m - 1) / m = low + 1 := by
      have : t + m - 1 = (ρ - 1) + m * (low + 1) := by rw [Int.mul_add]; omega
      rw [this, Int.add_mul_ediv_left _ _ (by omega), Int.ediv_eq_zero_of_lt (by omega) (by omega)]
      omega
    have c1 : (low + 1) * r = low * r + r := by rw [Int.add_mul]; omega
    have c2 : (low + 1) * l = low * l + l := by rw [Int.add_mul]; omega
    have c3 : (low + 1) * (m - r - l) = low * (m - r - l) + (m - r - l) := by rw [Int.add_mul]; omega
    rw [hh, c1, c2, c3, b2, b3]
    omega

end Carried
/-- The three parts of a leaf's tracer. -/
theorem piece {t m r l Lo Hi : Int} (hm : 0 ≤ m ∧ m ≤ 10000000) (ht : 0 ≤ t ∧ t ≤ 1000 * m) (hr : 0 ≤ r) (hl : 0 ≤ l) (hrl : r + l ≤ m) (h1 : Lo * m ≤ t) (h2 : t ≤ Hi * m) :
    (Lo * r ≤ leafA t m r l ∧ leafA t m r l ≤ Hi * r) ∧ (Lo * l ≤ leafBq t m r l ∧ leafBq t m r l ≤ Hi * l) ∧ (Lo * (m - r - l) ≤ t - leafA t m r l - leafBq t m r l ∧ t - leafA t m r l - leafBq t m r l ≤ Hi * (m - r - l)) := by
  by_cases h0 : m = 0
  · subst h0
    obtain rfl : r = 0 := by omega
    obtain rfl : l = 0 := by omega
    obtain rfl : t = 0 := by omega
    rw [leaf_0 _ _ _ (by omega), leafB_0]
    simp
  · have i1 : inB m 1 10000000 = true := by simp [inB]; omega
    have i2 : inB t 0 (1000 * m) = true := by simp [inB]; omega
    have i3 : inB r 0 m = true := by simp [inB]; omega
    have i4 : inB l 0 (m - r) = true := by simp [inB]; omega
    have i5 : inB (r + l) 0 m = true := by simp [inB]; omega
    have s1 : shareO t r m = t * r / m := by rw [shareO, if_pos ⟨i1, i3, i2⟩, Int.tdiv_eq_ediv_of_nonneg (Int.mul_nonneg ht.1 hr)]
    have s2 : shareO t (r + l) m = t * (r + l) / m := by rw [shareO, if_pos ⟨i1, i5, i2⟩, Int.tdiv_eq_ediv_of_nonneg (Int.mul_nonneg ht.1 (by omega))]
    have eA : leafA t m r l = t * r / m := by rw [leafA, if_pos ⟨i1, i2, i3, i4⟩, s1]
    have eB : leafBq t m r l = t * (r + l) / m - t * r / m := by rw [leafBq, if_pos ⟨i1, i2, i3, i4⟩, s1, s2]
    rw [eA, eB]
    have car := Carried.carried (t := t) (m := m) (r := r) (l := l) (by omega) ht.1 hr hl hrl
    have c1 : Lo ≤ t / m := (Int.le_ediv_iff_mul_le (by omega)).2 h1
    have c2 : (t + m - 1) / m ≤ Hi := by
      have : (t + m - 1) / m < Hi + 1 := by
        rw [Int.ediv_lt_iff_lt_mul (by omega), Int.add_mul]
        omega
      omega
    have d1 : Lo * r ≤ t / m * r := Int.mul_le_mul_of_nonneg_right c1 hr
    have d2 : Lo * l ≤ t / m * l := Int.mul_le_mul_of_nonneg_right c1 hl
    have d3 : Lo * (m - r - l) ≤ t / m * (m - r - l) := Int.mul_le_mul_of_nonneg_right c1 (by omega)
    have d4 : (t + m - 1) / m * r ≤ Hi * r := Int.mul_le_mul_of_nonneg_right c2 hr
    have d5 : (t + m - 1) / m * l ≤ Hi * l := Int.mul_le_mul_of_nonneg_right c2 hl
    have d6 : (t + m - 1) / m * (m - r - l) ≤ Hi * (m - r - l) := Int.mul_le_mul_of_nonneg_right c2 (by omega)
    generalize t * r / m = a at *
    generalize t * (r + l) / m = b at *
    generalize t / m * r = x1 at *
    generalize t / m * l = x2 at *
    generalize t / m * (m - r - l) = x3 at *
    generalize (t + m - 1) / m * r = x4 at *
    generalize (t + m - 1) / m * l = x5 at *
    generalize (t + m - 1) / m * (m - r - l) = x6 at *
    omega
section
variable {r : Int} {l : List Id3} {ms ts bs : List Int} {A : List Int}
/-- No share leaves the range. -/
theorem step_share (e1 : okB r l ms ts bs = true) (hA : facesB ms.length A) {Lo Hi : Int} (h : ∀ j, j < ms.length → Lo * ms.getD j 0 ≤ ts.getD j 0 ∧ ts.getD j 0 ≤ Hi * ms.getD j 0) {j : Nat} (hj : j < ms.length) :
    Lo * stM l ms bs A j ≤ stT l ms ts bs A j ∧ stT l ms ts bs A j ≤ Hi * stM l ms bs A j := by
  obtain ⟨k1, k2, k3, k4, k5, k6, k7, k8⟩ := okT e1
  have pc : ∀ i, i < ms.length → (Lo * rgt l ms bs A i ≤ outA l ms ts bs A i ∧ outA l ms ts bs A i ≤ Hi * rgt l ms bs A i) ∧ (Lo * lft l ms bs A i ≤ outB l ms ts bs A i ∧ outB l ms ts bs A i ≤ Hi * lft l ms bs A i) ∧
      (Lo * (ms.getD i 0 - rgt l ms bs A i - lft l ms bs A i) ≤ ts.getD i 0 - outA l ms ts bs A i - outB l ms ts bs A i ∧ ts.getD i 0 - outA l ms ts bs A i - outB l ms ts bs A i ≤ Hi * (ms.getD i 0 - rgt l ms bs A i - lft l ms bs A i)) := fun i hi => by
    have c := cells_at k7 hi
    have o := out_bd e1 hA hi
    have hh := h i hi
    exact piece (by omega) (by omega) o.1 o.2.1 o.2.2.1 hh.1 hh.2
  have c0 := pc j hj
  rw [← stM_eq e1 hA hj, ← stT_eq hj]
  unfold dV
  rw [if_pos hj, if_pos hj]
  have c1 : Lo * (if j + 1 < ms.length then lft l ms bs A (j + 1) else 0) ≤ (if j + 1 < ms.length then outB l ms ts bs A (j + 1) else 0) ∧ (if j + 1 < ms.length then outB l ms ts bs A (j + 1) else 0) ≤ Hi * (if j + 1 < ms.length then lft l ms bs A (j + 1) else 0) := by
    split
    · rename_i h1
      exact (pc _ h1).2.1
    · simp
  have c2 : Lo * (if 0 < j ∧ j - 1 < ms.length then rgt l ms bs A (j - 1) else 0) ≤ (if 0 < j ∧ j - 1 < ms.length then outA l ms ts bs A (j - 1) else 0) ∧ (if 0 < j ∧ j - 1 < ms.length then outA l ms ts bs A (j - 1) else 0) ≤ Hi * (if 0 < j ∧ j - 1 < ms.length then rgt l ms bs A (j - 1) else 0) := by
    split
    · rename_i h1
      exact (pc _ h1.2).1
    · simp
  generalize (if j + 1 < ms.length then lft l ms bs A (j + 1) else 0) = p1 at *
  generalize (if j + 1 < ms.length then outB l ms ts bs A (j + 1) else 0) = p2 at *
  generalize (if 0 < j ∧ j - 1 < ms.length then rgt l ms bs A (j - 1) else 0) = p3 at *
  generalize (if 0 < j ∧ j - 1 < ms.length then outA l ms ts bs A (j - 1) else 0) = p4 at *
  generalize rgt l ms bs A j = p5 at *
  generalize lft l ms bs A j = p6 at *
  generalize ms.getD j 0 = p7 at *
  have f1 : Lo * (p7 + (p1 + p3 - (p5 + p6))) = Lo * (p7 - p5 - p6) + Lo * p1 + Lo * p3 := by
    rw [← Int.mul_add, ← Int.mul_add]; congr 1; omega
  have f2 : Hi * (p7 + (p1 + p3 - (p5 + p6))) = Hi * (p7 - p5 - p6) + Hi * p1 + Hi * p3 := by
    rw [← Int.mul_add, ← Int.mul_add]; congr 1; omega
  rw [f1, f2]
  omega
theorem sumN_tele (f g : Nat → Int) : ∀ n : Nat, sumN (fun j => f j - g j + (if 0 < j then g (j - 1) else 0)) (n + 1) = sumN f (n + 1) - g n
  | 0 => by simp [sumN]
  | n + 1 => by
    rw [sumN, sumN_tele f g n]
    conv => rhs; rw [sumN]
    simp only [Nat.zero_lt_succ, if_true, Nat.add_sub_cancel]
    omega
theorem sumN_left (g : Nat → Int) (n : Nat) : ∀ k : Nat, k ≤ n → sumN (fun j => if 0 < j ∧ j - 1 < n then g (j - 1) else 0) k = sumN g k - (if 0 < k then g (k - 1) else 0)
  | 0, _ => rfl
  | k + 1, hk => by
    rw [sumN, sumN_left g n k (by omega), sumN]
    simp only [Nat.zero_lt_succ, if_true, Nat.add_sub_cancel]
    by_cases h : 0 < k
    · rw [if_pos h, if_pos ⟨h, by omega⟩]; omega
    · rw [if_neg h, if_neg (fun e => h e.1)]; omega
theorem sumN_right (g : Nat → Int) : ∀ n k : Nat, k ≤ n → sumN (fun j => if j + 1 < n then g (j + 1) else 0) k = (if k < n then sumN g (k + 1) else sumN g k) - (if 0 < k ∨ k < n then g 0 else 0)
  | n, 0, _ => by
    by_cases h : 0 < n
    · rw [if_pos h, if_pos (.inr h)]; simp [sumN]
    · rw [if_neg h, if_neg (by omega)]; simp [sumN]
  | n, k + 1, hk => by
    rw [sumN, sumN_right g n k (by omega)]
    have c : (0 < k ∨ k < n) := .inr (by omega)
    have c2 : (0 < k + 1 ∨ k + 1 < n) := .inl (by omega)
    rw [if_pos (show k < n by omega), if_pos c, if_pos c2]
    by_cases h : k + 1 < n
    · rw [if_pos h, if_pos h]
      conv => rhs; rw [sumN]
      omega
    · rw [if_neg h, if_neg h]; omega
/-- A step moves mass and tracer, and neither creates nor loses any. -/
theorem step_sum (e1 : okB r l ms ts bs = true) (hA : facesB ms.length A) : (nM l ms bs A).sum = ms.sum ∧ (nT l ms ts bs A).sum = ts.sum := by
  obtain ⟨k1, k2, k3, k4, k5, k6, k7, k8⟩ := okT e1
  have hne := mesh_ne k1
  obtain ⟨n, hn⟩ : ∃ n, ms.length = n + 1 := ⟨ms.length - 1, by omega⟩
  have hl : ts.length = ms.length := by omega
  constructor
  · unfold nM
    rw [sum_range, sum_getD ms, hn]
    have := sumN_tele (fun j => ms.getD j 0) (phi l ms bs A) n
    have h0 := (phi_bd e1 hA (i := n) (by omega)).2.2 (by omega)
    rw [h0] at this
    rw [Int.sub_zero] at this
    exact this
  · unfold nT
    rw [sum_range, sum_getD ts, hl, sumN_congr (f := stT l ms ts bs A) (g := fun j => (ts.getD j 0 + ((fun j => if j + 1 < ms.length then outB l ms ts bs A (j + 1) else 0) j + (fun j => if 0 < j ∧ j - 1 < ms.length then outA l ms ts bs A (j - 1) else 0) j)) - (outA l ms ts bs A j + outB l ms ts bs A j)) (fun j hj => by
      rw [← stT_eq hj, dV, if_pos hj]; simp only; omega)]
    rw [sumN_sub (fun j => (ts.getD j 0 + ((fun j => if j + 1 < ms.length then outB l ms ts bs A (j + 1) else 0) j + (fun j => if 0 < j ∧ j - 1 < ms.length then outA l ms ts bs A (j - 1) else 0) j))), sumN_add (fun j => ts.getD j 0), sumN_add, sumN_add, sumN_right _ _ _ (Nat.le_refl _), sumN_left _ _ _ (Nat.le_refl _)]
    have a0 : outA l ms ts bs A (ms.length - 1) = 0 := by
      have o := out_bd e1 hA (i := ms.length - 1) (by omega)
      have c := cells_at k7 (i := ms.length - 1) (by omega)
      unfold outA
      rw [o.2.2.2.1 (by omega), leaf_0 _ _ _ (by omega)]
    have b0 : outB l ms ts bs A 0 = 0 := by
      unfold outB
      rw [show lft l ms bs A 0 = 0 by simp [lft], leafB_0]
    rw [if_neg (Nat.lt_irrefl _), if_pos (show 0 < ms.length ∨ ms.length < ms.length by omega), if_pos (show 0 < ms.length by omega), a0, b0]
    omega
theorem step_ok (e1 : okB r l ms ts bs = true) (hA : facesB ms.length A) : okB r l (nM l ms bs A) (nT l ms ts bs A) bs = true := by
  obtain ⟨k1, k2, k3, k4, k5, k6, k7, k8⟩ := okT e1
  refine okB_new e1 (mapLn _ _) (by rw [nT, mapLn]; omega) (fun j hj => ?_) (by rw [(step_sum e1 hA).1]; exact k8)
  rw [nM, nT, mapAt _ hj, mapAt _ hj]
  have h1 := step_share e1 hA (Lo := 0) (Hi := 1000) (fun j hj => by have := cells_at k7 hj; omega) hj
  have m0 : 0 ≤ stM l ms bs A j := by
    rw [← stM_eq e1 hA hj]
    have o := out_bd e1 hA hj
    unfold dV
    rw [if_pos hj]
    have c1 : 0 ≤ (if j + 1 < ms.length then lft l ms bs A (j + 1) else 0) := by
      split
      · rename_i h; exact (out_bd e1 hA h).2.1
      · omega
    have c2 : 0 ≤ (if 0 < j ∧ j - 1 < ms.length then rgt l ms bs A (j - 1) else 0) := by
      split
      · rename_i h; exact (out_bd e1 hA h.2).1
      · omega
    omega
  omega
end
/-- Masses and tracers after the ticks before k of a macro step. -/
def mac (l : List Id3) (ms ts bs : List Int) : Nat → List Int × List Int
  | 0 => (ms, ts)
  | k + 1 => (nM l (mac l ms ts bs k).1 bs (actL l (k : Int)), nT l (mac l ms ts bs k).1 (mac l ms ts bs k).2 bs (actL l (k : Int)))
theorem mac_ok {r : Int} {l : List Id3} {ms ts bs : List Int} (e1 : okB r l ms ts bs = true) : ∀ k, okB r l (mac l ms ts bs k).1 (mac l ms ts bs k).2 bs = true
  | 0 => e1
  | k + 1 => step_ok (mac_ok e1 k) (act_faces (okT (mac_ok e1 k)).2.2.1)
end Go.Proofs.YtaalpmbopkbdiaaGreat
