/- What functions of the program compute, said in the abstract logic; no conditions. -/
import Derived.Test.YtffefndnnbcplaaGLake
import Derived.Test.YtffefndnnbcplaaGStepOk

namespace Go.Proofs.Ytffefndnnbcplaa
open Go
set_option linter.unusedSimpArgs false
set_option linter.unusedVariables false
set_option maxRecDepth 100000
set_option maxHeartbeats 8000000
attribute [local go_sem] st0 AC thenA andC locLoadB KsSW_same KsSW_grow oldLoadB KsOS_same KsOS_grow pv ev put upd dstOk cv cvc binI setB Value.oneCell' EndA resA resA1 List.mapM_cons List.mapM_nil Option.pure_def Option.bind_eq_bind noLocV noLoc1 noLoc noLocs plainV cellsA newVarA putCells condA lam0 inBlockA cur lenA rowA avoidsB avoidB clearB Array.toList_append Op.operands Call.operands newSlot Nat.zero_add Nat.add_zero Nat.succ_ne_self Nat.lt_add_one Nat.zero_lt_succ true_and and_true true_or or_true false_or or_false and_self true_implies forall_const Bool.false_eq_true Bool.true_eq_false false_implies implies_true imp_self ne_eq not_false_eq_true not_true_eq_false false_and and_false List.getElem?_toArray List.getElem?_cons_succ List.getElem?_cons_zero Option.bind_some Option.map_some Bool.not_true Bool.not_false List.getD_cons_zero List.getD_cons_succ Option.some.injEq exists_eq_left' AV.bool.injEq List.map_cons List.map_nil List.all_cons List.all_nil Bool.and_self Bool.and_true Bool.true_and List.append_nil List.cons_append List.nil_append List.length_cons List.length_nil List.drop_zero List.take_zero List.drop_succ_cons List.take_succ_cons List.take_nil List.drop_nil List.not_mem_nil List.mem_cons List.contains_nil List.contains_cons Bool.or_self Bool.or_true Bool.true_or Bool.false_or Bool.or_false Bool.and_false Bool.false_and KsS_same KsS_grow skipV KsS_ext KsSW_ext KsOS_ext rep1 rep2 rep3 rep4 rep5 List.flatten_cons List.flatten_nil partsA isPtr fillA List.size_toArray ltT ltF leT leF ltTn ltFn leTn leFn eqTi eqFi wrapId toNat1 intGet boolGet memD app_get app_last app_lst app_set app_setL app_setF set_ne set_eq gt_iff_lt ge_iff_le decide_eq_true_eq len2 len3 get20 get21 drop2 put2 get30 get31 get32 drop3 put3 putI pairEta bneTi bneFi beqTi beqFi bne_eq_false_iff_eq beq_eq_false_iff_ne beq_iff_eq bne_iff_ne Int.toNat_natCast Nat.mul_one List.length_map Bool.not_eq_true Bool.not_eq_false Bool.decide_eq_true decide_true decide_false Bool.not_eq_true' Bool.not_eq_false' decide_eq_false_iff_not eq_self Decidable.not_not
section
variable {r : Int} {l : List Id3} {ms ts bs : List Int} {A : List Int}
/-- A state at rest is not changed by a step. -/
theorem rest_step (e1 : okB r l ms ts bs = true) (h : ∀ i, i + 1 < l.length → fluxI l ms bs i = 0) (hA : facesB ms.length A) : nM l ms bs A = ms ∧ nT l ms ts bs A = ts := by
  obtain ⟨k1, k2, k3, k4, k5, k6, k7, k8⟩ := okT e1
  have hp : ∀ i, phi l ms bs A i = 0 := fun i => by
    unfold phi
    split
    · rename_i hm
      have := hA _ hm
      exact h i (by omega)
    · rfl
  have hr : ∀ i, rgt l ms bs A i = 0 := fun i => by simp [rgt, hp, posP]
  have hl : ∀ i, lft l ms bs A i = 0 := fun i => by
    unfold lft
    split
    · simp [hp, posP]
    · rfl
  have ha : ∀ i, i < ms.length → outA l ms ts bs A i = 0 := fun i hi => by
    have := cells_at k7 hi
    unfold outA; rw [hr, leaf_0 _ _ _ (by omega)]
  have hb : ∀ i, outB l ms ts bs A i = 0 := fun i => by unfold outB; rw [hl, leafB_0]
  constructor
  · unfold nM
    rw [mapEq (g := fun i => ms.getD i 0) (fun j _ => by
      unfold stM
      rw [hp]
      split
      · rw [hp]; omega
      · omega)]
    exact range_getD' ms
  · unfold nT
    rw [mapEq (g := fun i => ts.getD i 0) (fun j hj => by
      unfold stT
      rw [ha j hj, hb, hb]
      split
      · rw [ha _ (by omega)]; split <;> omega
      · split <;> omega), show ms.length = ts.length by omega]
    exact range_getD' ts
theorem rest_mac (e1 : okB r l ms ts bs = true) (h : ∀ i, i + 1 < l.length → fluxI l ms bs i = 0) : ∀ k, mac l ms ts bs k = (ms, ts)
  | 0 => rfl
  | k + 1 => by
    have ih := rest_mac e1 h k
    have st := rest_step e1 h (act_faces (l := l) (t := (k : Int)) (okT e1).2.2.1)
    rw [mac, ih, st.1, st.2]
theorem clampI_0 {n lo hi : Int} (h1 : lo ≤ 0) (h2 : 0 ≤ hi) (h : n = 0 ∨ (0 ≤ n ∧ hi = 0) ∨ (n ≤ 0 ∧ lo = 0)) : clampI n lo hi = 0 := by
  unfold clampI
  repeat' split
  all_goals omega
theorem wd5 {lv : Int} (h : 0 ≤ lv ∧ lv ≤ 4) : 1 ≤ wdI lv ∧ wdI lv ≤ 16 := by
  rcases lv5 h with rfl | rfl | rfl | rfl | rfl <;> decide
theorem divT_sg {a b : Int} (hb : 0 < b) : (0 ≤ a → 0 ≤ divT a b) ∧ (a ≤ 0 → divT a b ≤ 0) ∧ (-b < a → a < b → divT a b = 0) := by
  unfold divT
  rw [if_neg (by omega)]
  refine ⟨fun h => Int.tdiv_nonneg h (by omega), fun h => ?_, fun h1 h2 => ?_⟩
  · have := Int.tdiv_nonneg (a := -a) (b := b) (by omega) (by omega)
    rw [Int.neg_tdiv] at this
    omega
  · by_cases h0 : 0 ≤ a
    · exact Int.tdiv_eq_zero_of_lt h0 h2
    · have := Int.tdiv_eq_zero_of_lt (a := -a) (b := b) (by omega) (by omega)
      rw [Int.neg_tdiv] at this
      omega
end
section
variable {r : Int} {l : List Id3} {bs : List Int} {h : Int}
theorem lk_at {i : Nat} (hi : i < l.length) : (lkN l bs h l.length).getD i 0 = lkM l bs h i := by simp [lkN, List.getD_eq_getElem?_getD, List.getElem?_map, List.getElem?_range hi]
/-- Where the surface lies. -/
theorem lk_surf (hm : meshB r l = true) (hb : (bs.length : Int) = r) (hbd : ∀ x ∈ bs, 0 ≤ x ∧ x ≤ 9000) (hh : 0 ≤ h ∧ h ≤ 12000) {i : Nat} (hi : i < l.length) :
    0 ≤ (lkN l bs h l.length).getD i 0 ∧ (((lkN l bs h l.length).getD i 0 = 0 ∧ h ≤ surfI l (lkN l bs h l.length) bs i) ∨ (h - 15 ≤ surfI l (lkN l bs h l.length) bs i ∧ surfI l (lkN l bs h l.length) bs i ≤ h)) := by
  have hro := mesh_root hm hi
  have hlb := levs_at (mesh_levs hm) hi
  have b := hbd _ (getD_mem (d := 0) (show (l.getD i (0, 0, 0)).1.toNat < bs.length by omega))
  unfold surfI
  rw [lk_at hi]
  unfold lkM
  generalize bs.getD (l.getD i (0, 0, 0)).1.toNat 0 = X at *
  generalize (l.getD i (0, 0, 0)).2.1 = L at *
  by_cases c : X < h
  · rw [if_pos c]
    rcases lv5 hlb with rfl | rfl | rfl | rfl | rfl <;> simp <;> omega
  · rw [if_neg c]
    simp
    omega
theorem lk_flux (hm : meshB r l = true) (hb : (bs.length : Int) = r) (hbd : ∀ x ∈ bs, 0 ≤ x ∧ x ≤ 9000) (hh : 0 ≤ h ∧ h ≤ 12000) {i : Nat} (hi : i + 1 < l.length) : fluxI l (lkN l bs h l.length) bs i = 0 := by
  have s1 := lk_surf hm hb hbd hh (i := i) (by omega)
  have s2 := lk_surf hm hb hbd hh (i := i + 1) hi
  have l1 := levs_at (mesh_levs hm) (i := i) (by omega)
  have l2 := levs_at (mesh_levs hm) (i := i + 1) hi
  have w1 := wd5 l1
  have w2 := wd5 l2
  unfold fluxI fluxP
  generalize (lkN l bs h l.length).getD i 0 = mA at *
  generalize (lkN l bs h l.length).getD (i + 1) 0 = mB at *
  generalize surfI l (lkN l bs h l.length) bs i = sA at *
  generalize surfI l (lkN l bs h l.length) bs (i + 1) = sB at *
  generalize (l.getD i (0, 0, 0)).2.1 = LA at *
  generalize (l.getD (i + 1) (0, 0, 0)).2.1 = LB at *
  have wm : 1 ≤ wdI (maxI LA LB) ∧ wdI (maxI LA LB) ≤ 16 := by
    unfold maxI
    split <;> omega
  have wsum : wdI (maxI LA LB) ≤ wdI LA + wdI LB := by
    unfold maxI
    split <;> omega
  have q1 : 0 ≤ mA.tdiv 4 := Int.tdiv_nonneg s1.1 (by omega)
  have q2 : 0 ≤ mB.tdiv 4 := Int.tdiv_nonneg s2.1 (by omega)
  have z1 : mA = 0 → mA.tdiv 4 = 0 := fun e => by rw [e]; rfl
  have z2 : mB = 0 → mB.tdiv 4 = 0 := fun e => by rw [e]; rfl
  generalize wdI (maxI LA LB) = w at *
  generalize wdI LA = wa at *
  generalize wdI LB = wb at *
  obtain ⟨d1, d2, d3⟩ := divT_sg (a := (sA - sB) * w) (b := 32 * (wa + wb)) (by omega)
  have p1 : sB ≤ sA → 0 ≤ (sA - sB) * w := fun e => Int.mul_nonneg (by omega) (by omega)
  have p2 : sA ≤ sB → (sA - sB) * w ≤ 0 := fun e => Int.mul_nonpos_of_nonpos_of_nonneg (by omega) (by omega)
  refine clampI_0 (by omega) q1 ?_
  rcases s1.2 with ⟨a1, a2⟩ | ⟨a1, a2⟩
  · rcases s2.2 with ⟨b1, b2⟩ | ⟨b1, b2⟩
    · have := z1 a1
      have := z2 b1
      by_cases c : sB ≤ sA
      · exact .inr (.inl ⟨d1 (p1 c), by omega⟩)
      · exact .inr (.inr ⟨d2 (p2 (by omega)), by omega⟩)
    · exact .inr (.inl ⟨d1 (p1 (by omega)), z1 a1⟩)
  · rcases s2.2 with ⟨b1, b2⟩ | ⟨b1, b2⟩
    · exact .inr (.inr ⟨d2 (p2 (by omega)), by have := z2 b1; omega⟩)
    · refine .inl (d3 ?_ ?_)
      · have : -15 * w ≤ (sA - sB) * w := Int.mul_le_mul_of_nonneg_right (by omega) (by omega)
        omega
      · have : (sA - sB) * w ≤ 15 * w := Int.mul_le_mul_of_nonneg_right (by omega) (by omega)
        omega
end

end Go.Proofs.Ytffefndnnbcplaa
