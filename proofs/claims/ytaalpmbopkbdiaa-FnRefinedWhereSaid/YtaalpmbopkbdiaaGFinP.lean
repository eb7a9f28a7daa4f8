/- What functions of the program compute, said in the abstract logic; no conditions. -/
import Derived.Test.YtaalpmbopkbdiaaGAdP
import Derived.Test.YtaalpmbopkbdiaaGFiner

namespace Go.Proofs.Ytaalpmbopkbdiaa
open Go
set_option linter.unusedSimpArgs false
set_option linter.unusedVariables false
set_option maxRecDepth 100000
set_option maxHeartbeats 8000000
attribute [local go_sem] st0 AC thenA andC locLoadB KsSW_same KsSW_grow oldLoadB noBlkB KsSL_same KsOS_same KsOS_grow pv ev put upd dstOk cv cvc binI setB Value.oneCell' EndA resA resA1 List.mapM_cons List.mapM_nil Option.pure_def Option.bind_eq_bind noLocV noLoc1 noLoc noLocs plainV cellsA newVarA putCells condA lam0 inBlockA cur lenA rowA writeA dstA appendC appendZ mapPut mapGet avoidsB avoidB clearB Array.toList_append Op.operands Call.operands newSlot Nat.zero_add Nat.add_zero Nat.succ_ne_self Nat.lt_add_one Nat.zero_lt_succ true_and and_true true_or or_true false_or or_false and_self true_implies forall_const Bool.false_eq_true Bool.true_eq_false false_implies implies_true imp_self ne_eq not_false_eq_true not_true_eq_false false_and and_false List.getElem?_toArray List.getElem?_cons_succ List.getElem?_cons_zero Option.bind_some Option.map_some Bool.not_true Bool.not_false List.getD_cons_zero List.getD_cons_succ Option.some.injEq exists_eq_left' AV.bool.injEq List.map_cons List.map_nil List.all_cons List.all_nil Bool.and_self Bool.and_true Bool.true_and List.append_nil List.cons_append List.nil_append List.length_cons List.length_nil List.drop_zero List.take_zero List.drop_succ_cons List.take_succ_cons List.take_nil List.drop_nil List.not_mem_nil List.mem_cons List.contains_nil List.contains_cons Bool.or_self Bool.or_true Bool.true_or Bool.false_or Bool.or_false Bool.and_false Bool.false_and KsS_same KsS_grow skipV KsS_ext KsSW_ext KsOS_ext rep1 rep2 rep3 rep4 rep5 List.flatten_cons List.flatten_nil partsA isPtr fillA List.size_toArray ltT ltF leT leF ltTn ltFn leTn leFn eqTi eqFi wrapId toNat1 intGet boolGet memD app_get app_last app_lst app_set app_setL app_setF set_ne set_eq gt_iff_lt ge_iff_le decide_eq_true_eq len2 len3 get20 get21 drop2 put2 get30 get31 get32 drop3 put3 putI pairEta bneTi bneFi beqTi beqFi bne_eq_false_iff_eq beq_eq_false_iff_ne beq_iff_eq bne_iff_ne Int.toNat_natCast Nat.mul_one List.length_map Bool.not_eq_true Bool.not_eq_false Bool.decide_eq_true decide_true decide_false Bool.not_eq_true' Bool.not_eq_false' decide_eq_false_iff_not eq_self Decidable.not_not
attribute [local go_sem ↓] skipC exitC retC seqC blockC condC regC drawC drawStep AOpC AOpF AOpE AEff contE_at contC_at keepC_at keepW_at keepO_at keepL_at map_parts
attribute [local go_sem] reduceCtorEq Nat.reduceLT Nat.reduceEqDiff Nat.reduceAdd Nat.reduceMul Nat.reduceLeDiff Nat.reduceSub Nat.reduceBEq Nat.reduceBNe Nat.reduceBneDiff Nat.reduceBeqDiff
attribute [local go_sem ↓] reduceIte
theorem jN_nn (f : Int → Int) (L : List Int) : ∀ k, 0 ≤ jN f L k
  | 0 => by simp [jN]
  | k + 1 => by
    have := jN_nn f L k
    rw [jN]
    split <;> omega
theorem contT {a b : Id3} (h : contB a b = true) : idB a.1 a.2.1 a.2.2 = true ∧ idB b.1 b.2.1 b.2.2 = true ∧ a.1 = b.1 ∧ a.2.1 ≤ b.2.1 ∧ b.2.2.fdiv (2 ^ (b.2.1 - a.2.1).toNat) = a.2.2 := by
  simpa only [contB, idT, Bool.and_eq_true, decide_eq_true_eq] using h
theorem contB_trans {a b c : Id3} (h1 : contB a b = true) (h2 : contB b c = true) : contB a c = true := by
  obtain ⟨a1, a2, a3, a4, a5⟩ := contT h1
  obtain ⟨b1, b2, b3, b4, b5⟩ := contT h2
  have c1 := id_bd a1
  have c2 := id_bd b1
  have c3 := id_bd b2
  simp only [contB, idT, Bool.and_eq_true, decide_eq_true_eq]
  refine ⟨a1, b2, a3.trans b3, by omega, ?_⟩
  have p1 : (0 : Int) ≤ 2 ^ (b.2.1 - a.2.1).toNat := Int.le_of_lt (Int.pow_pos (by omega))
  have p2 : (0 : Int) ≤ 2 ^ (c.2.1 - b.2.1).toNat := Int.le_of_lt (Int.pow_pos (by omega))
  have p3 : (0 : Int) ≤ 2 ^ (c.2.1 - a.2.1).toNat := Int.le_of_lt (Int.pow_pos (by omega))
  rw [Int.fdiv_eq_ediv_of_nonneg _ p1] at a5
  rw [Int.fdiv_eq_ediv_of_nonneg _ p2] at b5
  rw [Int.fdiv_eq_ediv_of_nonneg _ p3, ← a5, ← b5, Int.ediv_ediv_of_nonneg p2, ← Int.pow_add]
  congr 2
  omega
theorem cont_child {x : Id3} (h : idT x = true) (h4 : x.2.1 ≠ 4) {k : Int} (hk : k = 0 ∨ k = 1) : contB x (x.1, x.2.1 + 1, 2 * x.2.2 + k) = true := by
  obtain ⟨c1, c2, _⟩ := child_geo (r := x.1) (lv := x.2.1) (ix := x.2.2) h h4
  have hi : idT (x.1, x.2.1 + 1, 2 * x.2.2 + k) = true := by
    rcases hk with rfl | rfl
    · exact c1
    · exact c2
  simp only [contB, h, hi, Bool.true_and, Bool.and_eq_true, decide_eq_true_eq, true_and]
  refine ⟨by omega, ?_⟩
  have hb := id_bd (r := x.1) (lv := x.2.1) (ix := x.2.2) h
  rw [show (x.2.1 + 1 - x.2.1).toNat = 1 by omega, Int.fdiv_eq_ediv_of_nonneg _ (by decide)]
  rcases hk with rfl | rfl <;> omega
/-- Every leaf of the finer mesh lies in a leaf. -/
def FinC (l m : List Id3) : Prop := ∀ y ∈ m, ∃ x ∈ l, contB x y = true
/-- Every place where a leaf starts stays one. -/
def StC (l m : List Id3) : Prop := ∀ x ∈ l, ∃ y ∈ m, stI y.1 y.2.1 y.2.2 = stI x.1 x.2.1 x.2.2
/-- A leaf starts within a cell. -/
def Cut (l : List Id3) (x : Id3) : Prop := ∃ y ∈ l, stI x.1 x.2.1 x.2.2 < stI y.1 y.2.1 y.2.2 ∧ stI y.1 y.2.1 y.2.2 < enI x.1 x.2.1 x.2.2
theorem FinC.trans {l m k : List Id3} (h1 : FinC l m) (h2 : FinC m k) : FinC l k := fun z hz => by
  obtain ⟨y, hy, c1⟩ := h2 z hz
  obtain ⟨x, hx, c2⟩ := h1 y hy
  exact ⟨x, hx, contB_trans c2 c1⟩
theorem StC.trans {l m k : List Id3} (h1 : StC l m) (h2 : StC m k) : StC l k := fun x hx => by
  obtain ⟨y, hy, c1⟩ := h1 x hx
  obtain ⟨z, hz, c2⟩ := h2 y hy
  exact ⟨z, hz, c2.trans c1⟩
theorem FinC.refl {r : Int} {l : List Id3} (h : meshB r l = true) : FinC l l := fun x hx => ⟨x, hx, cont_self (mesh_ids h x hx)⟩
theorem StC.refl (l : List Id3) : StC l l := fun x hx => ⟨x, hx, rfl⟩
theorem Cut.mono {l m : List Id3} {x : Id3} (h : Cut l x) (s : StC l m) : Cut m x := by
  obtain ⟨y, hy, h1, h2⟩ := h
  obtain ⟨z, hz, h3⟩ := s y hy
  exact ⟨z, hz, by rw [h3]; exact h1, by rw [h3]; exact h2⟩
theorem Cut.not {r : Int} {l : List Id3} {x : Id3} (hM : meshB r l = true) (h : Cut l x) : x ∉ l := by
  intro hx
  obtain ⟨y, hy, h1, h2⟩ := h
  obtain ⟨P, _, _, p2⟩ := mesh_pos hM
  obtain ⟨i, hi, ei⟩ := List.getElem_of_mem hx
  obtain ⟨j, hj, ej⟩ := List.getElem_of_mem hy
  have gi : l.getD i z3 = x := by rw [List.getD_eq_getElem?_getD, List.getElem?_eq_getElem hi, Option.getD_some, ei]
  have gj : l.getD j z3 = y := by rw [List.getD_eq_getElem?_getD, List.getElem?_eq_getElem hj, Option.getD_some, ej]
  have a := p2 i hi
  have b := p2 j hj
  rw [gi] at a
  rw [gj] at b
  rw [a.1, b.1] at h1
  rw [a.2.1, b.1] at h2
  have hs : ∀ k, k < l.length → P k < P (k + 1) := fun k hk => (p2 k hk).2.2
  by_cases c1 : j < i
  · have := pos_lt hs i j (by omega) c1; omega
  · by_cases c2 : j = i
    · subst c2; omega
    · by_cases c3 : i + 1 = j
      · subst c3; omega
      · have := pos_lt hs j (i + 1) (by omega) (by omega); omega
theorem split_at {l : List Id3} {i : Nat} (hi : i < l.length) : l = l.take i ++ (l.getD i z3 :: l.drop (i + 1)) := by
  rw [List.getD_eq_getElem?_getD, List.getElem?_eq_getElem hi, Option.getD_some, List.getElem_cons_drop, List.take_append_drop]
theorem split_fin {r : Int} {l : List Id3} {i : Nat} (hM : meshB r l = true) (hi : i < l.length) (h4 : (l.getD i z3).2.1 ≠ 4) : FinC l (splitL l i) ∧ StC l (splitL l i) ∧ Cut (splitL l i) (l.getD i z3) := by
  have hx : idT (l.getD i z3) = true := mesh_ids hM _ (getD_mem hi)
  obtain ⟨c1, c2, c3, c4, c5⟩ := child_geo (r := (l.getD i z3).1) (lv := (l.getD i z3).2.1) (ix := (l.getD i z3).2.2) hx h4
  refine ⟨fun y hy => ?_, fun x hxm => ?_, ?_⟩
  · simp only [splitL, List.mem_append, List.mem_cons, List.not_mem_nil, or_false] at hy
    rcases hy with (hy | rfl | rfl) | hy
    · have := List.mem_of_mem_take hy
      exact ⟨y, this, cont_self (mesh_ids hM y this)⟩
    · exact ⟨_, getD_mem hi, cont_child hx h4 (.inl rfl)⟩
    · exact ⟨_, getD_mem hi, cont_child hx h4 (.inr rfl)⟩
    · have := List.mem_of_mem_drop hy
      exact ⟨y, this, cont_self (mesh_ids hM y this)⟩
  · rw [split_at hi, List.mem_append, List.mem_cons] at hxm
    rcases hxm with h | rfl | h
    · exact ⟨x, by simp [splitL, h], rfl⟩
    · exact ⟨_, by simp only [splitL, List.mem_append, List.mem_cons]; exact .inl (.inr (.inl rfl)), c3⟩
    · exact ⟨x, by simp [splitL, h], rfl⟩
  · have b1 := id_bd c1
    have b2 := id_bd c2
    refine ⟨((l.getD i z3).1, (l.getD i z3).2.1 + 1, 2 * (l.getD i z3).2.2 + 1), by simp [splitL], ?_, ?_⟩
    · try dsimp only
      rw [← c4, enI, c3]; omega
    · try dsimp only
      rw [← c5, enI]; omega
theorem lvlR_fin {r : Int} {bs : List Int} : ∀ (n : Nat) {l : List Id3} {ms ts : List Int}, 129 - l.length = n → meshB r l = true → celB r l ms ts bs = true → FinC l (lvlR l ms ts).1 ∧ StC l (lvlR l ms ts).1
  | 0, l, ms, ts, hn, hM, hC => by have := mesh_len hM; omega
  | n + 1, l, ms, ts, hn, hM, hC => by
    by_cases hu : unbI l < 0
    · rw [lvlR_0 hu]
      exact ⟨FinC.refl hM, StC.refl l⟩
    · obtain ⟨i, u1, q1, q2, q3, q4, q5⟩ := lvl_step hM hC (by omega)
      have hl := split_len q1
      obtain ⟨f1, f2, _⟩ := split_fin hM q1 q2
      obtain ⟨g1, g2⟩ := lvlR_fin n (l := splitL l (coarI l i)) (by omega) q3 q4
      rw [q5]
      exact ⟨f1.trans g1, f2.trans g2⟩
theorem rfF_fin {r : Int} {ws : List Int} {l : List Id3} {ms ts bs : List Int} (hM : meshB r l = true) (hC : celB r l ms ts bs = true) (hw : ∀ j, j < l.length → ws.getD j 0 = 1 → (l.getD j z3).2.1 ≠ 4) : ∀ k, k ≤ l.length →
    FinC l (rfF ws l ms ts k).1 ∧ StC l (rfF ws l ms ts k).1 ∧ ∀ j, j < l.length → l.length - k ≤ j → ws.getD j 0 = 1 → Cut (rfF ws l ms ts k).1 (l.getD j z3)
  | 0, _ => ⟨FinC.refl hM, StC.refl l, fun j h1 h2 => by omega⟩
  | k + 1, hk => by
    obtain ⟨f1, f2, f3⟩ := rfF_fin hM hC hw k (by omega)
    obtain ⟨a, b, c, d⟩ := rfF_ok hM hC hw k (by omega)
    have h4 := rfF_4 hM hC hw (show k < l.length by omega)
    rw [rfF]
    by_cases h : ws.getD (l.length - 1 - k) 0 = 1
    · rw [if_pos h]
      obtain ⟨g1, g2, g3⟩ := split_fin a (show l.length - 1 - k < _ by omega) (by rw [h4]; exact hw _ (by omega) h)
      rw [h4] at g3
      refine ⟨f1.trans g1, f2.trans g2, fun j h1 h2 h3 => ?_⟩
      by_cases e : j = l.length - 1 - k
      · subst e; exact g3
      · exact (f3 j h1 (by omega) h3).mono g2
    · rw [if_neg h]
      refine ⟨f1, f2, fun j h1 h2 h3 => ?_⟩
      by_cases e : j = l.length - 1 - k
      · subst e; exact absurd h3 h
      · exact f3 j h1 (by omega) h3
theorem adB_fin {r : Int} {l : List Id3} {ms ts bs : List Int} {hi lo : Int} (h : okB r l ms ts bs = true) : FinC l (adB l ms ts bs hi lo).1 ∧ ∀ j, j < l.length → wshI l ms bs hi lo j = 1 → l.getD j z3 ∉ (adB l ms ts bs hi lo).1 := by
  have h' := h
  simp only [okB, balB, Bool.and_eq_true] at h'
  have hw : ∀ j, j < l.length → (adW l ms bs hi lo).getD j 0 = 1 → (l.getD j z3).2.1 ≠ 4 := fun j hj h1 => adW_4 hj h1
  obtain ⟨a, b, _, _⟩ := rfF_ok (ws := adW l ms bs hi lo) h'.1.1 h'.2 hw l.length (Nat.le_refl _)
  obtain ⟨f1, f2, f3⟩ := rfF_fin (ws := adW l ms bs hi lo) h'.1.1 h'.2 hw l.length (Nat.le_refl _)
  obtain ⟨g1, g2⟩ := lvlR_fin _ rfl a b
  have hk := adB_ok (hi := hi) (lo := lo) h
  refine ⟨f1.trans g1, fun j hj h1 => Cut.not (okT hk).1 ((f3 j hj (by omega) (by rw [adW_at hj]; exact h1)).mono g2)⟩
theorem mgA_nil : ∀ (f i : Nat) (l : List Id3) (ms ts : List Int), mgA [] f i l ms ts = (l, ms, ts)
  | 0, _, _, _, _ => rfl
  | f + 1, i, l, ms, ts => by
    rw [mgA]
    split
    · rw [if_neg (by simp [cdA])]
      exact mgA_nil f (i + 1) l ms ts
    · rfl
theorem adR_zero {l : List Id3} {ms ts bs : List Int} {hi : Int} : adR l ms ts bs hi 0 = adB l ms ts bs hi 0 := by
  have hc : coA (adW l ms bs hi 0) l = [] := by
    rw [List.eq_nil_iff_forall_not_mem]
    intro x hx
    obtain ⟨j, h1, h2, _⟩ := coF_mem.1 hx
    rw [adW_at h1, wshI] at h2
    have := jN_nn (jF l ms bs j) (nbI l.length j) (nbI l.length j).length
    rw [show jN (jF l ms bs j) (nbI l.length j) (nbI l.length j).length = jumpI l ms bs j from rfl] at this
    split at h2
    · cases h2
    · rw [if_neg (by omega)] at h2
      cases h2
  rw [adR, mgR, hc, mgA_nil]

end Go.Proofs.Ytaalpmbopkbdiaa
