/- What functions of the program compute, said in the abstract logic; no conditions. -/
import Derived.Test.YtaalpmbopkbdiaaGreatGAdP

namespace Go.Proofs.YtaalpmbopkbdiaaGreat
open Go
set_option linter.unusedSimpArgs false
set_option linter.unusedVariables false
set_option maxRecDepth 100000
set_option maxHeartbeats 8000000
attribute [local go_sem] st0 AC thenA andC locLoadB KsSW_same KsSW_grow oldLoadB noBlkB KsSL_same KsOS_same KsOS_grow pv ev put upd dstOk cv cvc binI setB Value.oneCell' EndA resA resA1 List.mapM_cons List.mapM_nil Option.pure_def Option.bind_eq_bind noLocV noLoc1 noLoc noLocs plainV cellsA newVarA putCells condA lam0 inBlockA cur lenA rowA writeA dstA appendC appendZ mapPut mapGet avoidsB avoidB clearB Array.toList_append Op.operands Call.operands newSlot Nat.zero_add Nat.add_zero Nat.succ_ne_self Nat.lt_add_one Nat.zero_lt_succ true_and and_true true_or or_true false_or or_false and_self true_implies forall_const Bool.false_eq_true Bool.true_eq_false false_implies implies_true imp_self ne_eq not_false_eq_true not_true_eq_false false_and and_false List.getElem?_toArray List.getElem?_cons_succ List.getElem?_cons_zero Option.bind_some Option.map_some Bool.not_true Bool.not_false List.getD_cons_zero List.getD_cons_succ Option.some.injEq exists_eq_left' AV.bool.injEq List.map_cons List.map_nil List.all_cons List.all_nil Bool.and_self Bool.and_true Bool.true_and List.append_nil List.cons_append List.nil_append List.length_cons List.length_nil List.drop_zero List.take_zero List.drop_succ_cons List.take_succ_cons List.take_nil List.drop_nil List.not_mem_nil List.mem_cons List.contains_nil List.contains_cons Bool.or_self Bool.or_true Bool.true_or Bool.false_or Bool.or_false Bool.and_false Bool.false_and KsS_same KsS_grow skipV KsS_ext KsSW_ext KsOS_ext rep1 rep2 rep3 rep4 rep5 List.flatten_cons List.flatten_nil partsA isPtr fillA List.size_toArray ltT ltF leT leF ltTn ltFn leTn leFn eqTi eqFi wrapId toNat1 intGet boolGet memD app_get app_last app_lst app_set app_setL app_setF set_ne set_eq gt_iff_lt ge_iff_le decide_eq_true_eq len2 len3 get20 get21 drop2 put2 get30 get31 get32 drop3 put3 putI pairEta bneTi bneFi beqTi beqFi bne_eq_false_iff_eq beq_eq_false_iff_ne beq_iff_eq bne_iff_ne Int.toNat_natCast Nat.mul_one List.length_map Bool.not_eq_true Bool.not_eq_false Bool.decide_eq_true decide_true decide_false Bool.not_eq_true' Bool.not_eq_false' decide_eq_false_iff_not eq_self Decidable.not_not
attribute [local go_sem ↓] skipC exitC retC seqC blockC condC regC drawC drawStep AOpC AOpF AOpE AEff contE_at contC_at keepC_at keepW_at keepO_at keepL_at map_parts
attribute [local go_sem] reduceCtorEq Nat.reduceLT Nat.reduceEqDiff Nat.reduceAdd Nat.reduceMul Nat.reduceLeDiff Nat.reduceSub Nat.reduceBEq Nat.reduceBNe Nat.reduceBneDiff Nat.reduceBeqDiff
attribute [local go_sem ↓] reduceIte
theorem contT {a b : Id3} (h : contB a b = true) : idB a.1 a.2.1 a.2.2 = true ∧ idB b.1 b.2.1 b.2.2 = true ∧ a.1 = b.1 ∧ a.2.1 ≤ b.2.1 ∧ b.2.2.fdiv (2 ^ (b.2.1 - a.2.1).toNat) = a.2.2 := by
  simpa only [contB, idT, Bool.and_eq_true, decide_eq_true_eq] using h
theorem contB_trans {a b c : Id3} (h1 : contB a b = true) (h2 : contB b c = true) : contB a c = true := by
  obtain ⟨a1, a2, a3, a4, a5⟩ := contT h1
  obtain ⟨b1, b2, b3, b4, b5⟩ := contT h2
  have c1 := id_bd a1
  have c2 := id_bd b1
  have c3 := id_bd b2
  simp only [contB, idT, Bool.and_eq_true, decide_eq_true_eq]
  refine ⟨a1, b2, a3.trans b3, by omega, ?_⟩
  have p1 : (0 : Int) ≤ 2 ^ (b.2.1 - a.2.1).toNat := Int.le_of_lt (Int.pow_pos (by omega))
  have p2 : (0 : Int) ≤ 2 ^ (c.2.1 - b.2.1).toNat := Int.le_of_lt (Int.pow_pos (by omega))
  have p3 : (0 : Int) ≤ 2 ^ (c.2.1 - a.2.1).toNat := Int.le_of_lt (Int.pow_pos (by omega))
  rw [Int.fdiv_eq_ediv_of_nonneg _ p1] at a5
  rw [Int.fdiv_eq_ediv_of_nonneg _ p2] at b5
  rw [Int.fdiv_eq_ediv_of_nonneg _ p3, ← a5, ← b5, Int.ediv_ediv_of_nonneg p2, ← Int.pow_add]
  congr 2
  omega
theorem split_at {l : List Id3} {i : Nat} (hi : i < l.length) : l = l.take i ++ (l.getD i z3 :: l.drop (i + 1)) := by
  rw [List.getD_eq_getElem?_getD, List.getElem?_eq_getElem hi, Option.getD_some, List.getElem_cons_drop, List.take_append_drop]
abbrev sI (x : Id3) : Int := stI x.1 x.2.1 x.2.2
abbrev eI (x : Id3) : Int := enI x.1 x.2.1 x.2.2
theorem dyad {r ix s iy lv lw : Int} (hv : 0 ≤ lv ∧ lv ≤ 4) (hw : 0 ≤ lw ∧ lw ≤ 4) (hl : lv ≤ lw) (he : r = s) : (iy / 2 ^ (lw - lv).toNat = ix ∧ r * 16 + ix * wdI lv ≤ s * 16 + iy * wdI lw ∧ s * 16 + iy * wdI lw + wdI lw ≤ r * 16 + ix * wdI lv + wdI lv) ∨ (iy / 2 ^ (lw - lv).toNat ≠ ix ∧ (r * 16 + ix * wdI lv + wdI lv ≤ s * 16 + iy * wdI lw ∨ s * 16 + iy * wdI lw + wdI lw ≤ r * 16 + ix * wdI lv)) := by
  have w0 : wdI 0 = 16 := by decide
  have w1 : wdI 1 = 8 := by decide
  have w2 : wdI 2 = 4 := by decide
  have w3 : wdI 3 = 2 := by decide
  have w4 : wdI 4 = 1 := by decide
  have p0 : ∀ a b : Int, a - b = 0 → (2 : Int) ^ (a - b).toNat = 1 := fun a b h => by rw [h]; rfl
  have p1 : ∀ a b : Int, a - b = 1 → (2 : Int) ^ (a - b).toNat = 2 := fun a b h => by rw [h]; rfl
  have p2 : ∀ a b : Int, a - b = 2 → (2 : Int) ^ (a - b).toNat = 4 := fun a b h => by rw [h]; rfl
  have p3 : ∀ a b : Int, a - b = 3 → (2 : Int) ^ (a - b).toNat = 8 := fun a b h => by rw [h]; rfl
  have p4 : ∀ a b : Int, a - b = 4 → (2 : Int) ^ (a - b).toNat = 16 := fun a b h => by rw [h]; rfl
  have c1 : lv = 0 ∨ lv = 1 ∨ lv = 2 ∨ lv = 3 ∨ lv = 4 := by omega
  have c2 : lw = 0 ∨ lw = 1 ∨ lw = 2 ∨ lw = 3 ∨ lw = 4 := by omega
  rcases c1 with rfl | rfl | rfl | rfl | rfl <;> rcases c2 with rfl | rfl | rfl | rfl | rfl <;> first
    | omega
    | (simp only [w0, w1, w2, w3, w4]
       first
         | rw [p0 _ _ (by omega)]
         | rw [p1 _ _ (by omega)]
         | rw [p2 _ _ (by omega)]
         | rw [p3 _ _ (by omega)]
         | rw [p4 _ _ (by omega)]
       omega)
/-- Of two cells the finer one lies in the other, or they lie apart. -/
theorem geo_pair {a b : Id3} (ha : idT a = true) (hb : idT b = true) (hl : a.2.1 ≤ b.2.1) : (contB a b = true ∧ sI a ≤ sI b ∧ eI b ≤ eI a) ∨ (contB a b = false ∧ (eI a ≤ sI b ∨ eI b ≤ sI a)) := by
  obtain ⟨r, lv, ix⟩ := a
  obtain ⟨s, lw, iy⟩ := b
  have b1 := id_bd (r := r) (lv := lv) (ix := ix) ha
  have b2 := id_bd (r := s) (lv := lw) (ix := iy) hb
  have ha' : idB r lv ix = true := ha
  have hb' : idB s lw iy = true := hb
  replace hl : lv ≤ lw := hl
  have e1 : sI (r, lv, ix) = r * 16 + ix * wdI lv := by show stI r lv ix = _; rw [stI, if_pos ha']
  have e2 : sI (s, lw, iy) = s * 16 + iy * wdI lw := by show stI s lw iy = _; rw [stI, if_pos hb']
  have e3 : eI (r, lv, ix) = r * 16 + ix * wdI lv + wdI lv := by show stI r lv ix + wdI lv = _; rw [stI, if_pos ha']
  have e4 : eI (s, lw, iy) = s * 16 + iy * wdI lw + wdI lw := by show stI s lw iy + wdI lw = _; rw [stI, if_pos hb']
  rw [e1, e2, e3, e4]
  by_cases he : r = s
  · have p2 : (0 : Int) ≤ 2 ^ (lw - lv).toNat := Int.le_of_lt (Int.pow_pos (by omega))
    have w : contB (r, lv, ix) (s, lw, iy) = decide (iy / 2 ^ (lw - lv).toNat = ix) := by
      simp only [contB, ha, hb, Bool.true_and, decide_eq_true he, decide_eq_true hl, Int.fdiv_eq_ediv_of_nonneg _ p2]
    rw [w]
    rcases dyad (r := r) (s := s) (ix := ix) (iy := iy) ⟨b1.2.2.1, b1.2.2.2.1⟩ ⟨b2.2.2.1, b2.2.2.2.1⟩ hl he with ⟨q1, q2⟩ | ⟨q1, q2⟩
    · exact .inl ⟨decide_eq_true q1, q2⟩
    · exact .inr ⟨decide_eq_false q1, q2⟩
  · refine .inr ⟨by simp [contB, he], ?_⟩
    omega
theorem cont_rng {a b : Id3} (h : contB a b = true) : sI a ≤ sI b ∧ eI b ≤ eI a := by
  obtain ⟨h1, h2, _, h4, _⟩ := contT h
  rcases geo_pair h1 h2 h4 with q | q
  · exact q.2
  · rw [h] at q; cases q.1
theorem cont_eq {a b : Id3} (h : contB a b = true) (hl : b.2.1 ≤ a.2.1) : a = b := by
  obtain ⟨_, _, h3, h4, h5⟩ := contT h
  rw [show (b.2.1 - a.2.1).toNat = 0 by omega] at h5
  simp at h5
  exact Prod.ext h3 (Prod.ext (by omega) h5.symm)
theorem cont_meet {a b : Id3} (ha : idT a = true) (hb : idT b = true) (hl : a.2.1 ≤ b.2.1) {p : Int} (h1 : sI a ≤ p) (h2 : p < eI a) (h3 : sI b ≤ p) (h4 : p < eI b) : contB a b = true := by
  rcases geo_pair ha hb hl with q | q
  · exact q.1
  · omega
theorem sI_lt {x : Id3} (h : idT x = true) : sI x < eI x := by
  have := id_bd (r := x.1) (lv := x.2.1) (ix := x.2.2) h
  show stI _ _ _ < stI _ _ _ + wdI _
  omega
theorem mesh_cov {r : Int} {l : List Id3} (h : meshB r l = true) {p : Int} (h0 : 0 ≤ p) (h1 : p < r * 16) : ∃ j, j < l.length ∧ sI (l.getD j z3) ≤ p ∧ p < eI (l.getD j z3) := by
  obtain ⟨P, p0, p1, p2⟩ := mesh_pos h
  have key : ∀ n, n ≤ l.length → p < P n → ∃ j, j < n ∧ P j ≤ p ∧ p < P (j + 1) := by
    intro n
    induction n with
    | zero => intro _ h; omega
    | succ n ih =>
      intro hn hp
      by_cases c : p < P n
      · obtain ⟨j, q1, q2⟩ := ih (by omega) c
        exact ⟨j, by omega, q2⟩
      · exact ⟨n, by omega, by omega, hp⟩
  obtain ⟨j, q1, q2, q3⟩ := key l.length (Nat.le_refl _) (by omega)
  have := p2 j q1
  exact ⟨j, q1, by show stI _ _ _ ≤ p; omega, by show p < enI _ _ _; omega⟩
theorem leaf_ix {r : Int} {l : List Id3} (h : meshB r l = true) {i j : Nat} (hi : i < l.length) (hj : j < l.length) {p : Int} (a : sI (l.getD i z3) ≤ p) (b : p < eI (l.getD i z3)) (c : sI (l.getD j z3) ≤ p) (d : p < eI (l.getD j z3)) : i = j := by
  obtain ⟨P, p0, p1, p2⟩ := mesh_pos h
  have hs : ∀ k, k < l.length → P k < P (k + 1) := fun k hk => (p2 k hk).2.2
  have q1 := p2 i hi
  have q2 := p2 j hj
  rw [show sI (l.getD i z3) = P i from q1.1] at a
  rw [show eI (l.getD i z3) = P (i + 1) from q1.2.1] at b
  rw [show sI (l.getD j z3) = P j from q2.1] at c
  rw [show eI (l.getD j z3) = P (j + 1) from q2.2.1] at d
  have le : ∀ u v : Nat, v ≤ l.length → u ≤ v → P u ≤ P v := fun u v hv huv => by
    by_cases e : u = v
    · subst e; exact Int.le_refl _
    · exact Int.le_of_lt (pos_lt hs v u hv (by omega))
  by_cases c1 : i < j
  · have := le (i + 1) j (by omega) (by omega); omega
  · by_cases c2 : j < i
    · have := le (j + 1) i (by omega) (by omega); omega
    · omega
theorem mem_ix {l : List Id3} {x : Id3} (h : x ∈ l) : ∃ i, i < l.length ∧ l.getD i z3 = x := by
  obtain ⟨i, hi, ei⟩ := List.getElem_of_mem h
  exact ⟨i, hi, by rw [List.getD_eq_getElem?_getD, List.getElem?_eq_getElem hi, Option.getD_some, ei]⟩
theorem leaf_at {r : Int} {l : List Id3} (h : meshB r l = true) {x y : Id3} (hx : x ∈ l) (hy : y ∈ l) {p : Int} (a : sI x ≤ p) (b : p < eI x) (c : sI y ≤ p) (d : p < eI y) : x = y := by
  obtain ⟨i, hi, rfl⟩ := mem_ix hx
  obtain ⟨j, hj, rfl⟩ := mem_ix hy
  rw [leaf_ix h hi hj a b c d]
theorem mem_rng {r : Int} {l : List Id3} (h : meshB r l = true) {x : Id3} (hx : x ∈ l) : 0 ≤ sI x ∧ eI x ≤ r * 16 ∧ sI x < eI x := by
  obtain ⟨i, hi, rfl⟩ := mem_ix hx
  obtain ⟨P, p0, p1, p2⟩ := mesh_pos h
  have hs : ∀ k, k < l.length → P k < P (k + 1) := fun k hk => (p2 k hk).2.2
  have le : ∀ u v : Nat, v ≤ l.length → u ≤ v → P u ≤ P v := fun u v hv huv => by
    by_cases e : u = v
    · subst e; exact Int.le_refl _
    · exact Int.le_of_lt (pos_lt hs v u hv (by omega))
  have q1 := p2 i hi
  rw [show sI (l.getD i z3) = P i from q1.1, show eI (l.getD i z3) = P (i + 1) from q1.2.1]
  have a := le 0 i (by omega) (by omega)
  have b := le (i + 1) l.length (by omega) (by omega)
  omega
theorem idxR_pos {l : List Id3} {f : Id3 → Bool} (h : l.any f = true) : ∃ k : Nat, idxR l f = k ∧ k < l.length ∧ f (l.getD k z3) = true := by
  unfold idxR
  cases e : l.findIdx? f with
  | none =>
    rw [List.findIdx?_eq_none_iff] at e
    rw [List.any_eq_true] at h
    obtain ⟨x, h1, h2⟩ := h
    rw [e x h1] at h2
    cases h2
  | some k =>
    rw [List.findIdx?_eq_some_iff_getElem] at e
    obtain ⟨hi, hf, _⟩ := e
    exact ⟨k, rfl, hi, by rw [List.getD_eq_getElem?_getD, List.getElem?_eq_getElem hi]; exact hf⟩
theorem idxR_no {l : List Id3} {f : Id3 → Bool} (h : ∀ x ∈ l, f x = false) : idxR l f = -1 := idxR_none (by
  rw [List.all_eq_true]
  intro x hx
  rw [h x hx]; rfl)
theorem idxR_nn {l : List Id3} {f : Id3 → Bool} (h : 0 ≤ idxR l f) : l.any f = true := by
  have := idxR_any l f
  rw [decide_eq_true h] at this
  exact this.symm
/-- A mesh has a leaf within a cell that is not the cell. -/
def wthB (m : List Id3) (x : Id3) : Bool := m.any fun y => decide (y ≠ x) && contB x y
def outI (m : List Id3) (x : Id3) : Int := idxR m fun y => contB y x
/-- A leaf that is no leaf of the other mesh is too coarse or too fine. -/
theorem rm_cases {r : Int} {m l : List Id3} {x : Id3} (hm : meshB r m = true) (hl : meshB r l = true) (hx : x ∈ l) (hn : x ∉ m) :
    (wthB m x = true ∧ outI m x < 0 ∧ x.2.1 ≠ 4 ∧ ∀ y ∈ m, ∀ p, sI x ≤ p → p < eI x → sI y ≤ p → p < eI y → x.2.1 < y.2.1) ∨ (wthB m x = false ∧ ∃ k : Nat, outI m x = k ∧ k < m.length ∧ contB (m.getD k z3) x = true ∧ (m.getD k z3).2.1 < x.2.1) := by
  have ix := mesh_ids hl x hx
  have rx := mem_rng hl hx
  obtain ⟨j, j1, j2, j3⟩ := mesh_cov hm (p := sI x) rx.1 (by omega)
  have jm : m.getD j z3 ∈ m := getD_mem j1
  have ij := mesh_ids hm _ jm
  by_cases hc : (m.getD j z3).2.1 ≤ x.2.1
  · right
    have c1 : contB (m.getD j z3) x = true := cont_meet ij ix hc j2 j3 (Int.le_refl _) rx.2.2
    obtain ⟨k, k1, k2, k3⟩ := idxR_pos (l := m) (f := fun y => contB y x) (List.any_eq_true.2 ⟨_, jm, c1⟩)
    have km : m.getD k z3 ∈ m := getD_mem k2
    have hlt : (m.getD k z3).2.1 < x.2.1 := by
      obtain ⟨_, _, _, h4, _⟩ := contT k3
      by_cases e : x.2.1 ≤ (m.getD k z3).2.1
      · have := cont_eq k3 e
        exact absurd (this ▸ km) hn
      · omega
    refine ⟨?_, k, k1, k2, k3, hlt⟩
    unfold wthB
    rw [List.any_eq_false]
    intro z hz hf
    rw [Bool.and_eq_true, decide_eq_true_eq] at hf
    have q1 := cont_rng hf.2
    have q2 := cont_rng k3
    have q3 := sI_lt (mesh_ids hm z hz)
    have := leaf_at hm hz km (p := sI z) (Int.le_refl _) q3 (by omega) (by omega)
    obtain ⟨_, _, _, h4, _⟩ := contT hf.2
    rw [this] at h4
    omega
  · left
    have key : ∀ y ∈ m, ∀ p, sI x ≤ p → p < eI x → sI y ≤ p → p < eI y → x.2.1 < y.2.1 := by
      intro y hy p a b c d
      by_cases e : x.2.1 < y.2.1
      · exact e
      · have c1 := cont_meet (mesh_ids hm y hy) ix (by omega) c d a b
        have q := cont_rng c1
        have := leaf_at hm hy jm (p := sI x) q.1 (by omega) j2 j3
        rw [this] at e
        omega
    have i4 := id_bd (r := (m.getD j z3).1) (lv := (m.getD j z3).2.1) (ix := (m.getD j z3).2.2) ij
    refine ⟨?_, ?_, by omega, key⟩
    · unfold wthB
      rw [List.any_eq_true]
      refine ⟨_, jm, ?_⟩
      rw [Bool.and_eq_true, decide_eq_true_eq]
      exact ⟨fun e => hn (e ▸ jm), cont_meet ix ij (by omega) (Int.le_refl _) rx.2.2 j2 j3⟩
    · unfold outI
      rw [idxR_no]
      · decide
      · intro y hy
        cases e : contB y x
        · rfl
        · have q := cont_rng e
          have := key y hy (sI x) (Int.le_refl _) rx.2.2 q.1 (by omega)
          obtain ⟨_, _, _, h4, _⟩ := contT e
          omega
/-- The first leaf of the greatest level within a cell. -/
def dpN (l : List Id3) (y : Id3) : Nat → Int
  | 0 => -1
  | n + 1 => if contB y (l.getD n z3) = true ∧ (dpN l y n < 0 ∨ (l.getD (dpN l y n).toNat z3).2.1 < (l.getD n z3).2.1) then n else dpN l y n
def dpI (l : List Id3) (y : Id3) : Int := dpN l y l.length
theorem dpN_spec (l : List Id3) (y : Id3) : ∀ n, (dpN l y n = -1 ∧ ∀ j, j < n → contB y (l.getD j z3) = false) ∨ ∃ d : Nat, dpN l y n = d ∧ d < n ∧ contB y (l.getD d z3) = true ∧ (∀ j, j < n → contB y (l.getD j z3) = true → (l.getD j z3).2.1 ≤ (l.getD d z3).2.1) ∧ ∀ j, j < d → contB y (l.getD j z3) = true → (l.getD j z3).2.1 < (l.getD d z3).2.1
  | 0 => .inl ⟨rfl, fun j hj => absurd hj (Nat.not_lt_zero j)⟩
  | n + 1 => by
    rcases dpN_spec l y n with ⟨h1, h2⟩ | ⟨d, h1, h2, h3, h4, h5⟩
    · cases hc : contB y (l.getD n z3)
      · left
        refine ⟨by rw [dpN, if_neg (by rw [hc]; simp), h1], fun j hj => ?_⟩
        by_cases e : j = n
        · subst e; exact hc
        · exact h2 j (by omega)
      · right
        refine ⟨n, by rw [dpN, if_pos ⟨hc, .inl (by omega)⟩], by omega, hc, fun j hj hcj => ?_, fun j hj hcj => ?_⟩
        · by_cases e : j = n
          · subst e; exact Int.le_refl _
          · rw [h2 j (by omega)] at hcj; cases hcj
        · rw [h2 j (by omega)] at hcj; cases hcj
    · right
      by_cases hc : contB y (l.getD n z3) = true ∧ (l.getD d z3).2.1 < (l.getD n z3).2.1
      · refine ⟨n, by rw [dpN, h1, if_pos ⟨hc.1, .inr (by rw [Int.toNat_natCast]; exact hc.2)⟩], by omega, hc.1, fun j hj hcj => ?_, fun j hj hcj => ?_⟩
        · by_cases e : j = n
          · subst e; exact Int.le_refl _
          · have := h4 j (by omega) hcj; omega
        · have := h4 j (by omega) hcj; omega
      · refine ⟨d, ?_, by omega, h3, fun j hj hcj => ?_, h5⟩
        · rw [dpN, h1, if_neg]
          rintro ⟨a, b⟩
          rw [Int.toNat_natCast] at b
          exact hc ⟨a, by omega⟩
        · by_cases e : j = n
          · subst e
            by_cases e2 : (l.getD d z3).2.1 < (l.getD j z3).2.1
            · exact absurd ⟨hcj, e2⟩ hc
            · omega
          · exact h4 j (by omega) hcj
/-- The deepest leaf within a cell that is coarser has its sibling behind it. -/
theorem dp_sib {r : Int} {l : List Id3} {x y : Id3} (hl : meshB r l = true) (hx : x ∈ l) (hc : contB y x = true) (hlv : y.2.1 < x.2.1) (hy : eI y ≤ r * 16) : ∃ d : Nat, dpI l y = d ∧ d + 1 < l.length ∧ sibB (l.getD d z3) (l.getD (d + 1) z3) = true ∧ contB y (parL (l.getD d z3)) = true := by
  obtain ⟨i, i1, i2⟩ := mem_ix hx
  rcases dpN_spec l y l.length with ⟨h1, h2⟩ | ⟨d, h1, h2, h3, h4, h5⟩
  · have := h2 i i1
    rw [i2, hc] at this
    cases this
  refine ⟨d, h1, ?_⟩
  have hd : l.getD d z3 ∈ l := getD_mem h2
  have hlx := h4 i i1 (by rw [i2]; exact hc)
  rw [i2] at hlx
  generalize hz : l.getD d z3 = z at *
  obtain ⟨c1, c2, c3, c4, c5⟩ := contT h3
  have by_ := id_bd c1
  have bz := id_bd c2
  have t2 : z.2.2.tdiv 2 = z.2.2 / 2 := Int.tdiv_eq_ediv_of_nonneg bz.2.2.2.2.1
  -- the parent
  have hp : idB z.1 (z.2.1 - 1) (z.2.2 / 2) = true := by
    simp only [idB, inB, Bool.and_eq_true, decide_eq_true_eq] at c2 ⊢
    obtain ⟨⟨a1, a2⟩, ⟨a3, a4⟩, a5, a6⟩ := c2
    refine ⟨⟨a1, a2⟩, ⟨by omega, by omega⟩, by omega, ?_⟩
    have hh : z.2.1 = 1 ∨ z.2.1 = 2 ∨ z.2.1 = 3 ∨ z.2.1 = 4 := by omega
    rcases hh with e | e | e | e <;> rw [e] at a6 ⊢ <;> simp at a6 ⊢ <;> omega
  have ep : parL z = (z.1, z.2.1 - 1, z.2.2 / 2) := by rw [parL, t2]
  rw [ep]
  obtain ⟨k1, k2, k3, k4, k5⟩ := child_geo hp (by omega)
  rw [Int.sub_add_cancel] at k1 k2 k3 k4 k5
  have k3' : sI (z.1, z.2.1, 2 * (z.2.2 / 2) + 0) = sI (z.1, z.2.1 - 1, z.2.2 / 2) := k3
  have k4' : eI (z.1, z.2.1, 2 * (z.2.2 / 2) + 0) = sI (z.1, z.2.1, 2 * (z.2.2 / 2) + 1) := k4
  have k5' : eI (z.1, z.2.1, 2 * (z.2.2 / 2) + 1) = eI (z.1, z.2.1 - 1, z.2.2 / 2) := k5
  have m1 := sI_lt (x := (z.1, z.2.1, 2 * (z.2.2 / 2) + 0)) k1
  have m2 := sI_lt (x := (z.1, z.2.1, 2 * (z.2.2 / 2) + 1)) k2
  have zc : z = (z.1, z.2.1, 2 * (z.2.2 / 2) + 0) ∨ z = (z.1, z.2.1, 2 * (z.2.2 / 2) + 1) := by
    by_cases e : z.2.2 % 2 = 0
    · exact .inl (Prod.ext rfl (Prod.ext rfl (show z.2.2 = 2 * (z.2.2 / 2) + 0 by omega)))
    · exact .inr (Prod.ext rfl (Prod.ext rfl (show z.2.2 = 2 * (z.2.2 / 2) + 1 by omega)))
  have zl := sI_lt (x := z) c2
  have zp : sI (z.1, z.2.1 - 1, z.2.2 / 2) ≤ sI z ∧ eI z ≤ eI (z.1, z.2.1 - 1, z.2.2 / 2) := by
    rcases zc with e | e
    · have e1 := congrArg sI e
      have e2 := congrArg eI e
      omega
    · have e1 := congrArg sI e
      have e2 := congrArg eI e
      omega
  have zy := cont_rng h3
  have yp : contB y (z.1, z.2.1 - 1, z.2.2 / 2) = true := cont_meet c1 hp (by show y.2.1 ≤ z.2.1 - 1; omega) (p := sI z) zy.1 (by omega) zp.1 (by omega)
  have yr := cont_rng yp
  -- leaves within the parent
  have key : ∀ w : Id3, idT w = true → w.2.1 = z.2.1 → sI (z.1, z.2.1 - 1, z.2.2 / 2) ≤ sI w → eI w ≤ eI (z.1, z.2.1 - 1, z.2.2 / 2) → ∀ v ∈ l, sI v ≤ sI w → sI w < eI v → v = w ∧ contB y v = true := by
    intro w iw hw q1 q2 v hv q3 q4
    have wl := sI_lt iw
    have iv := mesh_ids hl v hv
    have hvl : z.2.1 ≤ v.2.1 := by
      by_cases e : z.2.1 ≤ v.2.1
      · exact e
      · have c := cont_meet iv (b := (z.1, z.2.1 - 1, z.2.2 / 2)) hp (by show v.2.1 ≤ z.2.1 - 1; omega) q3 q4 q1 (by omega)
        have q := cont_rng c
        have := leaf_at hl hv hd (p := sI z) (by omega) (by omega) (Int.le_refl _) zl
        rw [this] at e
        omega
    have pv : contB (z.1, z.2.1 - 1, z.2.2 / 2) v = true := cont_meet (a := (z.1, z.2.1 - 1, z.2.2 / 2)) hp iv (by show z.2.1 - 1 ≤ v.2.1; omega) (p := sI w) q1 (by omega) q3 q4
    have yv := contB_trans yp pv
    obtain ⟨e, e1, e2⟩ := mem_ix hv
    have := h4 e e1 (by rw [e2]; exact yv)
    rw [e2] at this
    have hvw := cont_meet iv iw (by omega) q3 q4 (Int.le_refl _) wl
    exact ⟨cont_eq hvw (by omega), yv⟩
  obtain ⟨P, p0, p1, p2⟩ := mesh_pos hl
  have hs : ∀ k, k < l.length → P k < P (k + 1) := fun k hk => (p2 k hk).2.2
  have pd := p2 d h2
  rw [hz] at pd
  have pd1 : sI z = P d := pd.1
  have pd2 : eI z = P (d + 1) := pd.2.1
  rcases zc with e | e
  · have s1 := congrArg sI e
    have s2 := congrArg eI e
    have hlt : d + 1 < l.length := by
      by_cases c : d + 1 = l.length
      · rw [c, p1] at pd2; omega
      · omega
    have pn := p2 (d + 1) hlt
    have pn1 : sI (l.getD (d + 1) z3) = P (d + 1) := pn.1
    have pn2 : eI (l.getD (d + 1) z3) = P (d + 1 + 1) := pn.2.1
    obtain ⟨v1, _⟩ := key (z.1, z.2.1, 2 * (z.2.2 / 2) + 1) k2 rfl (by omega) (by omega) _ (getD_mem (d := z3) hlt) (by omega) (by omega)
    refine ⟨hlt, ?_, yp⟩
    rw [v1]
    have e22 : z.2.2 = 2 * (z.2.2 / 2) + 0 := congrArg (fun x : Id3 => x.2.2) e
    have c2' : idT z = true := c2
    have k2' : idT (z.1, z.2.1, 2 * (z.2.2 / 2) + 1) = true := k2
    simp only [sibB, c2', k2', Bool.true_and, Bool.and_eq_true, decide_eq_true_eq, true_and]
    refine ⟨?_, by omega⟩
    rw [Int.tmod_eq_emod_of_nonneg bz.2.2.2.2.1]
    omega
  · exfalso
    have s1 := congrArg sI e
    have s2 := congrArg eI e
    have hz0 := mem_rng hl hd
    have q0 : 0 ≤ sI (z.1, z.2.1, 2 * (z.2.2 / 2) + 0) := by
      have bb := id_bd k1
      have ee : sI (z.1, z.2.1, 2 * (z.2.2 / 2) + 0) = z.1 * 16 + (2 * (z.2.2 / 2) + 0) * wdI z.2.1 := by
        show stI _ _ _ = _
        rw [stI, if_pos k1]
      omega
    obtain ⟨j, j1, j2, j3⟩ := mesh_cov hl (p := sI (z.1, z.2.1, 2 * (z.2.2 / 2) + 0)) q0 (by omega)
    obtain ⟨v1, v2⟩ := key (z.1, z.2.1, 2 * (z.2.2 / 2) + 0) k1 rfl (by omega) (by omega) _ (getD_mem (d := z3) j1) j2 j3
    have pj := p2 j j1
    have pj1 : sI (l.getD j z3) = P j := pj.1
    have s3 := congrArg sI v1
    by_cases c : j < d
    · have := h5 j c v2
      rw [v1] at this
      exact absurd this (Int.lt_irrefl _)
    · by_cases c2 : j = d
      · rw [c2, hz] at s3; omega
      · have := pos_lt hs j d (by omega) (by omega)
        omega
/-- How far two meshes are apart. -/
def lvP (l : List Id3) (p : Int) : Int := ((l.find? fun x => decide (sI x ≤ p ∧ p < eI x)).getD z3).2.1
theorem lvP_eq {r : Int} {l : List Id3} (hl : meshB r l = true) {z : Id3} (hz : z ∈ l) {p : Int} (a : sI z ≤ p) (b : p < eI z) : lvP l p = z.2.1 := by
  unfold lvP
  cases h : l.find? fun x => decide (sI x ≤ p ∧ p < eI x) with
  | none =>
    rw [List.find?_eq_none] at h
    exact absurd (decide_eq_true ⟨a, b⟩) (h z hz)
  | some y =>
    have h1 := List.mem_of_find?_eq_some h
    have h2 := List.find?_some h
    rw [decide_eq_true_eq] at h2
    rw [Option.getD_some, leaf_at hl h1 hz h2.1 h2.2 a b]
def muR (r : Int) (m l : List Id3) : Nat := ((List.range (r * 16).toNat).map fun p : Nat => (lvP l (p : Int) - lvP m (p : Int)).natAbs).sum
theorem sum_le1 {f g : Nat → Nat} : ∀ n, (∀ p, p < n → f p ≤ g p) → ((List.range n).map f).sum ≤ ((List.range n).map g).sum
  | 0, _ => Nat.le_refl _
  | n + 1, h => by
    rw [List.range_succ, List.map_append, List.map_append, List.sum_append, List.sum_append]
    have a := sum_le1 n fun p hp => h p (by omega)
    have b := h n (by omega)
    simp only [List.map_cons, List.map_nil, List.sum_cons, List.sum_nil]
    omega
theorem sum_lt1 {f g : Nat → Nat} : ∀ n, (∀ p, p < n → f p ≤ g p) → ∀ q, q < n → f q < g q → ((List.range n).map f).sum < ((List.range n).map g).sum
  | 0, _, q, hq, _ => absurd hq (Nat.not_lt_zero q)
  | n + 1, h, q, hq, hs => by
    rw [List.range_succ, List.map_append, List.map_append, List.sum_append, List.sum_append]
    simp only [List.map_cons, List.map_nil, List.sum_cons, List.sum_nil]
    by_cases e : q = n
    · subst e
      have a := sum_le1 q fun p hp => h p (by omega)
      omega
    · have a := sum_lt1 n (fun p hp => h p (by omega)) q (by omega) hs
      have b := h n (by omega)
      omega
theorem mu_lt {r : Int} {m l l' : List Id3} (h : ∀ p : Int, 0 ≤ p → p < r * 16 → (lvP l' p - lvP m p).natAbs ≤ (lvP l p - lvP m p).natAbs) {q : Int} (q0 : 0 ≤ q) (q1 : q < r * 16) (hq : (lvP l' q - lvP m q).natAbs < (lvP l q - lvP m q).natAbs) : muR r m l' < muR r m l := by
  refine sum_lt1 _ (fun p hp => h p (by omega) (by omega)) q.toNat (by omega) ?_
  rw [Int.toNat_of_nonneg q0]
  exact hq
theorem mem_split {l : List Id3} {i : Nat} (hi : i < l.length) {z : Id3} (hz : z ∈ l) : z = l.getD i z3 ∨ z ∈ splitL l i := by
  rw [split_at hi, List.mem_append, List.mem_cons] at hz
  rcases hz with h | h | h
  · exact .inr (by simp [splitL, h])
  · exact .inl h
  · exact .inr (by simp [splitL, h])
theorem mem_mrg {l : List Id3} {i : Nat} (hi : i + 1 < l.length) {z : Id3} (hz : z ∈ l) : z = l.getD i z3 ∨ z = l.getD (i + 1) z3 ∨ z ∈ mrgL l i := by
  obtain ⟨j, j1, j2⟩ := mem_ix hz
  by_cases c1 : j < i
  · refine .inr (.inr ?_)
    have := mrgL_at hi j
    rw [if_pos c1, j2] at this
    rw [← this]
    exact getD_mem (by rw [mrgL_len hi]; omega)
  · by_cases c2 : j = i
    · subst c2; exact .inl j2.symm
    · by_cases c3 : j = i + 1
      · subst c3; exact .inr (.inl j2.symm)
      · refine .inr (.inr ?_)
        have := mrgL_at hi (j - 1)
        rw [if_neg (by omega), if_neg (by omega), show j - 1 + 1 = j by omega, j2] at this
        rw [← this]
        exact getD_mem (by rw [mrgL_len hi]; omega)
theorem mu_split {r : Int} {m l : List Id3} {i : Nat} (hm : meshB r m = true) (hl : meshB r l = true) (hi : i < l.length) (h4 : (l.getD i z3).2.1 ≠ 4) (hf : ∀ y ∈ m, ∀ p, sI (l.getD i z3) ≤ p → p < eI (l.getD i z3) → sI y ≤ p → p < eI y → (l.getD i z3).2.1 < y.2.1) : muR r m (splitL l i) < muR r m l := by
  have hs := split_mesh hl hi h4
  have hx := mem_rng hl (getD_mem (d := z3) hi)
  obtain ⟨c1, c2, c3, c4, c5⟩ := child_geo (r := (l.getD i z3).1) (lv := (l.getD i z3).2.1) (ix := (l.getD i z3).2.2) (mesh_ids hl _ (getD_mem hi)) h4
  have c3' : sI ((l.getD i z3).1, (l.getD i z3).2.1 + 1, 2 * (l.getD i z3).2.2 + 0) = sI (l.getD i z3) := c3
  have c4' : eI ((l.getD i z3).1, (l.getD i z3).2.1 + 1, 2 * (l.getD i z3).2.2 + 0) = sI ((l.getD i z3).1, (l.getD i z3).2.1 + 1, 2 * (l.getD i z3).2.2 + 1) := c4
  have c5' : eI ((l.getD i z3).1, (l.getD i z3).2.1 + 1, 2 * (l.getD i z3).2.2 + 1) = eI (l.getD i z3) := c5
  have inn : ∀ p, sI (l.getD i z3) ≤ p → p < eI (l.getD i z3) → lvP (splitL l i) p = (l.getD i z3).2.1 + 1 ∧ lvP l p = (l.getD i z3).2.1 ∧ (l.getD i z3).2.1 < lvP m p := by
    intro p a b
    refine ⟨?_, lvP_eq hl (getD_mem hi) a b, ?_⟩
    · by_cases e : p < eI ((l.getD i z3).1, (l.getD i z3).2.1 + 1, 2 * (l.getD i z3).2.2 + 0)
      · exact lvP_eq hs (z := ((l.getD i z3).1, (l.getD i z3).2.1 + 1, 2 * (l.getD i z3).2.2 + 0)) (by simp [splitL]) (by omega) e
      · exact lvP_eq hs (z := ((l.getD i z3).1, (l.getD i z3).2.1 + 1, 2 * (l.getD i z3).2.2 + 1)) (by simp [splitL]) (by omega) (by omega)
    · obtain ⟨j, j1, j2, j3⟩ := mesh_cov hm (p := p) (by omega) (by omega)
      rw [lvP_eq hm (getD_mem j1) j2 j3]
      exact hf _ (getD_mem j1) p a b j2 j3
  refine mu_lt (q := sI (l.getD i z3)) (fun p p0 p1 => ?_) hx.1 (by omega) ?_
  · obtain ⟨j, j1, j2, j3⟩ := mesh_cov hl p0 p1
    rcases mem_split hi (getD_mem (d := z3) j1) with h | h
    · rw [h] at j2 j3
      have := inn p j2 j3
      omega
    · rw [lvP_eq hs h j2 j3, lvP_eq hl (getD_mem j1) j2 j3]
      exact Nat.le_refl _
  · have := inn (sI (l.getD i z3)) (Int.le_refl _) hx.2.2
    omega
theorem mu_mrg {r : Int} {m l : List Id3} {i : Nat} {y : Id3} (hm : meshB r m = true) (hl : meshB r l = true) (hi : i + 1 < l.length) (hs : sibB (l.getD i z3) (l.getD (i + 1) z3) = true) (hy : y ∈ m) (hc : contB y (parL (l.getD i z3)) = true) : muR r m (mrgL l i) < muR r m l := by
  have hk := mrg_mesh hl hi hs
  have mi : l.getD i z3 ∈ l := getD_mem (by omega)
  have mj : l.getD (i + 1) z3 ∈ l := getD_mem hi
  have hx := mem_rng hl mi
  obtain ⟨ix, g1, g2, g3, g4, g5, g6, g7, g8, g9⟩ := sib_geo hs
  obtain ⟨c1, c2, c3, c4, c5⟩ := child_geo g6 g7
  rw [Int.sub_add_cancel] at c1 c2 c3 c4 c5
  rw [← g2] at c1 c3 c4
  rw [← g3] at c2 c4 c5
  have e0 : sI (l.getD i z3) = sI (parL (l.getD i z3)) := by rw [g1]; exact c3
  have e1 : eI (l.getD i z3) = sI (l.getD (i + 1) z3) := by show enI _ _ _ = stI _ _ _; rw [g4, g5]; exact c4
  have e2 : eI (l.getD (i + 1) z3) = eI (parL (l.getD i z3)) := by rw [g1]; show enI _ _ _ = enI _ _ _; rw [g4, g5]; exact c5
  have yr := cont_rng hc
  obtain ⟨_, _, _, y4, _⟩ := contT hc
  have hpl : (parL (l.getD i z3)).2.1 = (l.getD i z3).2.1 - 1 := rfl
  have pm : parL (l.getD i z3) ∈ mrgL l i := by simp [mrgL]
  have inn : ∀ p, sI (parL (l.getD i z3)) ≤ p → p < eI (parL (l.getD i z3)) → lvP (mrgL l i) p = (l.getD i z3).2.1 - 1 ∧ lvP l p = (l.getD i z3).2.1 ∧ lvP m p ≤ (l.getD i z3).2.1 - 1 := by
    intro p a b
    refine ⟨lvP_eq hk pm a b, ?_, ?_⟩
    · by_cases e : p < eI (l.getD i z3)
      · exact lvP_eq hl mi (by omega) e
      · rw [lvP_eq hl mj (by omega) (by omega), g5]
    · rw [lvP_eq hm hy (by omega) (by omega)]
      omega
  refine mu_lt (q := sI (l.getD i z3)) (fun p p0 p1 => ?_) hx.1 (by omega) ?_
  · obtain ⟨j, j1, j2, j3⟩ := mesh_cov hl p0 p1
    have jj := mem_rng hl mj
    rcases mem_mrg hi (getD_mem (d := z3) j1) with h | h | h
    · rw [h] at j2 j3
      have := inn p (by omega) (by omega)
      omega
    · rw [h] at j2 j3
      have := inn p (by omega) (by omega)
      omega
    · rw [lvP_eq hk h j2 j3, lvP_eq hl (getD_mem j1) j2 j3]
      exact Nat.le_refl _
  · have jj := mem_rng hl mj
    have := inn (sI (l.getD i z3)) (by omega) (by omega)
    omega
/-- The first leaf that is no leaf of the other mesh. -/
def stnI (l m : List Id3) : Int := idxR l fun x => decide (ixL m x < 0)
/-- The steps towards another mesh. -/
def rmF (m : List Id3) : Nat → List Id3 → List Int → List Int → List Id3 × List Int × List Int
  | 0, l, ms, ts => (l, ms, ts)
  | f + 1, l, ms, ts => if stnI l m < 0 then (l, ms, ts) else if outI m (l.getD (stnI l m).toNat z3) < 0 then rmF m f (splitL l (stnI l m).toNat) (splM ms (stnI l m).toNat) (splT ms ts (stnI l m).toNat) else rmF m f (mrgL l (dpI l (m.getD (outI m (l.getD (stnI l m).toNat z3)).toNat z3)).toNat) (mrgI ms (dpI l (m.getD (outI m (l.getD (stnI l m).toNat z3)).toNat z3)).toNat) (mrgI ts (dpI l (m.getD (outI m (l.getD (stnI l m).toNat z3)).toNat z3)).toNat)
def rmR (r : Int) (m l : List Id3) (ms ts : List Int) : List Id3 × List Int × List Int := rmF m (muR r m l) l ms ts
theorem ixL_mem {l : List Id3} {x : Id3} : ixL l x < 0 ↔ x ∉ l := by
  constructor
  · intro h hx
    obtain ⟨i, i1, i2⟩ := mem_ix hx
    exact ixL_neg (by omega) i1 i2
  · intro h
    by_cases c : 0 ≤ ixL l x
    · obtain ⟨k, _, k2, k3⟩ := ixL_pos c
      exact absurd (k3 ▸ getD_mem k2) h
    · omega
/-- A step. -/
theorem rm_next {r : Int} {m l : List Id3} (hm : meshB r m = true) (hl : meshB r l = true) (h : 0 ≤ stnI l m) : ∃ i : Nat, stnI l m = i ∧ i < l.length ∧
    ((wthB m (l.getD i z3) = true ∧ outI m (l.getD i z3) < 0 ∧ (l.getD i z3).2.1 ≠ 4 ∧ muR r m (splitL l i) < muR r m l ∧ meshB r (splitL l i) = true) ∨
     (wthB m (l.getD i z3) = false ∧ ∃ k d : Nat, outI m (l.getD i z3) = k ∧ k < m.length ∧ dpI l (m.getD k z3) = d ∧ d + 1 < l.length ∧ sibB (l.getD d z3) (l.getD (d + 1) z3) = true ∧ muR r m (mrgL l d) < muR r m l ∧ meshB r (mrgL l d) = true)) := by
  obtain ⟨i, i1, i2, i3⟩ := idxR_pos (idxR_nn h)
  rw [decide_eq_true_eq, ixL_mem] at i3
  refine ⟨i, i1, i2, ?_⟩
  rcases rm_cases hm hl (getD_mem i2) i3 with ⟨a, b, c, d⟩ | ⟨a, k, k1, k2, k3, k4⟩
  · exact .inl ⟨a, b, c, mu_split hm hl i2 c d, split_mesh hl i2 c⟩
  · obtain ⟨d, d1, d2, d3, d4⟩ := dp_sib hl (getD_mem i2) k3 k4 (mem_rng hm (getD_mem k2)).2.1
    exact .inr ⟨a, k, d, k1, k2, d1, d2, d3, mu_mrg hm hl d2 d3 (getD_mem k2) d4, mrg_mesh hl d2 d3⟩
theorem rmF_fuel {r : Int} {m : List Id3} (hm : meshB r m = true) : ∀ (f g : Nat) (l : List Id3) (ms ts : List Int), meshB r l = true → muR r m l ≤ f → muR r m l ≤ g → rmF m f l ms ts = rmF m g l ms ts
  | f, g, l, ms, ts, hl, hf, hg => by
    by_cases h : stnI l m < 0
    · have : ∀ k, rmF m k l ms ts = (l, ms, ts) := fun k => by
        cases k with
        | zero => rfl
        | succ k => rw [rmF, if_pos h]
      rw [this, this]
    · obtain ⟨i, i1, i2, hh⟩ := rm_next hm hl (by omega)
      match f, g with
      | 0, _ => rcases hh with hh | ⟨_, k, d, hh⟩ <;> omega
      | _ + 1, 0 => rcases hh with hh | ⟨_, k, d, hh⟩ <;> omega
      | f + 1, g + 1 =>
        rw [rmF, rmF, if_neg h, if_neg h]
        simp only [i1, Int.toNat_natCast]
        rcases hh with ⟨a, b, c, e, e'⟩ | ⟨a, k, d, k1, k2, d1, d2, d3, e, e'⟩
        · rw [if_pos b, if_pos b]
          exact rmF_fuel hm f g _ _ _ e' (by omega) (by omega)
        · rw [if_neg (by omega), if_neg (by omega)]
          simp only [k1, Int.toNat_natCast, d1]
          exact rmF_fuel hm f g _ _ _ e' (by omega) (by omega)
theorem rm_end {r : Int} {m l : List Id3} {ms ts : List Int} (h : stnI l m < 0) : rmR r m l ms ts = (l, ms, ts) := by
  unfold rmR
  cases muR r m l with
  | zero => rfl
  | succ k => rw [rmF, if_pos h]
theorem rm_step {r : Int} {m l : List Id3} {ms ts bs : List Int} (hm : meshB r m = true) (hl : meshB r l = true) (hC : celB r l ms ts bs = true) (h : 0 ≤ stnI l m) : ∃ i : Nat, stnI l m = i ∧ i < l.length ∧
    ((wthB m (l.getD i z3) = true ∧ outI m (l.getD i z3) < 0 ∧ (l.getD i z3).2.1 ≠ 4 ∧ muR r m (splitL l i) < muR r m l ∧ meshB r (splitL l i) = true ∧ celB r (splitL l i) (splM ms i) (splT ms ts i) bs = true ∧ rmR r m l ms ts = rmR r m (splitL l i) (splM ms i) (splT ms ts i)) ∨
     (wthB m (l.getD i z3) = false ∧ ∃ k d : Nat, outI m (l.getD i z3) = k ∧ k < m.length ∧ dpI l (m.getD k z3) = d ∧ d + 1 < l.length ∧ sibB (l.getD d z3) (l.getD (d + 1) z3) = true ∧ muR r m (mrgL l d) < muR r m l ∧ meshB r (mrgL l d) = true ∧ celB r (mrgL l d) (mrgI ms d) (mrgI ts d) bs = true ∧ rmR r m l ms ts = rmR r m (mrgL l d) (mrgI ms d) (mrgI ts d))) := by
  obtain ⟨i, i1, i2, hh⟩ := rm_next hm hl h
  have key : ∀ n, muR r m l = n + 1 → rmR r m l ms ts = rmF m (n + 1) l ms ts := fun n hn => by rw [rmR, hn]
  refine ⟨i, i1, i2, ?_⟩
  rcases hh with ⟨a, b, c, e, e'⟩ | ⟨a, k, d, k1, k2, d1, d2, d3, e, e'⟩
  · refine .inl ⟨a, b, c, e, e', spl_cel hC i2, ?_⟩
    rw [key (muR r m l - 1) (by omega), rmF, if_neg (by omega)]
    simp only [i1, Int.toNat_natCast]
    rw [if_pos b]
    exact rmF_fuel hm _ _ _ _ _ e' (by omega) (Nat.le_refl _)
  · refine .inr ⟨a, k, d, k1, k2, d1, d2, d3, e, e', mrg_cel hC d2, ?_⟩
    rw [key (muR r m l - 1) (by omega), rmF, if_neg (by omega)]
    simp only [i1, Int.toNat_natCast]
    rw [if_neg (by omega)]
    simp only [k1, Int.toNat_natCast, d1]
    exact rmF_fuel hm _ _ _ _ _ e' (by omega) (Nat.le_refl _)

end Go.Proofs.YtaalpmbopkbdiaaGreat
