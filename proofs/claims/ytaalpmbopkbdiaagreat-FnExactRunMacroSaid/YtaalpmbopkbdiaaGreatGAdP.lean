/- What functions of the program compute, said in the abstract logic; no conditions. -/
import Derived.Test.YtaalpmbopkbdiaaGreatGWish
import Derived.Test.YtaalpmbopkbdiaaGreatGMerge
import Derived.Test.YtaalpmbopkbdiaaGreatGCont

namespace Go.Proofs.YtaalpmbopkbdiaaGreat
open Go
set_option linter.unusedSimpArgs false
set_option linter.unusedVariables false
set_option maxRecDepth 100000
set_option maxHeartbeats 8000000
attribute [local go_sem] st0 AC thenA andC locLoadB KsSW_same KsSW_grow oldLoadB noBlkB KsSL_same KsOS_same KsOS_grow pv ev put upd dstOk cv cvc binI setB Value.oneCell' EndA resA resA1 List.mapM_cons List.mapM_nil Option.pure_def Option.bind_eq_bind noLocV noLoc1 noLoc noLocs plainV cellsA newVarA putCells condA lam0 inBlockA cur lenA rowA writeA dstA appendC appendZ mapPut mapGet avoidsB avoidB clearB Array.toList_append Op.operands Call.operands newSlot Nat.zero_add Nat.add_zero Nat.succ_ne_self Nat.lt_add_one Nat.zero_lt_succ true_and and_true true_or or_true false_or or_false and_self true_implies forall_const Bool.false_eq_true Bool.true_eq_false false_implies implies_true imp_self ne_eq not_false_eq_true not_true_eq_false false_and and_false List.getElem?_toArray List.getElem?_cons_succ List.getElem?_cons_zero Option.bind_some Option.map_some Bool.not_true Bool.not_false List.getD_cons_zero List.getD_cons_succ Option.some.injEq exists_eq_left' AV.bool.injEq List.map_cons List.map_nil List.all_cons List.all_nil Bool.and_self Bool.and_true Bool.true_and List.append_nil List.cons_append List.nil_append List.length_cons List.length_nil List.drop_zero List.take_zero List.drop_succ_cons List.take_succ_cons List.take_nil List.drop_nil List.not_mem_nil List.mem_cons List.contains_nil List.contains_cons Bool.or_self Bool.or_true Bool.true_or Bool.false_or Bool.or_false Bool.and_false Bool.false_and KsS_same KsS_grow skipV KsS_ext KsSW_ext KsOS_ext rep1 rep2 rep3 rep4 rep5 List.flatten_cons List.flatten_nil partsA isPtr fillA List.size_toArray ltT ltF leT leF ltTn ltFn leTn leFn eqTi eqFi wrapId toNat1 intGet boolGet memD app_get app_last app_lst app_set app_setL app_setF set_ne set_eq gt_iff_lt ge_iff_le decide_eq_true_eq len2 len3 get20 get21 drop2 put2 get30 get31 get32 drop3 put3 putI pairEta bneTi bneFi beqTi beqFi bne_eq_false_iff_eq beq_eq_false_iff_ne beq_iff_eq bne_iff_ne Int.toNat_natCast Nat.mul_one List.length_map Bool.not_eq_true Bool.not_eq_false Bool.decide_eq_true decide_true decide_false Bool.not_eq_true' Bool.not_eq_false' decide_eq_false_iff_not eq_self Decidable.not_not
attribute [local go_sem ↓] skipC exitC retC seqC blockC condC regC drawC drawStep AOpC AOpF AOpE AEff contE_at contC_at keepC_at keepW_at keepO_at keepL_at map_parts
attribute [local go_sem] reduceCtorEq Nat.reduceLT Nat.reduceEqDiff Nat.reduceAdd Nat.reduceMul Nat.reduceLeDiff Nat.reduceSub Nat.reduceBEq Nat.reduceBNe Nat.reduceBneDiff Nat.reduceBeqDiff
attribute [local go_sem ↓] reduceIte
/-- Neighbours differ by one level at most. -/
theorem unb_iff (l : List Id3) : unbI l < 0 ↔ ∀ j, j + 1 < l.length → gapB l j = false := by
  constructor
  · intro h j hj
    cases hg : gapB l j
    · rfl
    · unfold unbI firstI at h
      cases hf : (List.range (l.length - 1)).find? (gapB l) with
      | none =>
        rw [List.find?_eq_none] at hf
        exact absurd hg (hf j (List.mem_range.2 (by omega)))
      | some k => rw [hf] at h; simp at h; omega
  · intro h
    unfold unbI
    rw [first_none]
    · omega
    · rw [List.all_eq_true]
      intro j hj
      rw [List.mem_range] at hj
      rw [h j (by omega)]
      rfl
theorem gap_f {l : List Id3} {j : Nat} : gapB l j = false ↔ lvD l j - lvD l (j + 1) ≤ 1 ∧ lvD l (j + 1) - lvD l j ≤ 1 := by
  unfold gapB
  constructor
  · intro h
    simp only [Bool.or_eq_false_iff, decide_eq_false_iff_not] at h
    omega
  · intro h
    simp only [Bool.or_eq_false_iff, decide_eq_false_iff_not]
    omega
theorem lvD_mrg {l : List Id3} {i : Nat} (hi : i + 1 < l.length) (j : Nat) : lvD (mrgL l i) j = if j < i then lvD l j else if j = i then lvD l i - 1 else lvD l (j + 1) := by
  have h := mrgL_at hi j
  unfold lvD
  have e : ∀ k, l.getD k (0, 0, 0) = l.getD k z3 := fun _ => rfl
  rw [show (mrgL l i).getD j (0, 0, 0) = (mrgL l i).getD j z3 from rfl, h]
  split
  · rfl
  · split <;> rfl
theorem mrg_bal {l : List Id3} {i : Nat} (hu : unbI l < 0) (hi : i + 1 < l.length) (hm : mayC l i = true) : unbI (mrgL l i) < 0 := by
  rw [unb_iff] at hu ⊢
  have hn := mrgL_len hi
  simp only [mayC, Bool.and_eq_true, Bool.or_eq_true, decide_eq_true_eq] at hm
  obtain ⟨hs, h1, h2⟩ := hm
  have hlv : lvD l (i + 1) = lvD l i := by
    obtain ⟨_, _, _, h4, _⟩ := sib_t hs
    exact h4.symm
  intro j hj
  rw [gap_f, lvD_mrg hi, lvD_mrg hi]
  by_cases c1 : j + 1 < i
  · rw [if_pos (by omega), if_pos c1]
    exact gap_f.1 (hu j (by omega))
  · by_cases c2 : j + 1 = i
    · subst c2
      rw [if_pos (by omega), if_neg (by omega), if_pos rfl]
      have := gap_f.1 (hu j (by omega))
      rw [Nat.add_sub_cancel] at h1
      omega
    · by_cases c3 : j = i
      · subst c3
        rw [if_neg (by omega), if_pos rfl, if_neg (by omega), if_neg (by omega)]
        have := gap_f.1 (hu (j + 1) (by omega))
        rw [show j + 1 + 1 = j + 2 by omega] at this ⊢
        omega
      · rw [if_neg (by omega), if_neg c3, if_neg (by omega), if_neg (by omega)]
        exact gap_f.1 (hu (j + 1) (by omega))
/-- Leaves that wished to be finer are refined, from the last one on. -/
def rfF (ws : List Int) (l : List Id3) (ms ts : List Int) : Nat → List Id3 × List Int × List Int
  | 0 => (l, ms, ts)
  | k + 1 => if ws.getD (l.length - 1 - k) 0 = 1 then (splitL (rfF ws l ms ts k).1 (l.length - 1 - k), splM (rfF ws l ms ts k).2.1 (l.length - 1 - k), splT (rfF ws l ms ts k).2.1 (rfF ws l ms ts k).2.2 (l.length - 1 - k)) else rfF ws l ms ts k
theorem take_split {l : List Id3} {i k : Nat} (h : k ≤ i) (hi : i < l.length) : (splitL l i).take k = l.take k := by
  unfold splitL
  rw [List.append_assoc, List.take_append_of_le_length (by simp; omega), List.take_take, Nat.min_eq_left h]
theorem take_getD {l m : List Id3} {n i : Nat} (h : m.take n = l.take n) (hi : i < n) : m.getD i z3 = l.getD i z3 := by
  have := congrArg (fun x : List Id3 => x[i]?) h
  simp only [List.getElem?_take, if_pos hi] at this
  rw [List.getD_eq_getElem?_getD, List.getD_eq_getElem?_getD, this]
theorem rfF_ok {r : Int} {ws : List Int} {l : List Id3} {ms ts bs : List Int} (hM : meshB r l = true) (hC : celB r l ms ts bs = true) (hw : ∀ j, j < l.length → ws.getD j 0 = 1 → (l.getD j z3).2.1 ≠ 4) : ∀ k, k ≤ l.length →
    meshB r (rfF ws l ms ts k).1 = true ∧ celB r (rfF ws l ms ts k).1 (rfF ws l ms ts k).2.1 (rfF ws l ms ts k).2.2 bs = true ∧ l.length ≤ (rfF ws l ms ts k).1.length ∧ (rfF ws l ms ts k).1.take (l.length - k) = l.take (l.length - k)
  | 0, _ => ⟨hM, hC, Nat.le_refl _, rfl⟩
  | k + 1, hk => by
    obtain ⟨a, b, c, d⟩ := rfF_ok hM hC hw k (by omega)
    rw [rfF]
    by_cases h : ws.getD (l.length - 1 - k) 0 = 1
    · rw [if_pos h]
      have hlt : l.length - 1 - k < (rfF ws l ms ts k).1.length := by omega
      have h4 : ((rfF ws l ms ts k).1.getD (l.length - 1 - k) z3).2.1 ≠ 4 := by
        rw [take_getD d (by omega)]
        exact hw _ (by omega) h
      refine ⟨split_mesh a hlt h4, spl_cel b hlt, by rw [split_len hlt]; omega, ?_⟩
      rw [take_split (by omega) hlt]
      have := congrArg (List.take (l.length - (k + 1))) d
      rwa [List.take_take, List.take_take, Nat.min_eq_left (by omega)] at this
    · rw [if_neg h]
      refine ⟨a, b, c, ?_⟩
      have := congrArg (List.take (l.length - (k + 1))) d
      rwa [List.take_take, List.take_take, Nat.min_eq_left (by omega)] at this
/-- The leaves that wished to be coarser. -/
def coF (ws : List Int) (l : List Id3) (k : Nat) : List Id3 := ((List.range k).filter fun q => decide (ws.getD (l.length - 1 - q) 0 = -1)).map fun q => l.getD (l.length - 1 - q) z3
def coA (ws : List Int) (l : List Id3) : List Id3 := coF ws l l.length
theorem coF_mem {ws : List Int} {l : List Id3} {x : Id3} : x ∈ coA ws l ↔ ∃ j, j < l.length ∧ ws.getD j 0 = -1 ∧ l.getD j z3 = x := by
  unfold coA coF
  simp only [List.mem_map, List.mem_filter, List.mem_range, decide_eq_true_eq]
  constructor
  · rintro ⟨q, ⟨h1, h2⟩, h3⟩
    exact ⟨l.length - 1 - q, by omega, h2, h3⟩
  · rintro ⟨j, h1, h2, h3⟩
    refine ⟨l.length - 1 - j, ⟨by omega, ?_⟩, ?_⟩
    · rw [show l.length - 1 - (l.length - 1 - j) = j by omega]; exact h2
    · rw [show l.length - 1 - (l.length - 1 - j) = j by omega]; exact h3
/-- Pairs that wished it are made one, from the first one on. -/
def cdA (C l : List Id3) (i : Nat) : Bool := decide (l.getD i z3 ∈ C) && (decide (l.getD (i + 1) z3 ∈ C) && mayC l i)
def mgA (C : List Id3) : Nat → Nat → List Id3 → List Int → List Int → List Id3 × List Int × List Int
  | 0, _, l, ms, ts => (l, ms, ts)
  | f + 1, i, l, ms, ts => if i + 1 < l.length then (if cdA C l i = true then mgA C f (i + 1) (mrgL l i) (mrgI ms i) (mrgI ts i) else mgA C f (i + 1) l ms ts) else (l, ms, ts)
def mgR (C : List Id3) (i : Nat) (l : List Id3) (ms ts : List Int) : List Id3 × List Int × List Int := mgA C (l.length - i) i l ms ts
theorem mgA_fuel (C : List Id3) : ∀ (f g i : Nat) (l : List Id3) (ms ts : List Int), l.length - i ≤ f → l.length - i ≤ g → mgA C f i l ms ts = mgA C g i l ms ts
  | 0, 0, _, _, _, _, _, _ => rfl
  | 0, g + 1, i, l, ms, ts, h1, _ => by rw [mgA, mgA, if_neg (by omega)]
  | f + 1, 0, i, l, ms, ts, _, h2 => by rw [mgA, mgA, if_neg (by omega)]
  | f + 1, g + 1, i, l, ms, ts, h1, h2 => by
    rw [mgA, mgA]
    split
    · rename_i h
      split
      · have := mrgL_len h
        exact mgA_fuel C f g (i + 1) _ _ _ (by omega) (by omega)
      · exact mgA_fuel C f g (i + 1) _ _ _ (by omega) (by omega)
    · rfl
theorem mgR_end {C l : List Id3} {i : Nat} {ms ts : List Int} (h : ¬ i + 1 < l.length) : mgR C i l ms ts = (l, ms, ts) := by
  unfold mgR
  cases l.length - i with
  | zero => rfl
  | succ n => rw [mgA, if_neg h]
theorem mgR_step {C l : List Id3} {i : Nat} {ms ts : List Int} (h : i + 1 < l.length) : mgR C i l ms ts = if cdA C l i = true then mgR C (i + 1) (mrgL l i) (mrgI ms i) (mrgI ts i) else mgR C (i + 1) l ms ts := by
  have hl := mrgL_len h
  unfold mgR
  rw [show l.length - i = (l.length - i - 1) + 1 by omega, mgA, if_pos h]
  split
  · exact mgA_fuel _ _ _ _ _ _ _ (by omega) (by omega)
  · exact mgA_fuel _ _ _ _ _ _ _ (by omega) (by omega)
theorem mgA_ok {r : Int} {C : List Id3} {bs : List Int} : ∀ (f i : Nat) {l : List Id3} {ms ts : List Int}, okB r l ms ts bs = true → okB r (mgA C f i l ms ts).1 (mgA C f i l ms ts).2.1 (mgA C f i l ms ts).2.2 bs = true
  | 0, _, l, ms, ts, h => h
  | f + 1, i, l, ms, ts, h => by
    rw [mgA]
    split
    · rename_i hi
      split
      · rename_i hc
        have h' := h
        simp only [okB, balB, Bool.and_eq_true, decide_eq_true_eq] at h
        simp only [cdA, Bool.and_eq_true] at hc
        have hm := hc.2.2
        have hs : sibB (l.getD i z3) (l.getD (i + 1) z3) = true := by simp only [mayC, Bool.and_eq_true] at hm; exact hm.1
        refine mgA_ok f (i + 1) ?_
        simp only [okB, balB, Bool.and_eq_true, decide_eq_true_eq]
        exact ⟨⟨mrg_mesh h.1.1 hi hs, mrg_bal h.1.2 hi hm⟩, mrg_cel h.2 hi⟩
      · exact mgA_ok f (i + 1) h
    · exact h
/-- What a state is adapted to. -/
def adW (l : List Id3) (ms bs : List Int) (hi lo : Int) : List Int := wshN l ms bs hi lo l.length
def adB (l : List Id3) (ms ts bs : List Int) (hi lo : Int) : List Id3 × List Int × List Int := lvlR (rfF (adW l ms bs hi lo) l ms ts l.length).1 (rfF (adW l ms bs hi lo) l ms ts l.length).2.1 (rfF (adW l ms bs hi lo) l ms ts l.length).2.2
def adR (l : List Id3) (ms ts bs : List Int) (hi lo : Int) : List Id3 × List Int × List Int := mgR (coA (adW l ms bs hi lo) l) 0 (adB l ms ts bs hi lo).1 (adB l ms ts bs hi lo).2.1 (adB l ms ts bs hi lo).2.2
theorem adW_at {l : List Id3} {ms bs : List Int} {hi lo : Int} {j : Nat} (h : j < l.length) : (adW l ms bs hi lo).getD j 0 = wshI l ms bs hi lo j := by
  simp [adW, wshN, List.getD_eq_getElem?_getD, List.getElem?_map, List.getElem?_range h]
theorem adW_4 {l : List Id3} {ms bs : List Int} {hi lo : Int} {j : Nat} (h : j < l.length) (h1 : (adW l ms bs hi lo).getD j 0 = 1) : (l.getD j z3).2.1 ≠ 4 := by
  rw [adW_at h, wshI] at h1
  split at h1
  · rename_i hc
    intro e
    have : (l.getD j (0, 0, 0)).2.1 = 4 := e
    omega
  · split at h1 <;> cases h1
theorem adB_ok {r : Int} {l : List Id3} {ms ts bs : List Int} {hi lo : Int} (h : okB r l ms ts bs = true) : okB r (adB l ms ts bs hi lo).1 (adB l ms ts bs hi lo).2.1 (adB l ms ts bs hi lo).2.2 bs = true := by
  have h' := h
  simp only [okB, balB, Bool.and_eq_true] at h'
  obtain ⟨a, b, _, _⟩ := rfF_ok (ws := adW l ms bs hi lo) h'.1.1 h'.2 (fun j hj h1 => adW_4 hj h1) l.length (Nat.le_refl _)
  exact (lvlR_ok _ rfl a b).1
theorem adR_ok {r : Int} {l : List Id3} {ms ts bs : List Int} {hi lo : Int} (h : okB r l ms ts bs = true) : okB r (adR l ms ts bs hi lo).1 (adR l ms ts bs hi lo).2.1 (adR l ms ts bs hi lo).2.2 bs = true := mgA_ok _ _ (adB_ok h)
/-- The places where the leaves of a mesh start. -/
theorem meshAt_pos : ∀ (l : List Id3) (a b : Int), meshAt a l = some b → ∃ P : Nat → Int, P 0 = a ∧ P l.length = b ∧ ∀ i, i < l.length → stI (l.getD i z3).1 (l.getD i z3).2.1 (l.getD i z3).2.2 = P i ∧ enI (l.getD i z3).1 (l.getD i z3).2.1 (l.getD i z3).2.2 = P (i + 1) ∧ P i < P (i + 1)
  | [], a, b, h => ⟨fun _ => a, rfl, by simp only [meshAt, Option.some.injEq] at h; exact h, fun i hi => absurd hi (Nat.not_lt_zero i)⟩
  | x :: l, a, b, h => by
    simp only [meshAt] at h
    split at h
    · rename_i hx
      obtain ⟨P, p0, p1, p2⟩ := meshAt_pos l _ _ h
      have hb := id_bd (r := x.1) (lv := x.2.1) (ix := x.2.2) hx.1
      refine ⟨fun k => match k with | 0 => a | k + 1 => P k, rfl, p1, fun i hi => ?_⟩
      cases i with
      | zero =>
        refine ⟨hx.2, p0.symm, ?_⟩
        show a < P 0
        rw [p0, enI, hx.2]; omega
      | succ i => exact p2 i (by simpa using hi)
    · cases h
theorem mesh_pos {r : Int} {l : List Id3} (h : meshB r l = true) : ∃ P : Nat → Int, P 0 = 0 ∧ P l.length = r * 16 ∧ ∀ i, i < l.length → stI (l.getD i z3).1 (l.getD i z3).2.1 (l.getD i z3).2.2 = P i ∧ enI (l.getD i z3).1 (l.getD i z3).2.1 (l.getD i z3).2.2 = P (i + 1) ∧ P i < P (i + 1) := by
  unfold meshB at h
  split at h
  · rename_i a ha
    simp only [Bool.and_eq_true, decide_eq_true_eq] at h
    obtain ⟨P, p0, p1, p2⟩ := meshAt_pos l _ _ ha
    exact ⟨P, p0, p1.trans h.2, p2⟩
  · cases h
theorem pos_lt {P : Nat → Int} {n : Nat} (h : ∀ i, i < n → P i < P (i + 1)) : ∀ j i : Nat, j ≤ n → i < j → P i < P j
  | 0, _, _, hi => absurd hi (Nat.not_lt_zero _)
  | j + 1, i, hj, hi => by
    have h1 := h j (by omega)
    by_cases e : i = j
    · subst e; exact h1
    · have := pos_lt h j i (by omega) (by omega)
      omega
theorem leaf_inj {r : Int} {l : List Id3} (h : meshB r l = true) {i j : Nat} (hi : i < l.length) (hj : j < l.length) (he : l.getD i z3 = l.getD j z3) : i = j := by
  obtain ⟨P, _, _, p2⟩ := mesh_pos h
  have hs : ∀ k, k < l.length → P k < P (k + 1) := fun k hk => (p2 k hk).2.2
  have a1 := (p2 i hi).1
  have a2 := (p2 j hj).1
  rw [he, a2] at a1
  by_cases c1 : i < j
  · have := pos_lt hs j i (by omega) c1; omega
  · by_cases c2 : j < i
    · have := pos_lt hs i j (by omega) c2; omega
    · omega
/-- The place of a leaf. -/
def ixL (l : List Id3) (x : Id3) : Int := idxR l fun y => decide (y = x)
theorem ixL_pos {l : List Id3} {x : Id3} (h : 0 ≤ ixL l x) : ∃ k : Nat, ixL l x = k ∧ k < l.length ∧ l.getD k z3 = x := by
  unfold ixL idxR at h ⊢
  split at h
  · rename_i k hk
    rw [List.findIdx?_eq_some_iff_getElem] at hk
    obtain ⟨h1, h2, _⟩ := hk
    refine ⟨k, rfl, h1, ?_⟩
    rw [List.getD_eq_getElem?_getD, List.getElem?_eq_getElem h1]
    exact of_decide_eq_true h2
  · omega
theorem ixL_neg {l : List Id3} {x : Id3} (h : ¬ 0 ≤ ixL l x) {k : Nat} (hk : k < l.length) : l.getD k z3 ≠ x := by
  intro e
  unfold ixL idxR at h
  split at h
  · omega
  · rename_i hn
    rw [List.findIdx?_eq_none_iff] at hn
    have := hn _ (getD_mem (d := z3) hk)
    rw [decide_eq_false_iff_not] at this
    exact this e
theorem ixL_coA {r : Int} {l : List Id3} {ws : List Int} {x : Id3} (h : meshB r l = true) : x ∈ coA ws l ↔ 0 ≤ ixL l x ∧ ws.getD (ixL l x).toNat 0 = -1 := by
  rw [coF_mem]
  constructor
  · rintro ⟨j, h1, h2, h3⟩
    by_cases h4 : 0 ≤ ixL l x
    · obtain ⟨k, e1, e2, e3⟩ := ixL_pos h4
      have : k = j := leaf_inj h e2 h1 (e3.trans h3.symm)
      rw [e1, Int.toNat_natCast, this]
      exact ⟨by omega, h2⟩
    · exact absurd h3 (ixL_neg h4 h1)
  · rintro ⟨h1, h2⟩
    obtain ⟨k, e1, e2, e3⟩ := ixL_pos h1
    rw [e1, Int.toNat_natCast] at h2
    exact ⟨k, e2, h2, e3⟩
theorem cdA_ix {r : Int} {l0 l : List Id3} {ws : List Int} {i : Nat} (h : meshB r l0 = true) : cdA (coA ws l0) l i = (decide (0 ≤ ixL l0 (l.getD i z3)) && (decide (0 ≤ ixL l0 (l.getD (i + 1) z3)) && (decide (ws.getD (ixL l0 (l.getD i z3)).toNat 0 = -1) && (decide (ws.getD (ixL l0 (l.getD (i + 1) z3)).toNat 0 = -1) && mayC l i)))) := by
  rw [cdA, decide_eq_decide.2 (ixL_coA h), decide_eq_decide.2 (ixL_coA (x := l.getD (i + 1) z3) h), Bool.decide_and, Bool.decide_and]
  cases decide (0 ≤ ixL l0 (l.getD i z3)) <;> cases decide (0 ≤ ixL l0 (l.getD (i + 1) z3)) <;> cases decide (ws.getD (ixL l0 (l.getD i z3)).toNat 0 = -1) <;> cases decide (ws.getD (ixL l0 (l.getD (i + 1) z3)).toNat 0 = -1) <;> rfl
theorem cdA_ext {C D l : List Id3} {i : Nat} (h : ∀ x, x ∈ C ↔ x ∈ D) : cdA C l i = cdA D l i := by
  rw [cdA, cdA, decide_eq_decide.2 (h _), decide_eq_decide.2 (h (l.getD (i + 1) z3))]
theorem coF_step {ws : List Int} {l C : List Id3} {k : Nat} (h : ∀ x, x ∈ C ↔ x ∈ coF ws l k) : ∀ x, x ∈ (if ws.getD (l.length - 1 - k) 0 = -1 then (if l.getD (l.length - 1 - k) z3 ∈ C then C else C ++ [l.getD (l.length - 1 - k) z3]) else C) ↔ x ∈ coF ws l (k + 1) := by
  intro x
  have e : coF ws l (k + 1) = coF ws l k ++ (if ws.getD (l.length - 1 - k) 0 = -1 then [l.getD (l.length - 1 - k) z3] else []) := by
    unfold coF
    rw [List.range_succ, List.filter_append, List.map_append]
    congr 1
    by_cases c : ws.getD (l.length - 1 - k) 0 = -1
    · rw [if_pos c, List.filter_cons_of_pos (by rw [decide_eq_true_eq]; exact c)]; rfl
    · rw [if_neg c, List.filter_cons_of_neg (by rw [decide_eq_true_eq]; exact c)]; rfl
  rw [e, List.mem_append, ← h x]
  by_cases c : ws.getD (l.length - 1 - k) 0 = -1
  · rw [if_pos c, if_pos c]
    by_cases d : l.getD (l.length - 1 - k) z3 ∈ C
    · rw [if_pos d]
      constructor
      · exact .inl
      · rintro (h | h)
        · exact h
        · rw [List.mem_singleton] at h; rw [h]; exact d
    · rw [if_neg d, List.mem_append]
  · rw [if_neg c, if_neg c]
    simp
theorem rfF_4 {r : Int} {ws : List Int} {l : List Id3} {ms ts bs : List Int} (hM : meshB r l = true) (hC : celB r l ms ts bs = true) (hw : ∀ j, j < l.length → ws.getD j 0 = 1 → (l.getD j z3).2.1 ≠ 4) {k : Nat} (hk : k < l.length) : (rfF ws l ms ts k).1.getD (l.length - 1 - k) z3 = l.getD (l.length - 1 - k) z3 := by
  obtain ⟨_, _, _, d⟩ := rfF_ok hM hC hw k (by omega)
  exact take_getD d (by omega)
/-- Keys of a map: addresses. -/
def kV (x : Id3) : AV := .agg (enc3 x)
theorem eqK_kV (x y : Id3) : eqK (kV x) (kV y) = decide (x = y) := by
  obtain ⟨a, b, c⟩ := x
  obtain ⟨d, e, f⟩ := y
  by_cases h : (a, b, c) = (d, e, f)
  · rw [decide_eq_true h]
    simp only [Prod.mk.injEq] at h
    obtain ⟨rfl, rfl, rfl⟩ := h
    simp [eqK, kV, enc3, intsOf, sameInts]
  · rw [decide_eq_false h]
    simp only [Prod.mk.injEq] at h
    simp [eqK, kV, enc3, intsOf, sameInts]
    omega
theorem hasK_kV (C : List Id3) (x : Id3) : hasK (C.map kV) (kV x) = decide (x ∈ C) := by
  unfold hasK
  induction C with
  | nil => rfl
  | cons y C ih =>
    rw [List.map_cons, List.any_cons, ih, eqK_kV]
    by_cases h : x = y
    · subst h; simp
    · simp [h]
theorem addK_kV (C : List Id3) (x : Id3) : addK (C.map kV) (kV x) = (if x ∈ C then C else C ++ [x]).map kV := by
  unfold addK
  rw [hasK_kV]
  by_cases h : x ∈ C
  · rw [decide_eq_true h, if_pos rfl, if_pos h]
  · rw [decide_eq_false h, if_neg Bool.false_ne_true, if_neg h, List.map_append, List.map_cons, List.map_nil]
theorem keyOk_kV (C : List Id3) (a b c : Int) : keyOk 3 (C.map kV) [.int .i64 a, .int .i64 b, .int .i64 c] = true := by
  simp [keyOk, intsOf, kV, enc3]
theorem hasK_3 (C : List Id3) (a b c : Int) : hasK (C.map kV) (.agg [.int .i64 a, .int .i64 b, .int .i64 c]) = decide ((a, b, c) ∈ C) := hasK_kV C (a, b, c)
theorem addK_3 (C : List Id3) (a b c : Int) : addK (C.map kV) (.agg [.int .i64 a, .int .i64 b, .int .i64 c]) = (if (a, b, c) ∈ C then C else C ++ [(a, b, c)]).map kV := addK_kV C (a, b, c)
theorem mrg_ok {r : Int} {l : List Id3} {ms ts bs : List Int} {i : Nat} (h : okB r l ms ts bs = true) (hi : i + 1 < l.length) (hm : mayC l i = true) : okB r (mrgL l i) (mrgI ms i) (mrgI ts i) bs = true := by
  simp only [okB, balB, Bool.and_eq_true, decide_eq_true_eq] at h
  have hs : sibB (l.getD i z3) (l.getD (i + 1) z3) = true := by simp only [mayC, Bool.and_eq_true] at hm; exact hm.1
  simp only [okB, balB, Bool.and_eq_true, decide_eq_true_eq]
  exact ⟨⟨mrg_mesh h.1.1 hi hs, mrg_bal h.1.2 hi hm⟩, mrg_cel h.2 hi⟩
theorem may_par {l : List Id3} {i : Nat} (hm : mayC l i = true) : parB (l.getD i z3) = true := by
  have hs : sibB (l.getD i z3) (l.getD (i + 1) z3) = true := by simp only [mayC, Bool.and_eq_true] at hm; exact hm.1
  exact (sib_par hs).1
theorem mgA_ext {C D : List Id3} (h : ∀ x, x ∈ C ↔ x ∈ D) : ∀ (f i : Nat) (l : List Id3) (ms ts : List Int), mgA C f i l ms ts = mgA D f i l ms ts
  | 0, _, _, _, _ => rfl
  | f + 1, i, l, ms, ts => by
    rw [mgA, mgA, cdA_ext h]
    split
    · split
      · exact mgA_ext h f _ _ _ _
      · exact mgA_ext h f _ _ _ _
    · rfl
theorem mgR_ext {C D : List Id3} (h : ∀ x, x ∈ C ↔ x ∈ D) (i : Nat) (l : List Id3) (ms ts : List Int) : mgR C i l ms ts = mgR D i l ms ts := mgA_ext h _ _ _ _ _

end Go.Proofs.YtaalpmbopkbdiaaGreat
