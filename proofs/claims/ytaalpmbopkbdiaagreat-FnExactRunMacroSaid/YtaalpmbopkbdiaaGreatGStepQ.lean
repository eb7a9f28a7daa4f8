/- What functions of the program compute, said in the abstract logic; no conditions. -/
import Derived.Test.YtaalpmbopkbdiaaGreatGMove
import Derived.Test.YtaalpmbopkbdiaaGreatGAct
import Derived.Test.YtaalpmbopkbdiaaGreatGCopy

namespace Go.Proofs.YtaalpmbopkbdiaaGreat
open Go
set_option linter.unusedSimpArgs false
set_option linter.unusedVariables false
set_option maxRecDepth 100000
set_option maxHeartbeats 8000000
attribute [local go_sem] st0 AC thenA andC locLoadB KsSW_same KsSW_grow oldLoadB noBlkB KsSL_same KsOS_same KsOS_grow pv ev put upd dstOk cv cvc binI setB Value.oneCell' EndA resA resA1 List.mapM_cons List.mapM_nil Option.pure_def Option.bind_eq_bind noLocV noLoc1 noLoc noLocs plainV cellsA newVarA putCells condA lam0 inBlockA cur lenA rowA writeA dstA appendC appendZ mapPut mapGet avoidsB avoidB clearB Array.toList_append Op.operands Call.operands newSlot Nat.zero_add Nat.add_zero Nat.succ_ne_self Nat.lt_add_one Nat.zero_lt_succ true_and and_true true_or or_true false_or or_false and_self true_implies forall_const Bool.false_eq_true Bool.true_eq_false false_implies implies_true imp_self ne_eq not_false_eq_true not_true_eq_false false_and and_false List.getElem?_toArray List.getElem?_cons_succ List.getElem?_cons_zero Option.bind_some Option.map_some Bool.not_true Bool.not_false List.getD_cons_zero List.getD_cons_succ Option.some.injEq exists_eq_left' AV.bool.injEq List.map_cons List.map_nil List.all_cons List.all_nil Bool.and_self Bool.and_true Bool.true_and List.append_nil List.cons_append List.nil_append List.length_cons List.length_nil List.drop_zero List.take_zero List.drop_succ_cons List.take_succ_cons List.take_nil List.drop_nil List.not_mem_nil List.mem_cons List.contains_nil List.contains_cons Bool.or_self Bool.or_true Bool.true_or Bool.false_or Bool.or_false Bool.and_false Bool.false_and KsS_same KsS_grow skipV KsS_ext KsSW_ext KsOS_ext rep1 rep2 rep3 rep4 rep5 List.flatten_cons List.flatten_nil partsA isPtr fillA List.size_toArray ltT ltF leT leF ltTn ltFn leTn leFn eqTi eqFi wrapId toNat1 intGet boolGet memD app_get app_last app_lst app_set app_setL app_setF set_ne set_eq gt_iff_lt ge_iff_le decide_eq_true_eq len2 len3 get20 get21 drop2 put2 get30 get31 get32 drop3 put3 putI pairEta bneTi bneFi beqTi beqFi bne_eq_false_iff_eq beq_eq_false_iff_ne beq_iff_eq bne_iff_ne Int.toNat_natCast Nat.mul_one List.length_map Bool.not_eq_true Bool.not_eq_false Bool.decide_eq_true decide_true decide_false Bool.not_eq_true' Bool.not_eq_false' decide_eq_false_iff_not eq_self Decidable.not_not
attribute [local go_sem ↓] skipC exitC retC seqC blockC condC regC drawC drawStep AOpC AOpF AOpE AEff contE_at contC_at keepC_at keepW_at keepO_at keepL_at map_parts
attribute [local go_sem] reduceCtorEq Nat.reduceLT Nat.reduceEqDiff Nat.reduceAdd Nat.reduceMul Nat.reduceLeDiff Nat.reduceSub Nat.reduceBEq Nat.reduceBNe Nat.reduceBneDiff Nat.reduceBeqDiff
attribute [local go_sem ↓] reduceIte
attribute [local go_sem] ag_25 ag_3 ag_32 ag_34 by_25 by_3 by_32 by_34 el_25 en_3 fi_34_0 fi_34_1 fi_34_2 in_3 nf_32 nf_34 pl_32 pl_34 ps_32 ps_34 sz_25 sz_3 sz_32 sz_34 ze_25 ze_3 ze_32 ze_34
theorem act_iff (l : List Id3) (t : Int) : ∀ (n j : Nat), (j : Int) ∈ actN l t n ↔ j < n ∧ actB t (faceI l j) = true
  | 0, j => by simp [actN]
  | n + 1, j => by
    have ih := act_iff l t n j
    rw [actN]
    by_cases h : actB t (faceI l n) = true
    · rw [if_pos h, List.mem_append, ih, List.mem_singleton]
      constructor
      · rintro (h1 | h1)
        · exact ⟨by omega, h1.2⟩
        · obtain rfl : j = n := by omega
          exact ⟨by omega, h⟩
      · rintro ⟨h1, h2⟩
        by_cases e : j = n
        · exact .inr (by omega)
        · exact .inl ⟨by omega, h2⟩
    · rw [if_neg h, ih]
      constructor
      · rintro ⟨h1, h2⟩
        exact ⟨by omega, h2⟩
      · rintro ⟨h1, h2⟩
        refine ⟨?_, h2⟩
        by_cases e : j = n
        · subst e; exact absurd h2 h
        · omega
theorem act_faces {l : List Id3} {t : Int} {n : Nat} (h : n = l.length) : facesB n (actL l t) := by
  intro x hx
  have := act_mem l t _ x hx
  omega
theorem max0 (x : Int) : (if x < 0 then 0 else x) = posP x := by
  unfold posP
  split <;> split <;> omega
/-- Fluxes, and masses, once the faces before i are done. -/
def qF (p : Nat → Int) (i j : Nat) : Int := if j < i then p j else 0
def qM (ms : List Int) (p : Nat → Int) (i j : Nat) : Int := ms.getD j 0 - (if j < i then p j else 0) + (if 0 < j ∧ j - 1 < i then p (j - 1) else 0)
theorem qF_0 (p : Nat → Int) (j : Nat) : qF p 0 j = 0 := by simp [qF]
theorem qM_0 (ms : List Int) (p : Nat → Int) (j : Nat) : qM ms p 0 j = ms.getD j 0 := by simp [qM]
theorem qF_step (p : Nat → Int) (i j : Nat) : (if j = i then p i else qF p i j) = qF p (i + 1) j := by
  unfold qF
  by_cases h : j = i
  · subst h
    rw [if_pos rfl, if_pos (by omega)]
  · have c : (j < i + 1) ↔ j < i := by omega
    rw [if_neg h]
    simp only [c]
theorem qM_step (ms : List Int) (p : Nat → Int) (i j : Nat) : shf (qM ms p i) i (i + 1) (p i) j = qM ms p (i + 1) j := by
  unfold shf qM
  by_cases h : j = i
  · subst h
    have c : (0 < j ∧ j - 1 < j + 1) ↔ (0 < j ∧ j - 1 < j) := by omega
    rw [if_pos rfl, if_neg (Nat.lt_irrefl j), if_pos (show j < j + 1 by omega)]
    simp only [c]
    omega
  · rw [if_neg h]
    by_cases h2 : j = i + 1
    · subst h2
      rw [if_pos rfl, if_neg (show ¬ i + 1 < i by omega), if_neg (show ¬ i + 1 < i + 1 by omega), if_neg (show ¬ (0 < i + 1 ∧ i + 1 - 1 < i) by omega), if_pos (show 0 < i + 1 ∧ i + 1 - 1 < i + 1 by omega), Nat.add_sub_cancel]
      omega
    · rw [if_neg h2]
      have c1 : (j < i + 1) ↔ j < i := by omega
      have c2 : (0 < j ∧ j - 1 < i + 1) ↔ (0 < j ∧ j - 1 < i) := by omega
      simp only [c1, c2]
theorem q_skip {ms : List Int} {p : Nat → Int} {i : Nat} (h : p i = 0) (j : Nat) : qF p i j = qF p (i + 1) j ∧ qM ms p i j = qM ms p (i + 1) j := by
  constructor
  · rw [← qF_step]
    by_cases e : j = i
    · subst e; rw [if_pos rfl, h]; simp [qF]
    · rw [if_neg e]
  · rw [← qM_step, h, shf_0]
theorem qM_bd {ms : List Int} {p : Nat → Int} {X : Int} {m : Nat} (hm : ∀ j, j < m → 0 ≤ ms.getD j 0 ∧ ms.getD j 0 ≤ X) (hp : ∀ j, j < m → -X ≤ p j ∧ p j ≤ X) (i : Nat) {j : Nat} (hj : j < m) (hX : 0 ≤ X) : -(2 * X) ≤ qM ms p i j ∧ qM ms p i j ≤ 3 * X := by
  have a := hm j hj
  unfold qM
  have c1 : -X ≤ (if j < i then p j else 0) ∧ (if j < i then p j else 0) ≤ X := by
    split
    · exact hp j hj
    · omega
  have c2 : -X ≤ (if 0 < j ∧ j - 1 < i then p (j - 1) else 0) ∧ (if 0 < j ∧ j - 1 < i then p (j - 1) else 0) ≤ X := by
    split
    · exact hp _ (by omega)
    · omega
  omega
theorem qF_end {p : Nat → Int} {i m j : Nat} (h : i + 1 = m) (hp : j + 1 = m → p j = 0) (hj : j < m) : qF p i j = p j := by
  unfold qF
  by_cases h2 : j < i
  · rw [if_pos h2]
  · rw [if_neg h2, hp (by omega)]
theorem qM_end {l : List Id3} {ms bs A : List Int} {i m j : Nat} (h : i + 1 = m) (hp : j + 1 = m → phi l ms bs A j = 0) (hj : j < m) : qM ms (phi l ms bs A) i j = stM l ms bs A j := by
  unfold qM stM
  have e1 : (if j < i then phi l ms bs A j else 0) = phi l ms bs A j := qF_end h hp hj
  have c : (0 < j ∧ j - 1 < i) ↔ 0 < j := by omega
  rw [e1]
  simp only [c]
/-- Tracers, once the leaves before i are done. -/
def qT (ts : List Int) (a b : Nat → Int) (i j : Nat) : Int := ts.getD j 0 + dV a b i j
theorem qT_0 (ts : List Int) (a b : Nat → Int) (j : Nat) : qT ts a b 0 j = ts.getD j 0 := by rw [qT, dV_0, Int.add_zero]
theorem qT_step {ts : List Int} {a b : Nat → Int} (h0 : b 0 = 0) (i j : Nat) : qT ts a b (i + 1) j = (if j = i then qT ts a b i i - a i - b i else if j + 1 = i then qT ts a b i j + b i else if j = i + 1 then qT ts a b i j + a i else qT ts a b i j) := by
  unfold qT
  rw [← dV_step h0]
  unfold shf
  by_cases h : j = i
  · subst h
    simp only [if_true]
    omega
  · rw [if_neg h, if_neg h, if_neg h]
    by_cases h2 : j + 1 = i
    · rw [if_pos h2, if_pos (by omega), if_neg (by omega)]
      omega
    · rw [if_neg h2]
      by_cases h3 : j = i - 1
      · have : i = 0 := by omega
        omega
      · rw [if_neg h3]
        split <;> omega
section
variable {ts : List Int} {a b : Nat → Int} {m i : Nat}
theorem qT_a (h0 : b 0 = 0) (ha : a i = 0) (hb : b i = 0) : ((List.range m).map (qT ts a b i)).set i (qT ts a b i i - a i - b i) = (List.range m).map (qT ts a b (i + 1)) := by
  rw [mapSet]
  apply mapEq
  intro j _
  rw [qT_step h0, ha, hb]
  by_cases h : j = i
  · rw [if_pos h, if_pos h]
  · rw [if_neg h, if_neg h]
    split
    · omega
    · split <;> omega
theorem qT_b (h0 : b 0 = 0) (hb : b i = 0) : (((List.range m).map (qT ts a b i)).set i (qT ts a b i i - a i - b i)).set (i + 1) (qT ts a b i (i + 1) + a i) = (List.range m).map (qT ts a b (i + 1)) := by
  rw [mapSet, mapSet]
  apply mapEq
  intro j _
  rw [qT_step h0, hb]
  by_cases h : j = i
  · subst h
    rw [if_neg (by omega), if_pos rfl, if_pos rfl]
  · rw [if_neg h, if_neg h]
    by_cases h2 : j = i + 1
    · subst h2
      rw [if_pos rfl, if_neg (by omega)]
    · rw [if_neg h2, if_neg h2]
      split <;> omega
theorem qT_c (h0 : b 0 = 0) (ha : a i = 0) (hi : 0 < i) : (((List.range m).map (qT ts a b i)).set i (qT ts a b i i - a i - b i)).set (i - 1) (qT ts a b i (i - 1) + b i) = (List.range m).map (qT ts a b (i + 1)) := by
  rw [mapSet, mapSet]
  apply mapEq
  intro j _
  rw [qT_step h0, ha]
  by_cases h : j = i
  · subst h
    rw [if_neg (by omega), if_pos rfl, if_pos rfl]
  · rw [if_neg h, if_neg h]
    by_cases h2 : j = i - 1
    · have h3 : j + 1 = i := by omega
      rw [if_pos h2, if_pos h3, h2]
    · rw [if_neg h2, if_neg (by omega)]
      split <;> omega
theorem qT_d (h0 : b 0 = 0) (hi : 0 < i) : ((((List.range m).map (qT ts a b i)).set i (qT ts a b i i - a i - b i)).set (i + 1) (qT ts a b i (i + 1) + a i)).set (i - 1) (qT ts a b i (i - 1) + b i) = (List.range m).map (qT ts a b (i + 1)) := by
  rw [mapSet, mapSet, mapSet]
  apply mapEq
  intro j _
  rw [qT_step h0]
  by_cases h : j = i
  · subst h
    rw [if_neg (by omega), if_neg (by omega), if_pos rfl, if_pos rfl]
  · rw [if_neg h, if_neg h]
    by_cases h2 : j = i - 1
    · have h3 : j + 1 = i := by omega
      rw [if_pos h2, if_pos h3, h2]
    · rw [if_neg h2, if_neg (show ¬ j + 1 = i by omega)]
      by_cases h3 : j = i + 1
      · subst h3
        rw [if_pos rfl]
      · rw [if_neg h3, if_neg h3]
end

theorem range_getD' (l : List Int) : (List.range l.length).map (fun i => l.getD i 0) = l := by
  apply List.ext_getElem
  · simp
  · intro i h1 h2
    simp [List.getD_eq_getElem?_getD, List.getElem?_eq_getElem h2]

theorem New4.oth {n : Nat} {η : List Blk} {b b0 b1 b2 b3 v0 v1 v2 v3 : Nat} {l : List Id3} {ms ts bs : List Int} (h : New4 n η b0 b1 b2 b3 v0 v1 v2 v3 l ms ts bs) (hb : b ≠ b0 ∧ b ≠ b1 ∧ b ≠ b2 ∧ b ≠ b3) (B : Blk) : New4 n (η.set b B) b0 b1 b2 b3 v0 v1 v2 v3 l ms ts bs :=
  ⟨setBlk h.g0 hb.1, setBlk h.g1 hb.2.1, setBlk h.g2 hb.2.2.1, setBlk h.g3 hb.2.2.2, h.n0, h.n1, h.n2, h.n3, h.d01, h.d02, h.d03, h.d12, h.d13, h.d23⟩
def SStepQ : List AV → List Blk → (AV → List Blk → Prop) → Prop
  | [.agg [.int .i64 r, v, a, b, c], .int .i64 t], η, K => ∃ (l : List Id3) (ms ts bs : List Int), (IsR 69 3 enc3 η v l ∧ IsI η a ms ∧ IsI η b ts ∧ IsI η c bs) ∧ okB r l ms ts bs = true ∧ 0 ≤ t ∧
      ∀ H q0 q1 q2 q3, New4 η.length H q0 q1 q2 q3 0 0 0 0 l (nM l ms bs (actL l t)) (nT l ms ts bs (actL l t)) bs → Ext η H → K (.agg [.int .i64 r, .sl q0 0 0 l.length, .sl q1 0 0 ms.length, .sl q2 0 0 ts.length, .sl q3 0 0 bs.length]) H
  | _, _, _ => False

def invQ1 (η : List Blk) (r : Int) (v a b c : AV) (t : Int) (q0 q1 q2 q3 bf : Nat) (l : List Id3) (ms ts bs : List Int) (st : St) : Prop := ∃ i : Nat, ∃ H : List Blk, (i + 1 ≤ ms.length) ∧ ((η.length ≤ bf ∧ bf ≠ q0 ∧ bf ≠ q1 ∧ bf ≠ q2 ∧ bf ≠ q3) ∧ Ext η H) ∧ (New4 η.length H q0 q1 q2 q3 0 0 0 0 l ((List.range ms.length).map (qM ms (phi l ms bs (actL l t)) i)) ts bs) ∧ (H[bf]? = some (rowB 0 (qF (phi l ms bs (actL l t)) i) ms.length)) ∧ st.n = 151 ∧ st.τ 1 = .int .i64 t ∧ st.τ 2 = .loc 2 1 0 ∧ st.τ 4 = .loc 4 1 0 ∧ st.τ 5 = .loc 5 1 0 ∧ st.τ 6 = .sl bf 0 0 ms.length ∧ st.τ 7 = .int .i64 i ∧ st.lam 2 = ⟨1, [.int .i64 r, v, a, b, c]⟩ ∧ st.lam 4 = ⟨1, [.int .i64 0, .nils, .nils, .nils, .nils]⟩ ∧ st.lam 5 = ⟨1, [.int .i64 r, .sl q0 0 0 l.length, .sl q1 0 0 ms.length, .sl q2 0 0 ts.length, .sl q3 0 0 bs.length]⟩ ∧ st.η = H

def invQ2 (η : List Blk) (r : Int) (v a b c : AV) (t : Int) (q0 q1 q2 q3 bf : Nat) (l : List Id3) (ms ts bs : List Int) (st : St) : Prop := ∃ i : Nat, ∃ H : List Blk, (i ≤ ms.length) ∧ ((η.length ≤ bf ∧ bf ≠ q0 ∧ bf ≠ q1 ∧ bf ≠ q2 ∧ bf ≠ q3) ∧ Ext η H) ∧ (New4 η.length H q0 q1 q2 q3 0 0 0 0 l (nM l ms bs (actL l t)) ((List.range ms.length).map (qT ts (outA l ms ts bs (actL l t)) (outB l ms ts bs (actL l t)) i)) bs) ∧ (H[bf]? = some (rowB 0 (phi l ms bs (actL l t)) ms.length)) ∧ st.n = 151 ∧ st.τ 1 = .int .i64 t ∧ st.τ 2 = .loc 2 1 0 ∧ st.τ 4 = .loc 4 1 0 ∧ st.τ 5 = .loc 5 1 0 ∧ st.τ 6 = .sl bf 0 0 ms.length ∧ st.τ 8 = .int .i64 i ∧ st.lam 2 = ⟨1, [.int .i64 r, v, a, b, c]⟩ ∧ st.lam 4 = ⟨1, [.int .i64 0, .nils, .nils, .nils, .nils]⟩ ∧ st.lam 5 = ⟨1, [.int .i64 r, .sl q0 0 0 l.length, .sl q1 0 0 ms.length, .sl q2 0 0 ts.length, .sl q3 0 0 bs.length]⟩ ∧ st.η = H

/- spec.l11Step -/
def Sp98 (lo : Nat) : Spec := fun g args η K => match g with | 30 => SCopyS args η K | 134 => SIsAct args η K | 135 => SFace args η K | 136 => SFlux args η K | 137 => SLeafO args η K | _ => False
theorem Sp98_ok {lo : Nat} : Sound Tryz.prog lo (Sp98 lo) := by
  intro g args η K h
  unfold Sp98 at h
  split at h
  · exact .inl (f30_ok h)
  · exact .inl (f134_ok h)
  · exact .inl (f135_ok h)
  · exact .inl (f136_ok h)
  · exact .inl (f137_ok h)
  · exact h.elim
def Dr98 : Draws := fun id => match id with | 8 => ([0, 1, 0, 0, 8, 0, 56, 120, 0, 0, 768, 1792, 4088, 8191, 16383], [], [], (.one 0 (.one 1 (.one 2 (.one 3 (.one 4 (.one 5 (.one 6 (.one 7 (.one 8 (.one 9 (.one 10 (.one 11 (.one 12 (.one 13 (.one 14 .nil)))))))))))))))) | 9 => ([0, 1, 0, 4, 0, 16, 0, 64, 240, 496, 0, 0, 3072, 7168, 16368, 32767, 65535], [], [], (.one 0 (.one 1 (.one 2 (.one 3 (.one 4 (.one 5 (.one 6 (.one 7 (.one 8 (.one 9 (.one 10 (.one 11 (.one 12 (.one 13 (.one 14 (.one 15 (.one 16 .nil)))))))))))))))))) | 17 => ([0, 1, 0, 7, 15, 0, 32, 0, 224, 480, 0, 0, 4095, 8191, 16383, 16383, 32767, 131071], [], [], (.one 0 (.one 1 (.one 2 (.one 3 (.one 4 (.one 5 (.one 6 (.one 7 (.one 8 (.one 9 (.one 10 (.one 11 (.one 12 (.one 13 (.one 14 (.one 15 (.one 16 (.one 17 .nil))))))))))))))))))) | 18 => ([0, 1, 0, 0, 8, 0, 56, 120, 0, 504, 0, 2040, 4095, 8191], [], [], (.one 0 (.one 1 (.one 2 (.one 3 (.one 4 (.one 5 (.one 6 (.one 7 (.one 8 (.one 9 (.one 10 (.one 11 (.one 12 (.one 13 .nil))))))))))))))) | 20 => ([0, 1, 0, 4, 0, 16, 0, 64, 240, 496, 0, 2032, 4095, 8191], [], [], (.one 0 (.one 1 (.one 2 (.one 3 (.one 4 (.one 5 (.one 6 (.one 7 (.one 8 (.one 9 (.one 10 (.one 11 (.one 12 (.one 13 .nil))))))))))))))) | 22 => ([0, 1, 0, 4, 0, 16, 0, 64, 240, 496, 0, 2032, 4095, 8191], [], [], (.one 0 (.one 1 (.one 2 (.one 3 (.one 4 (.one 5 (.one 6 (.one 7 (.one 8 (.one 9 (.one 10 (.one 11 (.one 12 (.one 13 .nil))))))))))))))) | _ => ([], [], [], .nil)
theorem f98_ok {lo : Nat} {args : List AV} {η : List Blk} {K : AV → List Blk → Prop} (h : SStepQ args η K) : AF Tryz.prog lo 98 args η K := by
  unfold SStepQ at h
  split at h
  · obtain ⟨l, ms, ts, bs, ⟨hr, ha, hb, hc⟩, e1, ht0, hK⟩ := h
    rename_i r _ _ _ _ t
    obtain ⟨k1, k2, k3, k4, k5, k6, k7, k8⟩ := okT e1
    have hl8 : l.length ≤ 128 := by have := mesh_len k1; omega
    have hb8 : bs.length ≤ 8 := by have := mesh_len k1; omega
    have hne := mesh_ne k1
    have hlv := mesh_levs k1
    have hfb := act_faces (l := l) (t := t) (n := ms.length) k3
    obtain ⟨b0, v0, rfl, hb0⟩ := hr
    obtain ⟨b1, v1, rfl, hb1⟩ := ha
    obtain ⟨b2, v2, rfl, hb2⟩ := hb
    obtain ⟨b3, v3, rfl, hb3⟩ := hc
    have pb := fun j (h : j < ms.length) => phi_bd e1 hfb h
    have cb := fun j (h : j < ms.length) => cells_at k7 h
    have pB : ∀ j, j < ms.length → -10000000 ≤ phi l ms bs (actL l t) j ∧ phi l ms bs (actL l t) j ≤ 10000000 := fun j h => by
      have p := pb j h
      have c := cb j h
      have q := tdiv_bd (a := ms.getD j 0) (b := 4) (X := 10000000) (by omega) (by omega)
      by_cases h2 : j + 1 < ms.length
      · have p2 := p.2.1 h2
        have c2 := cb _ h2
        have q2 := tdiv_bd (a := ms.getD (j + 1) 0) (b := 4) (X := 10000000) (by omega) (by omega)
        omega
      · have p2 := p.2.2 (by omega)
        omega
    refine AF_run Sp98_ok Dr98 [] [.cell 4 34] hm Tryz.func98 rfl (by decide) Tryz.ntmps98 rfl (by kernel_rfl) (Nat.le_of_ble_eq_true rfl) ?_; intro hlo
    repeat' (first | with_reducible refine iteI (fun _ => ?_) (fun _ => ?_) | ((first | unfold AOpsC | unfold AOpsD | skip); simp (maxSteps := 1000000) (disch := (first | omega | assumption | (simp only [List.length_append, List.length_cons, List.length_nil, List.length_set]; omega))) only [go_sem, Sp98, SIsAct, SFace, SFlux, SLeafO, Dr98, hb0, hb1, hb2, hb3]))
    refine copyN ⟨l, ms, ts, bs, ⟨⟨b0, v0, rfl, hb0⟩, ⟨b1, v1, rfl, hb1⟩, ⟨b2, v2, rfl, hb2⟩, ⟨b3, v3, rfl, hb3⟩⟩, ⟨by omega, by omega, by omega, by omega⟩, fun H q0 q1 q2 q3 hN x => ?_⟩
    have u1 := x.blk hb1
    have hlt4 := fun c => hN.lt (c := c)
    have lq0 := hlt4 q0 (.inl rfl)
    have lq1 := hlt4 q1 (.inr (.inl rfl))
    have lq2 := hlt4 q2 (.inr (.inr (.inl rfl)))
    have lq3 := hlt4 q3 (.inr (.inr (.inr rfl)))
    have hHl := x.len
    repeat' (first | with_reducible refine iteI (fun _ => ?_) (fun _ => ?_) | ((first | unfold AOpsC | unfold AOpsD | skip); simp (maxSteps := 1000000) (disch := (first | omega | assumption | (simp only [List.length_append, List.length_cons, List.length_nil, List.length_set]; omega))) only [go_sem, Sp98, SIsAct, SFace, SFlux, SLeafO, Dr98, u1]))
    generalize hbfe : H.length = bf at *
    refine ⟨invQ1 η r (.sl b0 v0 0 l.length) (.sl b1 v1 0 ms.length) (.sl b2 v2 0 ts.length) (.sl b3 v3 0 bs.length) t q0 q1 q2 q3 bf l ms ts bs, fun st => ctr ms.length st 7, .inl ⟨0, _, by omega, ⟨⟨hHl, by omega, by omega, by omega, by omega⟩, x.app _⟩, ?_, ?_, rfl, by first | (simp [upd]; done) | (simp [upd]; rfl), by first | (simp [upd]; done) | (simp [upd]; rfl), by first | (simp [upd]; done) | (simp [upd]; rfl), by first | (simp [upd]; done) | (simp [upd]; rfl), by first | (simp [upd]; done) | (simp [upd]; rfl), by first | (simp [upd]; done) | (simp [upd]; rfl), by first | (simp [upd]; done) | (simp [upd]; rfl), by first | (simp [upd]; done) | (simp [upd]; rfl), by first | (simp [upd]; done) | (simp [upd]; rfl), rfl⟩, ?_⟩
    · rw [mapEq (fun j _ => qM_0 ms _ j), range_getD']
      exact hN.ext ⟨_, rfl⟩
    · rw [rowB_0 _ _ (fun q => qF_0 _ q), ← hbfe]
      simp
    rintro ⟨n, τ, lam, η'⟩ ⟨i, H, g0, g1, g2, g3, hn, t1, t2, t4, t5, t6, t7, l2, l4, l5, hη⟩; simp only at hn t1 t2 t4 t5 t6 t7 l2 l4 l5 hη; subst hn hη
    obtain ⟨⟨nb, n0, n1, n2, n3⟩, x1⟩ := g1
    have w0 := x1.blk hb0
    have w1 := x1.blk hb1
    have w2 := x1.blk hb2
    have w3 := x1.blk hb3
    have D1 : dec3 69 η' (.sl b0 v0 0 l.length) = l := IsR.dec3 ⟨b0, v0, rfl, w0⟩
    have D2 : decI η' (.sl b1 v1 0 ms.length) = ms := IsI.dec ⟨b1, v1, rfl, w1⟩
    have D3 : decI η' (.sl b2 v2 0 ts.length) = ts := IsI.dec ⟨b2, v2, rfl, w2⟩
    have D4 : decI η' (.sl b3 v3 0 bs.length) = bs := IsI.dec ⟨b3, v3, rfl, w3⟩
    have O1 : ok3 69 η' (.sl b0 v0 0 l.length) := ⟨l, ⟨b0, v0, rfl, w0⟩, by omega⟩
    have O2 : okI η' (.sl b1 v1 0 ms.length) := ⟨ms, ⟨b1, v1, rfl, w1⟩, by omega⟩
    have O3 : okI η' (.sl b2 v2 0 ts.length) := ⟨ts, ⟨b2, v2, rfl, w2⟩, by omega⟩
    have O4 : okI η' (.sl b3 v3 0 bs.length) := ⟨bs, ⟨b3, v3, rfl, w3⟩, by omega⟩
    have gl := blt g3
    have r1 := g2.g1
    have lr1 := blt r1
    have nq1 := g2.n1
    have nq2 := g2.n2
    by_cases hlt : i + 1 < ms.length
    · cases hac : actB t (faceI l i)
      · have hp : phi l ms bs (actL l t) i = 0 := if_neg fun e => by
          have := (act_iff l t _ i).1 e
          rw [hac] at this
          cases this.2
        rw [mapEq (fun j _ => (q_skip (ms := ms) hp j).2)] at g2
        rw [rowB_eq 0 (fun j _ => (q_skip (ms := ms) hp j).1)] at g3
        repeat' (first | with_reducible refine iteI (fun _ => ?_) (fun _ => ?_) | ((first | unfold AOpsC | unfold AOpsD | skip); simp (maxSteps := 1000000) (disch := (first | omega | assumption | (simp only [List.length_append, List.length_cons, List.length_nil, List.length_set]; omega))) only [go_sem, Sp98, SIsAct, SFace, SFlux, SLeafO, Dr98, w0, w1, w2, w3, D1, D2, D3, D4, O1, O2, O3, O4, e1, hlv, hac, t1, t2, t4, t5, t6, t7, l2, l4, l5]))
        refine ⟨⟨i + 1, _, by omega, ⟨⟨nb, n0, n1, n2, n3⟩, x1⟩, g2, g3, rfl, by simp [upd, t1], by simp [upd, t2], by simp [upd, t4], by simp [upd, t5], by simp [upd, t6], by simp [upd], by simp [upd, l2], by simp [upd, l4], by simp [upd, l5], rfl⟩, by simp [ctr, upd, t7]; omega⟩
      · have hp : phi l ms bs (actL l t) i = fluxI l ms bs i := if_pos ((act_iff l t _ i).2 ⟨by omega, hac⟩)
        have bQ := fun j (h : j < ms.length) => qM_bd (ms := ms) (p := phi l ms bs (actL l t)) (X := 10000000) (fun j h => by have := cb j h; omega) pB i (j := j) h (by omega)
        have bi := bQ i (by omega)
        have bj := bQ (i + 1) hlt
        have bp := pB i (by omega)
        rw [hp] at bp
        have eF : ((List.range ms.length).map (qF (phi l ms bs (actL l t)) i)).set i (fluxI l ms bs i) = (List.range ms.length).map (qF (phi l ms bs (actL l t)) (i + 1)) := by
          rw [mapSet, ← hp]; exact mapEq fun j _ => qF_step _ _ j
        have aF : ((List.range ms.length).map (qF (phi l ms bs (actL l t)) (i + 1))).getD i 0 = fluxI l ms bs i := by
          rw [mapAt _ (by omega), qF, if_pos (by omega), hp]
        have a1 := mapAt (qM ms (phi l ms bs (actL l t)) i) (n := ms.length) (i := i) (by omega)
        have a2 : (((List.range ms.length).map (qM ms (phi l ms bs (actL l t)) i)).set i (qM ms (phi l ms bs (actL l t)) i i - fluxI l ms bs i)).getD (i + 1) 0 = qM ms (phi l ms bs (actL l t)) i (i + 1) := by rw [mapSet, mapAt _ hlt, if_neg (by omega)]
        have eM : (((List.range ms.length).map (qM ms (phi l ms bs (actL l t)) i)).set i (qM ms (phi l ms bs (actL l t)) i i - fluxI l ms bs i)).set (i + 1) (qM ms (phi l ms bs (actL l t)) i (i + 1) + fluxI l ms bs i) = (List.range ms.length).map (qM ms (phi l ms bs (actL l t)) (i + 1)) := by
          rw [← hp, shf_set (by omega)]; exact mapEq fun j _ => qM_step ms _ i j
        have m1 := mapLn (qM ms (phi l ms bs (actL l t)) i) ms.length
        have m2 := mapLn (qF (phi l ms bs (actL l t)) i) ms.length
        have m3 := mapLn (qF (phi l ms bs (actL l t)) (i + 1)) ms.length
        have hN2 := (g2.oth (b := bf) ⟨n0, n1, n2, n3⟩ (rowB 0 (qF (phi l ms bs (actL l t)) (i + 1)) ms.length)).put1 ((List.range ms.length).map (qM ms (phi l ms bs (actL l t)) (i + 1)))
        have hb2' : ((η'.set bf (rowB 0 (qF (phi l ms bs (actL l t)) (i + 1)) ms.length)).set q1 ⟨0, 3, 1, ((List.range ms.length).map (qM ms (phi l ms bs (actL l t)) (i + 1))).map (.int .i64)⟩)[bf]? = some (rowB 0 (qF (phi l ms bs (actL l t)) (i + 1)) ms.length) := setBlk (set_eq gl) n1.symm
        have x2 := (x1.set nb (rowB 0 (qF (phi l ms bs (actL l t)) (i + 1)) ms.length)).set g2.n1 ⟨0, 3, 1, ((List.range ms.length).map (qM ms (phi l ms bs (actL l t)) (i + 1))).map (.int .i64)⟩
        unfold rowB at g3
        have hrb : rowB 0 (qF (phi l ms bs (actL l t)) (i + 1)) ms.length = ⟨0, 3, 1, ((List.range ms.length).map (qF (phi l ms bs (actL l t)) (i + 1))).map (.int .i64)⟩ := rfl
        generalize qM ms (phi l ms bs (actL l t)) i i = X at *
        generalize qM ms (phi l ms bs (actL l t)) i (i + 1) = Y at *
        generalize hfx : fluxI l ms bs i = fx at *
        generalize hM1 : (List.range ms.length).map (qM ms (phi l ms bs (actL l t)) (i + 1)) = M1 at *
        generalize (List.range ms.length).map (qM ms (phi l ms bs (actL l t)) i) = M0 at *
        generalize (List.range ms.length).map (qF (phi l ms bs (actL l t)) (i + 1)) = F1 at *
        generalize (List.range ms.length).map (qF (phi l ms bs (actL l t)) i) = F0 at *
        repeat' (first | with_reducible refine iteI (fun _ => ?_) (fun _ => ?_) | ((first | unfold AOpsC | unfold AOpsD | skip); simp (maxSteps := 1000000) (disch := (first | omega | assumption | (simp only [List.length_append, List.length_cons, List.length_nil, List.length_set]; omega))) only [go_sem, Sp98, SIsAct, SFace, SFlux, SLeafO, Dr98, w0, w1, w2, w3, D1, D2, D3, D4, O1, O2, O3, O4, e1, hlv, hac, g3, r1, eF, aF, a1, a2, eM, m1, m2, m3, List.set_set, hfx, t1, t2, t4, t5, t6, t7, l2, l4, l5]))
        rw [hrb] at hN2 hb2' x2
        refine ⟨⟨i + 1, _, by omega, ⟨⟨nb, n0, n1, n2, n3⟩, x2⟩, by rw [hM1]; exact hN2, by rw [hrb]; exact hb2', rfl, by simp [upd, t1], by simp [upd, t2], by simp [upd, t4], by simp [upd, t5], by simp [upd, t6], by simp [upd], by simp [upd, l2], by simp [upd, l4], by simp [upd, l5], rfl⟩, by simp [ctr, upd, t7]; omega⟩
    · have him : i + 1 = ms.length := by omega
      rw [mapEq (g := stM l ms bs (actL l t)) (fun j hj => qM_end him (pb j hj).2.2 hj), show (List.range ms.length).map (stM l ms bs (actL l t)) = nM l ms bs (actL l t) from rfl] at g2
      rw [rowB_eq 0 (g := phi l ms bs (actL l t)) (fun j hj => qF_end him (pb j hj).2.2 hj)] at g3
      have hts : (List.range ms.length).map (qT ts (outA l ms ts bs (actL l t)) (outB l ms ts bs (actL l t)) 0) = ts := by
        rw [mapEq (fun j _ => qT_0 ts _ _ j), show ms.length = ts.length by omega]
        exact range_getD' ts
      repeat' (first | with_reducible refine iteI (fun _ => ?_) (fun _ => ?_) | ((first | unfold AOpsC | unfold AOpsD | skip); simp (maxSteps := 1000000) (disch := (first | omega | assumption | (simp only [List.length_append, List.length_cons, List.length_nil, List.length_set]; omega))) only [go_sem, Sp98, SIsAct, SFace, SFlux, SLeafO, Dr98, w0, w1, w2, w3, D1, D2, D3, D4, O1, O2, O3, O4, t1, t2, t4, t5, t6, t7, l2, l4, l5]))
      refine ⟨invQ2 η r (.sl b0 v0 0 l.length) (.sl b1 v1 0 ms.length) (.sl b2 v2 0 ts.length) (.sl b3 v3 0 bs.length) t q0 q1 q2 q3 bf l ms ts bs, fun st => ctr ms.length st 8, .inl ⟨0, _, Nat.zero_le _, ⟨⟨nb, n0, n1, n2, n3⟩, x1⟩, by rw [hts]; exact g2, g3, rfl, by first | (simp [upd]; done) | (simp [upd, t1, t2, t4, t5, t6, l2, l4, l5]; done) | (simp [upd]; rfl), by first | (simp [upd]; done) | (simp [upd, t1, t2, t4, t5, t6, l2, l4, l5]; done) | (simp [upd]; rfl), by first | (simp [upd]; done) | (simp [upd, t1, t2, t4, t5, t6, l2, l4, l5]; done) | (simp [upd]; rfl), by first | (simp [upd]; done) | (simp [upd, t1, t2, t4, t5, t6, l2, l4, l5]; done) | (simp [upd]; rfl), by first | (simp [upd]; done) | (simp [upd, t1, t2, t4, t5, t6, l2, l4, l5]; done) | (simp [upd]; rfl), by first | (simp [upd]; done) | (simp [upd, t1, t2, t4, t5, t6, l2, l4, l5]; done) | (simp [upd]; rfl), by first | (simp [upd]; done) | (simp [upd, t1, t2, t4, t5, t6, l2, l4, l5]; done) | (simp [upd]; rfl), by first | (simp [upd]; done) | (simp [upd, t1, t2, t4, t5, t6, l2, l4, l5]; done) | (simp [upd]; rfl), by first | (simp [upd]; done) | (simp [upd, t1, t2, t4, t5, t6, l2, l4, l5]; done) | (simp [upd]; rfl), rfl⟩, ?_⟩
      have ob := fun j (h : j < ms.length) => out_bd e1 hfb h
      have hRb : ∀ j, j < ms.length → 0 ≤ rgt l ms bs (actL l t) j ∧ rgt l ms bs (actL l t) j ≤ 10000000 := fun j h => by have := ob j h; have := cb j h; omega
      have hLb : ∀ j, j < ms.length → 0 ≤ lft l ms bs (actL l t) j ∧ lft l ms bs (actL l t) j ≤ 10000000 := fun j h => by have := ob j h; have := cb j h; omega
      have hAB : ∀ j, j < ms.length → (0 ≤ outA l ms ts bs (actL l t) j ∧ outA l ms ts bs (actL l t) j ≤ 10000000000) ∧ 0 ≤ outB l ms ts bs (actL l t) j ∧ outB l ms ts bs (actL l t) j ≤ 10000000000 := fun j h => by
        have a := ob j h
        have c := cb j h
        have d := leaf_bd (t := ts.getD j 0) (m := ms.getD j 0) (q := rgt l ms bs (actL l t) j) (s := lft l ms bs (actL l t) j) (by omega) (by omega) (by omega)
        unfold outA outB
        omega
      have hB0 : outB l ms ts bs (actL l t) 0 = 0 := by unfold outB; rw [show lft l ms bs (actL l t) 0 = 0 by simp [lft], leafB_0]
      clear t1 t2 t4 t5 t6 t7 l2 l4 l5 g2 g3 x1 nb n0 n1 n2 n3 w0 w1 w2 w3 D1 D2 D3 D4 O1 O2 O3 O4 gl r1 lr1 nq1 nq2 hts
      rintro ⟨n, τ, lam, η'⟩ ⟨i, H, g0, g1, g2, g3, hn, t1, t2, t4, t5, t6, t8, l2, l4, l5, hη⟩; simp only at hn t1 t2 t4 t5 t6 t8 l2 l4 l5 hη; subst hn hη
      obtain ⟨⟨nb, n0, n1, n2, n3⟩, x1⟩ := g1
      have w0 := x1.blk hb0
      have w1 := x1.blk hb1
      have w2 := x1.blk hb2
      have w3 := x1.blk hb3
      have D1 : dec3 69 η' (.sl b0 v0 0 l.length) = l := IsR.dec3 ⟨b0, v0, rfl, w0⟩
      have D2 : decI η' (.sl b1 v1 0 ms.length) = ms := IsI.dec ⟨b1, v1, rfl, w1⟩
      have D3 : decI η' (.sl b2 v2 0 ts.length) = ts := IsI.dec ⟨b2, v2, rfl, w2⟩
      have D4 : decI η' (.sl b3 v3 0 bs.length) = bs := IsI.dec ⟨b3, v3, rfl, w3⟩
      have O1 : ok3 69 η' (.sl b0 v0 0 l.length) := ⟨l, ⟨b0, v0, rfl, w0⟩, by omega⟩
      have O2 : okI η' (.sl b1 v1 0 ms.length) := ⟨ms, ⟨b1, v1, rfl, w1⟩, by omega⟩
      have O3 : okI η' (.sl b2 v2 0 ts.length) := ⟨ts, ⟨b2, v2, rfl, w2⟩, by omega⟩
      have O4 : okI η' (.sl b3 v3 0 bs.length) := ⟨bs, ⟨b3, v3, rfl, w3⟩, by omega⟩
      have gl := blt g3
      have r2 := g2.g2
      have lr2 := blt r2
      have nq1 := g2.n1
      have nq2 := g2.n2
      by_cases hlt : i < ms.length
      · have m1 := cb i hlt
        have o1 := ob i hlt
        have p0 := pB i hlt
        have aR := hRb i hlt
        have aL := hLb i hlt
        have ab := hAB i hlt
        have bQ : ∀ j, j < ms.length → -30000000000 ≤ qT ts (outA l ms ts bs (actL l t)) (outB l ms ts bs (actL l t)) i j ∧ qT ts (outA l ms ts bs (actL l t)) (outB l ms ts bs (actL l t)) i j ≤ 30000000000 := fun j h => by
          have d := dV_bd (fun j h => (hAB j h).1) (fun j h => (hAB j h).2) g0 h
          have c := cb j h
          unfold qT
          omega
        have bi := bQ i hlt
        have aP := mapAt (phi l ms bs (actL l t)) hlt
        have nP := mapLn (phi l ms bs (actL l t)) ms.length
        have nT1 := mapLn (qT ts (outA l ms ts bs (actL l t)) (outB l ms ts bs (actL l t)) i) ms.length
        have hmx := max0 (phi l ms bs (actL l t) i)
        have hrg : posP (phi l ms bs (actL l t) i) = rgt l ms bs (actL l t) i := rfl
        have qA : leafA (ts.getD i 0) (ms.getD i 0) (rgt l ms bs (actL l t) i) (lft l ms bs (actL l t) i) = outA l ms ts bs (actL l t) i := rfl
        have qB : leafBq (ts.getD i 0) (ms.getD i 0) (rgt l ms bs (actL l t) i) (lft l ms bs (actL l t) i) = outB l ms ts bs (actL l t) i := rfl
        have zA : rgt l ms bs (actL l t) i = 0 → outA l ms ts bs (actL l t) i = 0 := fun e => by unfold outA; rw [e, leaf_0 _ _ _ (by omega)]
        have zB : lft l ms bs (actL l t) i = 0 → outB l ms ts bs (actL l t) i = 0 := fun e => by unfold outB; rw [e, leafB_0]
        have y1 := mapAt (qT ts (outA l ms ts bs (actL l t)) (outB l ms ts bs (actL l t)) i) hlt
        have ea := fun (h1 : outA l ms ts bs (actL l t) i = 0) (h2 : outB l ms ts bs (actL l t) i = 0) => qT_a (ts := ts) (a := outA l ms ts bs (actL l t)) (b := outB l ms ts bs (actL l t)) (m := ms.length) hB0 h1 h2
        have eb := fun (h2 : outB l ms ts bs (actL l t) i = 0) => qT_b (ts := ts) (a := outA l ms ts bs (actL l t)) (b := outB l ms ts bs (actL l t)) (m := ms.length) hB0 h2
        have ec := fun (h1 : outA l ms ts bs (actL l t) i = 0) (h2 : 0 < i) => qT_c (ts := ts) (a := outA l ms ts bs (actL l t)) (b := outB l ms ts bs (actL l t)) (m := ms.length) hB0 h1 h2
        have ed := fun (h2 : 0 < i) => qT_d (ts := ts) (a := outA l ms ts bs (actL l t)) (b := outB l ms ts bs (actL l t)) (m := ms.length) hB0 h2
        have y2 : i + 1 < ms.length → (((List.range ms.length).map (qT ts (outA l ms ts bs (actL l t)) (outB l ms ts bs (actL l t)) i)).set i (qT ts (outA l ms ts bs (actL l t)) (outB l ms ts bs (actL l t)) i i - outA l ms ts bs (actL l t) i - outB l ms ts bs (actL l t) i)).getD (i + 1) 0 = qT ts (outA l ms ts bs (actL l t)) (outB l ms ts bs (actL l t)) i (i + 1) := fun h => by rw [mapSet, mapAt _ h, if_neg (by omega)]
        have y3 : 0 < i → (((List.range ms.length).map (qT ts (outA l ms ts bs (actL l t)) (outB l ms ts bs (actL l t)) i)).set i (qT ts (outA l ms ts bs (actL l t)) (outB l ms ts bs (actL l t)) i i - outA l ms ts bs (actL l t) i - outB l ms ts bs (actL l t) i)).getD (i - 1) 0 = qT ts (outA l ms ts bs (actL l t)) (outB l ms ts bs (actL l t)) i (i - 1) := fun h => by rw [mapSet, mapAt _ (by omega), if_neg (by omega)]
        have y4 : 0 < i → ((((List.range ms.length).map (qT ts (outA l ms ts bs (actL l t)) (outB l ms ts bs (actL l t)) i)).set i (qT ts (outA l ms ts bs (actL l t)) (outB l ms ts bs (actL l t)) i i - outA l ms ts bs (actL l t) i - outB l ms ts bs (actL l t) i)).set (i + 1) (qT ts (outA l ms ts bs (actL l t)) (outB l ms ts bs (actL l t)) i (i + 1) + outA l ms ts bs (actL l t) i)).getD (i - 1) 0 = qT ts (outA l ms ts bs (actL l t)) (outB l ms ts bs (actL l t)) i (i - 1) := fun h => by rw [mapSet, mapSet, mapAt _ (by omega), if_neg (by omega), if_neg (by omega)]
        have hN2 := g2.put2 ((List.range ms.length).map (qT ts (outA l ms ts bs (actL l t)) (outB l ms ts bs (actL l t)) (i + 1)))
        have x2 := x1.set g2.n2 ⟨0, 3, 1, ((List.range ms.length).map (qT ts (outA l ms ts bs (actL l t)) (outB l ms ts bs (actL l t)) (i + 1))).map (.int .i64)⟩
        have g3k : (η'.set q2 ⟨0, 3, 1, ((List.range ms.length).map (qT ts (outA l ms ts bs (actL l t)) (outB l ms ts bs (actL l t)) (i + 1))).map (.int .i64)⟩)[bf]? = _ := setBlk g3 n2.symm
        have bY : i + 1 < ms.length → -30000000000 ≤ qT ts (outA l ms ts bs (actL l t)) (outB l ms ts bs (actL l t)) i (i + 1) ∧ qT ts (outA l ms ts bs (actL l t)) (outB l ms ts bs (actL l t)) i (i + 1) ≤ 30000000000 := fun h => bQ _ h
        have bZ : 0 < i → -30000000000 ≤ qT ts (outA l ms ts bs (actL l t)) (outB l ms ts bs (actL l t)) i (i - 1) ∧ qT ts (outA l ms ts bs (actL l t)) (outB l ms ts bs (actL l t)) i (i - 1) ≤ 30000000000 := fun h => bQ _ (by omega)
        have hPm : 0 < i → ((List.range ms.length).map (phi l ms bs (actL l t))).getD (i - 1) 0 = phi l ms bs (actL l t) (i - 1) := fun h => mapAt _ (by omega)
        have hPb : 0 < i → -10000000 ≤ phi l ms bs (actL l t) (i - 1) ∧ phi l ms bs (actL l t) (i - 1) ≤ 10000000 := fun h => pB _ (by omega)
        have hmL := max0 (-(phi l ms bs (actL l t) (i - 1)))
        have hlf : 0 < i → posP (-(phi l ms bs (actL l t) (i - 1))) = lft l ms bs (actL l t) i := fun h => by rw [lft, if_pos h]
        have hl0 : i = 0 → lft l ms bs (actL l t) i = 0 := fun h => by subst h; simp [lft]
        unfold rowB at g3
        generalize (List.range ms.length).map (phi l ms bs (actL l t)) = PL at *
        generalize hT1 : (List.range ms.length).map (qT ts (outA l ms ts bs (actL l t)) (outB l ms ts bs (actL l t)) (i + 1)) = T1 at *
        generalize (List.range ms.length).map (qT ts (outA l ms ts bs (actL l t)) (outB l ms ts bs (actL l t)) i) = T0 at *
        generalize qT ts (outA l ms ts bs (actL l t)) (outB l ms ts bs (actL l t)) i i = X at *
        generalize qT ts (outA l ms ts bs (actL l t)) (outB l ms ts bs (actL l t)) i (i + 1) = Y at *
        generalize qT ts (outA l ms ts bs (actL l t)) (outB l ms ts bs (actL l t)) i (i - 1) = Z at *
        generalize hoa : outA l ms ts bs (actL l t) i = oa at *
        generalize hob : outB l ms ts bs (actL l t) i = ob' at *
        generalize hra : rgt l ms bs (actL l t) i = ra at *
        generalize hla : lft l ms bs (actL l t) i = la at *
        by_cases hi0 : 0 < i
        · have hPm := hPm hi0
          have hPb := hPb hi0
          have hlf := hlf hi0
          have y3 := y3 hi0
          have y4 := y4 hi0
          have bZ := bZ hi0
          have e1i : ((i : Int) - 1).toNat = i - 1 := by omega
          by_cases hR : 0 < ra <;> by_cases hL : 0 < la
          · have y2 := y2 (by omega)
            have bY := bY (by omega)
            have e := ed hi0
            repeat' (first | with_reducible refine iteI (fun _ => ?_) (fun _ => ?_) | ((first | unfold AOpsC | unfold AOpsD | skip); simp (maxSteps := 1000000) (disch := (first | omega | assumption | (simp only [List.length_append, List.length_cons, List.length_nil, List.length_set]; omega))) only [go_sem, Sp98, SIsAct, SFace, SFlux, SLeafO, Dr98, w0, w1, w2, w3, D1, D2, D3, D4, O1, O2, O3, O4, e1, g3, r2, aP, nP, nT1, ↓hmx, hrg, hPm, ↓hmL, hlf, Int.zero_sub, qA, qB, y1, y2, y3, y4, e, e1i, hR, hL, List.set_set, maxStep, List.foldl_cons, List.foldl_nil, t1, t2, t4, t5, t6, t8, l2, l4, l5]))
            refine ⟨⟨i + 1, _, hlt, ⟨⟨nb, n0, n1, n2, n3⟩, x2⟩, by rw [hT1]; exact hN2, g3k, rfl, by simp [upd, t1], by simp [upd, t2], by simp [upd, t4], by simp [upd, t5], by simp [upd, t6], by simp [upd], by simp [upd, l2], by simp [upd, l4], by simp [upd, l5], rfl⟩, by simp [ctr, upd, t8]; omega⟩
          · have y2 := y2 (by omega)
            have bY := bY (by omega)
            have e := eb (zB (by omega))
            repeat' (first | with_reducible refine iteI (fun _ => ?_) (fun _ => ?_) | ((first | unfold AOpsC | unfold AOpsD | skip); simp (maxSteps := 1000000) (disch := (first | omega | assumption | (simp only [List.length_append, List.length_cons, List.length_nil, List.length_set]; omega))) only [go_sem, Sp98, SIsAct, SFace, SFlux, SLeafO, Dr98, w0, w1, w2, w3, D1, D2, D3, D4, O1, O2, O3, O4, e1, g3, r2, aP, nP, nT1, ↓hmx, hrg, hPm, ↓hmL, hlf, Int.zero_sub, qA, qB, y1, y2, e, e1i, hR, hL, List.set_set, maxStep, List.foldl_cons, List.foldl_nil, t1, t2, t4, t5, t6, t8, l2, l4, l5]))
            refine ⟨⟨i + 1, _, hlt, ⟨⟨nb, n0, n1, n2, n3⟩, x2⟩, by rw [hT1]; exact hN2, g3k, rfl, by simp [upd, t1], by simp [upd, t2], by simp [upd, t4], by simp [upd, t5], by simp [upd, t6], by simp [upd], by simp [upd, l2], by simp [upd, l4], by simp [upd, l5], rfl⟩, by simp [ctr, upd, t8]; omega⟩
          · have e := ec (zA (by omega)) hi0
            repeat' (first | with_reducible refine iteI (fun _ => ?_) (fun _ => ?_) | ((first | unfold AOpsC | unfold AOpsD | skip); simp (maxSteps := 1000000) (disch := (first | omega | assumption | (simp only [List.length_append, List.length_cons, List.length_nil, List.length_set]; omega))) only [go_sem, Sp98, SIsAct, SFace, SFlux, SLeafO, Dr98, w0, w1, w2, w3, D1, D2, D3, D4, O1, O2, O3, O4, e1, g3, r2, aP, nP, nT1, ↓hmx, hrg, hPm, ↓hmL, hlf, Int.zero_sub, qA, qB, y1, y3, e, e1i, hR, hL, List.set_set, maxStep, List.foldl_cons, List.foldl_nil, t1, t2, t4, t5, t6, t8, l2, l4, l5]))
            refine ⟨⟨i + 1, _, hlt, ⟨⟨nb, n0, n1, n2, n3⟩, x2⟩, by rw [hT1]; exact hN2, g3k, rfl, by simp [upd, t1], by simp [upd, t2], by simp [upd, t4], by simp [upd, t5], by simp [upd, t6], by simp [upd], by simp [upd, l2], by simp [upd, l4], by simp [upd, l5], rfl⟩, by simp [ctr, upd, t8]; omega⟩
          · have e := ea (zA (by omega)) (zB (by omega))
            repeat' (first | with_reducible refine iteI (fun _ => ?_) (fun _ => ?_) | ((first | unfold AOpsC | unfold AOpsD | skip); simp (maxSteps := 1000000) (disch := (first | omega | assumption | (simp only [List.length_append, List.length_cons, List.length_nil, List.length_set]; omega))) only [go_sem, Sp98, SIsAct, SFace, SFlux, SLeafO, Dr98, w0, w1, w2, w3, D1, D2, D3, D4, O1, O2, O3, O4, e1, g3, r2, aP, nP, nT1, ↓hmx, hrg, hPm, ↓hmL, hlf, Int.zero_sub, qA, qB, y1, e, e1i, hR, hL, List.set_set, maxStep, List.foldl_cons, List.foldl_nil, t1, t2, t4, t5, t6, t8, l2, l4, l5]))
            refine ⟨⟨i + 1, _, hlt, ⟨⟨nb, n0, n1, n2, n3⟩, x2⟩, by rw [hT1]; exact hN2, g3k, rfl, by simp [upd, t1], by simp [upd, t2], by simp [upd, t4], by simp [upd, t5], by simp [upd, t6], by simp [upd], by simp [upd, l2], by simp [upd, l4], by simp [upd, l5], rfl⟩, by simp [ctr, upd, t8]; omega⟩
        · have hl0 := hl0 (by omega)
          subst hl0
          by_cases hR : 0 < ra
          · have y2 := y2 (by omega)
            have bY := bY (by omega)
            have e := eb (zB rfl)
            repeat' (first | with_reducible refine iteI (fun _ => ?_) (fun _ => ?_) | ((first | unfold AOpsC | unfold AOpsD | skip); simp (maxSteps := 1000000) (disch := (first | omega | assumption | (simp only [List.length_append, List.length_cons, List.length_nil, List.length_set]; omega))) only [go_sem, Sp98, SIsAct, SFace, SFlux, SLeafO, Dr98, w0, w1, w2, w3, D1, D2, D3, D4, O1, O2, O3, O4, e1, g3, r2, aP, nP, nT1, ↓hmx, hrg, qA, qB, y1, y2, e, hR, List.set_set, maxStep, List.foldl_cons, List.foldl_nil, t1, t2, t4, t5, t6, t8, l2, l4, l5]))
            refine ⟨⟨i + 1, _, hlt, ⟨⟨nb, n0, n1, n2, n3⟩, x2⟩, by rw [hT1]; exact hN2, g3k, rfl, by simp [upd, t1], by simp [upd, t2], by simp [upd, t4], by simp [upd, t5], by simp [upd, t6], by simp [upd], by simp [upd, l2], by simp [upd, l4], by simp [upd, l5], rfl⟩, by simp [ctr, upd, t8]; omega⟩
          · have e := ea (zA (by omega)) (zB rfl)
            repeat' (first | with_reducible refine iteI (fun _ => ?_) (fun _ => ?_) | ((first | unfold AOpsC | unfold AOpsD | skip); simp (maxSteps := 1000000) (disch := (first | omega | assumption | (simp only [List.length_append, List.length_cons, List.length_nil, List.length_set]; omega))) only [go_sem, Sp98, SIsAct, SFace, SFlux, SLeafO, Dr98, w0, w1, w2, w3, D1, D2, D3, D4, O1, O2, O3, O4, e1, g3, r2, aP, nP, nT1, ↓hmx, hrg, qA, qB, y1, e, hR, List.set_set, maxStep, List.foldl_cons, List.foldl_nil, t1, t2, t4, t5, t6, t8, l2, l4, l5]))
            refine ⟨⟨i + 1, _, hlt, ⟨⟨nb, n0, n1, n2, n3⟩, x2⟩, by rw [hT1]; exact hN2, g3k, rfl, by simp [upd, t1], by simp [upd, t2], by simp [upd, t4], by simp [upd, t5], by simp [upd, t6], by simp [upd], by simp [upd, l2], by simp [upd, l4], by simp [upd, l5], rfl⟩, by simp [ctr, upd, t8]; omega⟩
      · obtain rfl : i = ms.length := by omega
        rw [mapEq (f := qT ts (outA l ms ts bs (actL l t)) (outB l ms ts bs (actL l t)) ms.length) (g := stT l ms ts bs (actL l t)) (fun j hj => stT_eq hj)] at g2
        repeat' (first | with_reducible refine iteI (fun _ => ?_) (fun _ => ?_) | ((first | unfold AOpsC | unfold AOpsD | skip); simp (maxSteps := 1000000) (disch := (first | omega | assumption | (simp only [List.length_append, List.length_cons, List.length_nil, List.length_set]; omega))) only [go_sem, Sp98, SIsAct, SFace, SFlux, SLeafO, Dr98, w0, w1, w2, w3, D1, D2, D3, D4, O1, O2, O3, O4, t1, t2, t4, t5, t6, t8, l2, l4, l5]))
        have hk := hK _ _ _ _ _ g2 x1
        have n1' : (nM l ms bs (actL l t)).length = ms.length := mapLn _ _
        exact hk
  · exact h.elim

end Go.Proofs.YtaalpmbopkbdiaaGreat
