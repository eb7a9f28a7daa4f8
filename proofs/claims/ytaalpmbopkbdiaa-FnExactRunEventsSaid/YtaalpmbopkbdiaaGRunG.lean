/- What functions of the program compute, said in the abstract logic; no conditions. -/
import Derived.Test.YtaalpmbopkbdiaaGStepOk
import Derived.Test.YtaalpmbopkbdiaaGEv
import Derived.Test.YtaalpmbopkbdiaaGOwn

namespace Go.Proofs.Ytaalpmbopkbdiaa
open Go
set_option linter.unusedSimpArgs false
set_option linter.unusedVariables false
set_option maxRecDepth 100000
set_option maxHeartbeats 8000000
attribute [local go_sem] st0 AC thenA andC locLoadB KsSW_same KsSW_grow oldLoadB noBlkB KsSL_same KsOS_same KsOS_grow pv ev put upd dstOk cv cvc binI setB Value.oneCell' EndA resA resA1 List.mapM_cons List.mapM_nil Option.pure_def Option.bind_eq_bind noLocV noLoc1 noLoc noLocs plainV cellsA newVarA putCells condA lam0 inBlockA cur lenA rowA writeA dstA appendC appendZ avoidsB avoidB clearB Array.toList_append Op.operands Call.operands newSlot Nat.zero_add Nat.add_zero Nat.succ_ne_self Nat.lt_add_one Nat.zero_lt_succ true_and and_true true_or or_true false_or or_false and_self true_implies forall_const Bool.false_eq_true Bool.true_eq_false false_implies implies_true imp_self ne_eq not_false_eq_true not_true_eq_false false_and and_false List.getElem?_toArray List.getElem?_cons_succ List.getElem?_cons_zero Option.bind_some Option.map_some Bool.not_true Bool.not_false List.getD_cons_zero List.getD_cons_succ Option.some.injEq exists_eq_left' AV.bool.injEq List.map_cons List.map_nil List.all_cons List.all_nil Bool.and_self Bool.and_true Bool.true_and List.append_nil List.cons_append List.nil_append List.length_cons List.length_nil List.drop_zero List.take_zero List.drop_succ_cons List.take_succ_cons List.take_nil List.drop_nil List.not_mem_nil List.mem_cons List.contains_nil List.contains_cons Bool.or_self Bool.or_true Bool.true_or Bool.false_or Bool.or_false Bool.and_false Bool.false_and KsS_same KsS_grow skipV KsS_ext KsSW_ext KsOS_ext rep1 rep2 rep3 rep4 rep5 List.flatten_cons List.flatten_nil partsA isPtr fillA List.size_toArray ltT ltF leT leF ltTn ltFn leTn leFn eqTi eqFi wrapId toNat1 intGet boolGet memD app_get app_last app_lst app_set app_setL app_setF set_ne set_eq gt_iff_lt ge_iff_le decide_eq_true_eq len2 len3 get20 get21 drop2 put2 get30 get31 get32 drop3 put3 putI pairEta bneTi bneFi beqTi beqFi bne_eq_false_iff_eq beq_eq_false_iff_ne beq_iff_eq bne_iff_ne Int.toNat_natCast Nat.mul_one List.length_map Bool.not_eq_true Bool.not_eq_false Bool.decide_eq_true decide_true decide_false Bool.not_eq_true' Bool.not_eq_false' decide_eq_false_iff_not eq_self Decidable.not_not
/-- Tick and face of an event. -/
def tkA (E : List (Int × Int)) (k : Nat) : Int := (E.getD k (0, 0)).1
def fcA (E : List (Int × Int)) (k : Nat) : Int := (E.getD k (0, 0)).2
/-- An event opens a group. -/
def frE (E : List (Int × Int)) (k : Nat) : Bool := decide (k = 0) || !decide (tkA E k = tkA E (k - 1))
/-- The open group, and the groups that are closed, after some events. -/
def cuE (E : List (Int × Int)) : Nat → List Int
  | 0 => []
  | i + 1 => if frE E i = true then [fcA E i] else cuE E i ++ [fcA E i]
def dnE (E : List (Int × Int)) : Nat → List (List Int)
  | 0 => []
  | i + 1 => if 0 < i ∧ frE E i = true then dnE E i ++ [cuE E i] else dnE E i
def gpE (E : List (Int × Int)) (i : Nat) : List (List Int) := if i = 0 then [] else dnE E i ++ [cuE E i]
/-- An event fits. -/
def ftE (n : Nat) (E : List (Int × Int)) (k : Nat) : Bool := (decide (k = 0) || !decide (tkA E k < tkA E (k - 1))) && (inB (fcA E k) 0 ((n : Int) - 2) && (frE E k || !decide (fcA E k ∈ cuE E k)))
def ftsE (n : Nat) (E : List (Int × Int)) (i : Nat) : Bool := (List.range i).all (ftE n E)
def rvS (l : List Id3) (bs : List Int) (s : List Int × List Int) (A : List Int) : List Int × List Int := (nM l s.1 bs A, nT l s.1 s.2 bs A)
def rvG (l : List Id3) (ms ts bs : List Int) (G : List (List Int)) : List Int × List Int := G.foldl (rvS l bs) (ms, ts)
def rvB (r : Int) (l : List Id3) (ms ts bs : List Int) (E : List (Int × Int)) : Bool := okB r l ms ts bs && ftsE ms.length E E.length
def rvR (r : Int) (l : List Id3) (ms ts bs : List Int) (E : List (Int × Int)) : List Int × List Int := if rvB r l ms ts bs E = true then rvG l ms ts bs (gpE E E.length) else (ms, ts)
theorem fts_succ (n : Nat) (E : List (Int × Int)) (i : Nat) : ftsE n E (i + 1) = (ftsE n E i && ftE n E i) := by
  rw [ftsE, ftsE, List.range_succ, List.all_append]; simp
theorem fts_le {n : Nat} {E : List (Int × Int)} {i j : Nat} (h : ftsE n E j = true) (hi : i ≤ j) : ftsE n E i = true := by
  rw [ftsE, List.all_eq_true] at h ⊢
  intro k hk
  rw [List.mem_range] at hk
  exact h k (List.mem_range.2 (by omega))
theorem fts_no {n : Nat} {E : List (Int × Int)} {i j : Nat} (h : ftE n E i = false) (hi : i < j) : ftsE n E j = false := by
  cases e : ftsE n E j
  · rfl
  · rw [ftsE, List.all_eq_true] at e
    have := e i (List.mem_range.2 hi)
    rw [h] at this
    cases this
theorem fts_at {n : Nat} {E : List (Int × Int)} {i j : Nat} (h : ftsE n E j = true) (hi : i < j) : ftE n E i = true := by
  rw [ftsE, List.all_eq_true] at h
  exact h i (List.mem_range.2 hi)
theorem ft_face {n : Nat} {E : List (Int × Int)} {i : Nat} (h : ftE n E i = true) : ∃ j : Nat, fcA E i = (j : Int) ∧ j + 1 < n := by
  simp only [ftE, Bool.and_eq_true] at h
  have := inT h.2.1
  exact ⟨(fcA E i).toNat, by omega, by omega⟩
theorem cu_len (E : List (Int × Int)) : ∀ i, (cuE E i).length ≤ i
  | 0 => by simp [cuE]
  | i + 1 => by
    have := cu_len E i
    rw [cuE]
    split <;> simp <;> omega
theorem dn_len (E : List (Int × Int)) : ∀ i, (dnE E i).length ≤ i
  | 0 => by simp [dnE]
  | i + 1 => by
    have := dn_len E i
    rw [dnE]
    split <;> simp <;> omega
theorem gp_len (E : List (Int × Int)) (i : Nat) : (gpE E i).length ≤ i + 1 := by
  have := dn_len E i
  unfold gpE
  split <;> simp <;> omega
theorem dn_mem (E : List (Int × Int)) : ∀ (i : Nat) (A : List Int), A ∈ dnE E i → A.length ≤ i
  | 0, A, h => by simp [dnE] at h
  | i + 1, A, h => by
    rw [dnE] at h
    split at h
    · rw [List.mem_append, List.mem_singleton] at h
      rcases h with h | rfl
      · have := dn_mem E i A h; omega
      · have := cu_len E i; omega
    · have := dn_mem E i A h; omega
theorem gp_mem (E : List (Int × Int)) (i : Nat) (A : List Int) (h : A ∈ gpE E i) : A.length ≤ i := by
  unfold gpE at h
  split at h
  · cases h
  · rw [List.mem_append, List.mem_singleton] at h
    rcases h with h | rfl
    · exact dn_mem E i A h
    · exact cu_len E i
theorem cu_faces {n : Nat} {E : List (Int × Int)} : ∀ i, ftsE n E i = true → facesB n (cuE E i)
  | 0, _ => by intro x hx; simp [cuE] at hx
  | i + 1, h => by
    have h1 := cu_faces i (fts_le h (by omega))
    obtain ⟨j, e, hj⟩ := ft_face (fts_at h (Nat.lt_succ_self i))
    intro x hx
    rw [cuE] at hx
    split at hx
    · rw [List.mem_singleton] at hx
      omega
    · rw [List.mem_append, List.mem_singleton] at hx
      rcases hx with hx | rfl
      · exact h1 x hx
      · omega
theorem dn_faces {n : Nat} {E : List (Int × Int)} : ∀ i, ftsE n E i = true → ∀ A ∈ dnE E i, facesB n A
  | 0, _, A, h => by simp [dnE] at h
  | i + 1, h, A, hA => by
    have h0 := fts_le h (show i ≤ i + 1 by omega)
    rw [dnE] at hA
    split at hA
    · rw [List.mem_append, List.mem_singleton] at hA
      rcases hA with hA | rfl
      · exact dn_faces i h0 A hA
      · exact cu_faces i h0
    · exact dn_faces i h0 A hA
theorem gp_faces {n : Nat} {E : List (Int × Int)} {i : Nat} (h : ftsE n E i = true) : ∀ A ∈ gpE E i, facesB n A := by
  intro A hA
  unfold gpE at hA
  split at hA
  · cases hA
  · rw [List.mem_append, List.mem_singleton] at hA
    rcases hA with hA | rfl
    · exact dn_faces i h A hA
    · exact cu_faces i h
/-- States stay states, and keep their lengths. -/
theorem rvG_ok {r : Int} {l : List Id3} {bs : List Int} : ∀ (G : List (List Int)) {ms ts : List Int}, okB r l ms ts bs = true → (∀ A ∈ G, facesB ms.length A) → okB r l (rvG l ms ts bs G).1 (rvG l ms ts bs G).2 bs = true ∧ (rvG l ms ts bs G).1.length = ms.length ∧ (rvG l ms ts bs G).2.length = ts.length
  | [], ms, ts, h, _ => ⟨h, rfl, rfl⟩
  | A :: G, ms, ts, h, hf => by
    have h1 := step_ok h (hf A (List.mem_cons_self ..))
    have l1 : (nM l ms bs A).length = ms.length := mapLn _ _
    have l2 : (nT l ms ts bs A).length = ms.length := mapLn _ _
    obtain ⟨_, _, k3, k4, _⟩ := okT h
    obtain ⟨a, b, c⟩ := rvG_ok G h1 (fun B hB => by rw [l1]; exact hf B (List.mem_cons_of_mem _ hB))
    exact ⟨a, b.trans l1, c.trans (by omega)⟩
theorem rvG_snoc (l : List Id3) (ms ts bs : List Int) (G : List (List Int)) (A : List Int) : rvG l ms ts bs (G ++ [A]) = (nM l (rvG l ms ts bs G).1 bs A, nT l (rvG l ms ts bs G).1 (rvG l ms ts bs G).2 bs A) := by
  simp [rvG, List.foldl_append, rvS]
theorem rvR_len {r : Int} {l : List Id3} {ms ts bs : List Int} {E : List (Int × Int)} : (rvR r l ms ts bs E).1.length = ms.length ∧ (rvR r l ms ts bs E).2.length = ts.length := by
  unfold rvR
  split
  · rename_i h
    simp only [rvB, Bool.and_eq_true] at h
    exact (rvG_ok _ h.1 (gp_faces h.2)).2
  · exact ⟨rfl, rfl⟩
/-- A row of truth values: the faces of a group. -/
def acR (n : Nat) (A : List Int) : List Bool := (List.range n).map fun (j : Nat) => decide ((j : Int) ∈ A)
theorem acR_len (n : Nat) (A : List Int) : (acR n A).length = n := by simp [acR]
theorem acR_at {n : Nat} (A : List Int) {j : Nat} (h : j < n) : (acR n A).getD j false = decide ((j : Int) ∈ A) := by
  simp [acR, List.getD_eq_getElem?_getD, List.getElem?_map, List.getElem?_range h]
theorem acR_set {n : Nat} (A : List Int) (j : Nat) : (acR n A).set j true = acR n (A ++ [(j : Int)]) := by
  apply List.ext_getElem
  · simp [acR]
  · intro i h1 h2
    simp only [acR, List.getElem_set, List.getElem_map, List.getElem_range, List.mem_append, List.mem_singleton]
    by_cases h : j = i
    · subst h; simp
    · have : ((i : Int) = (j : Int)) ↔ False := ⟨fun e => h (by omega), False.elim⟩
      simp [h, this]
theorem acR_nil (n : Nat) : acR n [] = List.replicate n false := by
  apply List.ext_getElem
  · simp [acR]
  · intro i h1 h2
    simp [acR]
def acE (E : List (Int × Int)) (i : Nat) : List Int := if i = E.length ∨ frE E i = true then [] else cuE E i
def dgE (E : List (Int × Int)) (i : Nat) : List (List Int) := if i = E.length ∨ frE E i = true then gpE E i else dnE E i
theorem ac_snoc {E : List (Int × Int)} {i : Nat} (h : i < E.length) : acE E i ++ [fcA E i] = cuE E (i + 1) := by
  unfold acE
  rw [cuE]
  have e : (i = E.length ∨ frE E i = true) ↔ frE E i = true := ⟨fun h' => h'.elim (fun e => by omega) id, .inr⟩
  simp only [e]
  split <;> rfl
theorem dg_dn {E : List (Int × Int)} {i : Nat} (h : i < E.length) : dgE E i = dnE E (i + 1) := by
  unfold dgE gpE
  rw [dnE]
  have e : (i = E.length ∨ frE E i = true) ↔ frE E i = true := ⟨fun h' => h'.elim (fun e => by omega) id, .inr⟩
  simp only [e]
  by_cases h0 : i = 0
  · subst h0
    simp [dnE]
  · have h1 : 0 < i := by omega
    simp only [h0, h1, true_and, if_false]
theorem dg_end {E : List (Int × Int)} : dgE E E.length = gpE E E.length := by simp [dgE]
theorem fr_iff {E : List (Int × Int)} {i : Nat} : frE E (i + 1) = !decide (tkA E (i + 1) = tkA E i) := by simp [frE]

def RowN (η : List Blk) (v : AV) (A : List Int) : Prop := v = .nils ∧ A = [] ∨ ∃ b ver, v = .sl b ver 0 A.length ∧ η[b]? = some ⟨ver, 3, 1, A.map (.int .i64)⟩
def SIxI : List AV → List Blk → (AV → List Blk → Prop) → Prop
  | [v, .int .i64 x], η, K => ∃ A : List Int, RowN η v A ∧ A.length ≤ 1048576 ∧ K (.int .i64 (firstI A.length fun i => decide (x = A.getD i 0))) η
  | _, _, _ => False
def SCtI : List AV → List Blk → (AV → List Blk → Prop) → Prop
  | [v, .int .i64 x], η, K => ∃ A : List Int, RowN η v A ∧ A.length ≤ 1048576 ∧ K (.bool (decide (x ∈ A))) η
  | _, _, _ => False
theorem firstI_mem (A : List Int) (x : Int) : decide (0 ≤ firstI A.length fun i => decide (x = A.getD i 0)) = decide (x ∈ A) := by
  by_cases h : x ∈ A
  · rw [decide_eq_true h]
    have : ∃ i, i < A.length ∧ A.getD i 0 = x := by
      obtain ⟨i, hi, he⟩ := List.mem_iff_getElem.1 h
      exact ⟨i, hi, by rw [List.getD_eq_getElem?_getD, List.getElem?_eq_getElem hi]; exact he⟩
    obtain ⟨i, hi, he⟩ := this
    unfold firstI
    cases hf : (List.range A.length).find? (fun i => decide (x = A.getD i 0)) with
    | none =>
      rw [List.find?_eq_none] at hf
      exact absurd he.symm (by simpa using hf i (List.mem_range.2 hi))
    | some j => simp
  · rw [decide_eq_false h]
    have : firstI A.length (fun i => decide (x = A.getD i 0)) = -1 := by
      apply first_none
      rw [List.all_eq_true]
      intro i hi
      rw [List.mem_range] at hi
      have : x ≠ A.getD i 0 := fun e => h (by rw [e]; exact getD_mem hi)
      simp only [this, decide_false, Bool.not_false]
    rw [this]
    rfl
/-- Slices of whole numbers in a row. -/
def GsR (lo bo : Nat) (H : List Blk) (top : Nat) (C : List AV) (G : List (List Int)) : Prop := C.length = G.length ∧ ∀ k, k < G.length → ∃ b ver, C[k]? = some (.sl b ver 0 (G.getD k []).length) ∧ H[b]? = some ⟨ver, 3, 1, (G.getD k []).map (.int .i64)⟩ ∧ lo ≤ b ∧ b ≠ bo ∧ b < top
def SGrp : List AV → List Blk → (AV → List Blk → Prop) → Prop
  | [.agg [.int .i64 r, v], w], η, K => ∃ (l : List Id3) (es : List (Int × Int)), (IsR 63 3 enc3 η v l ∧ l.length ≤ 1048576) ∧ (IsR 76 2 enc2 η w es ∧ es.length ≤ 1048576) ∧
      (ftsE l.length es es.length = true → ∀ H bo wo C, H[bo]? = some ⟨wo, 27, 1, C⟩ → η.length ≤ bo → GsR η.length bo H H.length C (gpE es es.length) → Ext η H → K (.tup [.sl bo wo 0 C.length, .bool true]) H) ∧
      (ftsE l.length es es.length = false → ∀ H, Ext η H → K (.tup [.nils, .bool false]) H)
  | _, _, _ => False

def invIxI (η : List Blk) (v : AV) (A : List Int) (x : Int) (st : St) : Prop := ∃ i : Nat, (i ≤ A.length) ∧ ((List.range i).all (fun j => !decide (x = A.getD j 0)) = true) ∧ st.n = 19 ∧ st.τ 0 = v ∧ st.τ 1 = .int .i64 x ∧ st.τ 7 = .int .i64 A.length ∧ st.τ 8 = .int .i64 i ∧ st.lam = lam0 ∧ st.η = η

/- slices.Index[[]int,int] -/
theorem f136_ok {lo : Nat} {args : List AV} {η : List Blk} {K : AV → List Blk → Prop} (h : SIxI args η K) : AF Try.prog lo 136 args η K := by
  unfold SIxI at h
  split at h
  · obtain ⟨A, hr, hn, hK⟩ := h
    rename_i x
    rcases hr with ⟨rfl, rfl⟩ | ⟨b, ver, rfl, hb⟩
    · refine AF_run noSp_ok D0 [] [.tmp 4] hm Try.func136 rfl (by decide) Try.ntmps136 rfl (by kernel_rfl) (Nat.le_of_ble_eq_true rfl) ?_; intro hlo
      repeat' (first | with_reducible refine iteI (fun _ => ?_) (fun _ => ?_) | ((first | unfold AOpsC | unfold AOpsD | skip); simp (maxSteps := 1000000) (disch := (first | omega | assumption | (simp only [List.length_append, List.length_cons, List.length_nil, List.length_set]; omega))) only [go_sem, ↓skipC, ↓exitC, ↓retC, ↓seqC, ↓blockC, ↓condC, ↓regC, ↓drawC, ↓drawStep, ↓AOpC, ↓AOpF, ↓AOpE, ↓AEff, ↓contE_at, ↓contC_at, ↓keepC_at, ↓keepW_at, ↓keepO_at, ↓keepL_at, ↓map_parts, ↓reduceIte, reduceCtorEq, Nat.reduceLT, Nat.reduceEqDiff, Nat.reduceAdd, Nat.reduceMul, Nat.reduceLeDiff, Nat.reduceSub, Nat.reduceBEq, Nat.reduceBNe, Nat.reduceBneDiff, Nat.reduceBeqDiff, ag_27, ag_3, by_27, by_3, el_27, en_3, in_3, sz_27, sz_3, ze_27, ze_3]))
      refine ⟨invIxI η .nils [] x, fun st => 0, .inl ⟨0, Nat.zero_le _, rfl, rfl, (by first | (simp [upd]; done) | (simp [upd, *]; done) | rfl), (by first | (simp [upd]; done) | (simp [upd, *]; done) | rfl), (by first | (simp [upd]; done) | (simp [upd, *]; done) | rfl), (by first | (simp [upd]; done) | (simp [upd, *]; done) | rfl), rfl, rfl⟩, ?_⟩
      rintro ⟨n, τ, lam, η'⟩ ⟨i, g0, g1, hn, t0, t1, t7, t8, hlam, hη⟩; simp only at hn t0 t1 t7 t8 hlam hη; subst hn hlam hη
      obtain rfl : i = 0 := by simpa using g0
      have t7' : τ 7 = .int .i64 0 := t7
      repeat' (first | with_reducible refine iteI (fun _ => ?_) (fun _ => ?_) | ((first | unfold AOpsC | unfold AOpsD | skip); simp (maxSteps := 1000000) (disch := (first | omega | assumption | (simp only [List.length_append, List.length_cons, List.length_nil, List.length_set]; omega))) only [go_sem, ↓skipC, ↓exitC, ↓retC, ↓seqC, ↓blockC, ↓condC, ↓regC, ↓drawC, ↓drawStep, ↓AOpC, ↓AOpF, ↓AOpE, ↓AEff, ↓contE_at, ↓contC_at, ↓keepC_at, ↓keepW_at, ↓keepO_at, ↓keepL_at, ↓map_parts, ↓reduceIte, reduceCtorEq, Nat.reduceLT, Nat.reduceEqDiff, Nat.reduceAdd, Nat.reduceMul, Nat.reduceLeDiff, Nat.reduceSub, Nat.reduceBEq, Nat.reduceBNe, Nat.reduceBneDiff, Nat.reduceBeqDiff, ag_27, ag_3, by_27, by_3, el_27, en_3, in_3, sz_27, sz_3, ze_27, ze_3, t0, t1, t7', t8]))
      exact hK
    refine AF_run noSp_ok D0 [] [.tmp 4] hm Try.func136 rfl (by decide) Try.ntmps136 rfl (by kernel_rfl) (Nat.le_of_ble_eq_true rfl) ?_; intro hlo
    repeat' (first | with_reducible refine iteI (fun _ => ?_) (fun _ => ?_) | ((first | unfold AOpsC | unfold AOpsD | skip); simp (maxSteps := 1000000) (disch := (first | omega | assumption | (simp only [List.length_append, List.length_cons, List.length_nil, List.length_set]; omega))) only [go_sem, ↓skipC, ↓exitC, ↓retC, ↓seqC, ↓blockC, ↓condC, ↓regC, ↓drawC, ↓drawStep, ↓AOpC, ↓AOpF, ↓AOpE, ↓AEff, ↓contE_at, ↓contC_at, ↓keepC_at, ↓keepW_at, ↓keepO_at, ↓keepL_at, ↓map_parts, ↓reduceIte, reduceCtorEq, Nat.reduceLT, Nat.reduceEqDiff, Nat.reduceAdd, Nat.reduceMul, Nat.reduceLeDiff, Nat.reduceSub, Nat.reduceBEq, Nat.reduceBNe, Nat.reduceBneDiff, Nat.reduceBeqDiff, ag_27, ag_3, by_27, by_3, el_27, en_3, in_3, sz_27, sz_3, ze_27, ze_3, hb]))
    refine ⟨invIxI η (.sl b ver 0 A.length) A x, fun st => ctr A.length st 8, .inl ⟨0, Nat.zero_le _, rfl, rfl, (by first | (simp [upd]; done) | (simp [upd, *]; done) | rfl), (by first | (simp [upd]; done) | (simp [upd, *]; done) | rfl), (by first | (simp [upd]; done) | (simp [upd, *]; done) | rfl), (by first | (simp [upd]; done) | (simp [upd, *]; done) | rfl), rfl, rfl⟩, ?_⟩
    rintro ⟨n, τ, lam, η'⟩ ⟨i, g0, g1, hn, t0, t1, t7, t8, hlam, hη⟩; simp only at hn t0 t1 t7 t8 hlam hη; subst hn hlam hη
    by_cases hlt : i < A.length
    · by_cases hx : x = A.getD i 0
      · have hres := first_here (n := A.length) (p := fun i => decide (x = A.getD i 0)) hlt g1 (by simp only [← hx, decide_true])
        rw [hres] at hK
        repeat' (first | with_reducible refine iteI (fun _ => ?_) (fun _ => ?_) | ((first | unfold AOpsC | unfold AOpsD | skip); simp (maxSteps := 1000000) (disch := (first | omega | assumption | (simp only [List.length_append, List.length_cons, List.length_nil, List.length_set]; omega))) only [go_sem, ↓skipC, ↓exitC, ↓retC, ↓seqC, ↓blockC, ↓condC, ↓regC, ↓drawC, ↓drawStep, ↓AOpC, ↓AOpF, ↓AOpE, ↓AEff, ↓contE_at, ↓contC_at, ↓keepC_at, ↓keepW_at, ↓keepO_at, ↓keepL_at, ↓map_parts, ↓reduceIte, reduceCtorEq, Nat.reduceLT, Nat.reduceEqDiff, Nat.reduceAdd, Nat.reduceMul, Nat.reduceLeDiff, Nat.reduceSub, Nat.reduceBEq, Nat.reduceBNe, Nat.reduceBneDiff, Nat.reduceBeqDiff, ag_27, ag_3, by_27, by_3, el_27, en_3, in_3, sz_27, sz_3, ze_27, ze_3, hb, ← hx, t0, t1, t7, t8]))
        exact hK
      · have hk2 : (List.range (i + 1)).all (fun j => !decide (x = A.getD j 0)) = true := by
          rw [List.range_succ, List.all_append, g1]
          simp only [List.all_cons, List.all_nil, hx, decide_false]
          rfl
        repeat' (first | with_reducible refine iteI (fun _ => ?_) (fun _ => ?_) | ((first | unfold AOpsC | unfold AOpsD | skip); simp (maxSteps := 1000000) (disch := (first | omega | assumption | (simp only [List.length_append, List.length_cons, List.length_nil, List.length_set]; omega))) only [go_sem, ↓skipC, ↓exitC, ↓retC, ↓seqC, ↓blockC, ↓condC, ↓regC, ↓drawC, ↓drawStep, ↓AOpC, ↓AOpF, ↓AOpE, ↓AEff, ↓contE_at, ↓contC_at, ↓keepC_at, ↓keepW_at, ↓keepO_at, ↓keepL_at, ↓map_parts, ↓reduceIte, reduceCtorEq, Nat.reduceLT, Nat.reduceEqDiff, Nat.reduceAdd, Nat.reduceMul, Nat.reduceLeDiff, Nat.reduceSub, Nat.reduceBEq, Nat.reduceBNe, Nat.reduceBneDiff, Nat.reduceBeqDiff, ag_27, ag_3, by_27, by_3, el_27, en_3, in_3, sz_27, sz_3, ze_27, ze_3, hb, hx, t0, t1, t7, t8]))
        refine ⟨⟨i + 1, hlt, hk2, rfl, (by simp [upd, t0, t1, t7, t8]), (by simp [upd, t0, t1, t7, t8]), (by simp [upd, t0, t1, t7, t8]), (by simp [upd, t0, t1, t7, t8]), rfl, rfl⟩, (by simp [ctr, upd, t0, t1, t7, t8]; omega)⟩
    · obtain rfl : i = A.length := by omega
      rw [first_none g1] at hK
      repeat' (first | with_reducible refine iteI (fun _ => ?_) (fun _ => ?_) | ((first | unfold AOpsC | unfold AOpsD | skip); simp (maxSteps := 1000000) (disch := (first | omega | assumption | (simp only [List.length_append, List.length_cons, List.length_nil, List.length_set]; omega))) only [go_sem, ↓skipC, ↓exitC, ↓retC, ↓seqC, ↓blockC, ↓condC, ↓regC, ↓drawC, ↓drawStep, ↓AOpC, ↓AOpF, ↓AOpE, ↓AEff, ↓contE_at, ↓contC_at, ↓keepC_at, ↓keepW_at, ↓keepO_at, ↓keepL_at, ↓map_parts, ↓reduceIte, reduceCtorEq, Nat.reduceLT, Nat.reduceEqDiff, Nat.reduceAdd, Nat.reduceMul, Nat.reduceLeDiff, Nat.reduceSub, Nat.reduceBEq, Nat.reduceBNe, Nat.reduceBneDiff, Nat.reduceBeqDiff, ag_27, ag_3, by_27, by_3, el_27, en_3, in_3, sz_27, sz_3, ze_27, ze_3, hb, t0, t1, t7, t8]))
      exact hK
  · exact h.elim

/- slices.Contains[[]int,int] -/
def Sp99 (lo : Nat) : Spec := fun g args η K => match g with | 136 => SIxI args η K | _ => False
theorem Sp99_ok {lo : Nat} : Sound Try.prog lo (Sp99 lo) := by
  intro g args η K h
  unfold Sp99 at h
  split at h
  · exact .inl (f136_ok h)
  · exact h.elim
theorem f99_ok {lo : Nat} {args : List AV} {η : List Blk} {K : AV → List Blk → Prop} (h : SCtI args η K) : AF Try.prog lo 99 args η K := by
  unfold SCtI at h
  split at h
  · obtain ⟨A, hr, hn, hK⟩ := h
    rename_i v x
    have hv : noLoc1 v = true := by rcases hr with ⟨rfl, _⟩ | ⟨_, _, rfl, _⟩ <;> rfl
    have hv2 : noLoc v = true := by rcases hr with ⟨rfl, _⟩ | ⟨_, _, rfl, _⟩ <;> rfl
    refine AF_run Sp99_ok D0 [] [.tmp 4] hm Try.func99 rfl (by decide) Try.ntmps99 rfl (by kernel_rfl) (Nat.le_of_ble_eq_true rfl) ?_; intro hlo
    repeat' (first | with_reducible refine iteI (fun _ => ?_) (fun _ => ?_) | ((first | unfold AOpsC | unfold AOpsD | skip); simp (maxSteps := 1000000) (disch := (first | omega | assumption | (simp only [List.length_append, List.length_cons, List.length_nil, List.length_set]; omega))) only [go_sem, ↓skipC, ↓exitC, ↓retC, ↓seqC, ↓blockC, ↓condC, ↓regC, ↓drawC, ↓drawStep, ↓AOpC, ↓AOpF, ↓AOpE, ↓AEff, ↓contE_at, ↓contC_at, ↓keepC_at, ↓keepW_at, ↓keepO_at, ↓keepL_at, ↓map_parts, ↓reduceIte, reduceCtorEq, Nat.reduceLT, Nat.reduceEqDiff, Nat.reduceAdd, Nat.reduceMul, Nat.reduceLeDiff, Nat.reduceSub, Nat.reduceBEq, Nat.reduceBNe, Nat.reduceBneDiff, Nat.reduceBeqDiff, Sp99, ↓hv, ↓hv2]))
    unfold SIxI
    refine ⟨A, hr, hn, ?_⟩
    repeat' (first | with_reducible refine iteI (fun _ => ?_) (fun _ => ?_) | ((first | unfold AOpsC | unfold AOpsD | skip); simp (maxSteps := 1000000) (disch := (first | omega | assumption | (simp only [List.length_append, List.length_cons, List.length_nil, List.length_set]; omega))) only [go_sem, ↓skipC, ↓exitC, ↓retC, ↓seqC, ↓blockC, ↓condC, ↓regC, ↓drawC, ↓drawStep, ↓AOpC, ↓AOpF, ↓AOpE, ↓AEff, ↓contE_at, ↓contC_at, ↓keepC_at, ↓keepW_at, ↓keepO_at, ↓keepL_at, ↓map_parts, ↓reduceIte, reduceCtorEq, Nat.reduceLT, Nat.reduceEqDiff, Nat.reduceAdd, Nat.reduceMul, Nat.reduceLeDiff, Nat.reduceSub, Nat.reduceBEq, Nat.reduceBNe, Nat.reduceBneDiff, Nat.reduceBeqDiff, Sp99]))
    exact KB hK (firstI_mem A x).symm
  · exact h.elim

theorem GsR.mono {lo bo top top' : Nat} {H H' : List Blk} {C : List AV} {G : List (List Int)} (h : GsR lo bo H top C G) (ht : top ≤ top') (x : ∀ b, lo ≤ b → b ≠ bo → b < top → H'[b]? = H[b]?) : GsR lo bo H' top' C G :=
  ⟨h.1, fun k hk => let ⟨b, ver, h1, h2, h3, h4, h5⟩ := h.2 k hk; ⟨b, ver, h1, by rw [x b h3 h4 h5]; exact h2, h3, h4, by omega⟩⟩
theorem GsR.snoc {lo bo top : Nat} {H : List Blk} {C : List AV} {G : List (List Int)} (h : GsR lo bo H top C G) {b ver : Nat} {A : List Int} (hb : H[b]? = some ⟨ver, 3, 1, A.map (.int .i64)⟩) (h1 : lo ≤ b) (h2 : b ≠ bo) (h3 : b < top) : GsR lo bo H top (C ++ [.sl b ver 0 A.length]) (G ++ [A]) := by
  refine ⟨by simp [h.1], fun k hk => ?_⟩
  by_cases hk2 : k < G.length
  · obtain ⟨b', ver', q1, q2, q3⟩ := h.2 k hk2
    have e : (G ++ [A]).getD k [] = G.getD k [] := by rw [List.getD_eq_getElem?_getD, List.getElem?_append_left hk2, ← List.getD_eq_getElem?_getD]
    rw [e]
    exact ⟨b', ver', by rw [List.getElem?_append_left (by rw [h.1]; exact hk2)]; exact q1, q2, q3⟩
  · have hk3 : k = G.length := by simp at hk; omega
    subst hk3
    have e : (G ++ [A]).getD G.length [] = A := by simp
    rw [e]
    exact ⟨b, ver, by rw [← h.1]; simp, hb, h1, h2, h3⟩
theorem GsR.nil (lo bo top : Nat) (H : List Blk) : GsR lo bo H top [] [] := ⟨rfl, fun k hk => absurd hk (Nat.not_lt_zero _)⟩
/-- The state of the groups after i events. -/
def GrS (η H : List Blk) (bo wo i : Nat) (cells : List AV) (es : List (Int × Int)) : Prop :=
  H[bo]? = some ⟨wo, 27, 1, cells⟩ ∧ (i = 0 ∧ cells = [] ∨ 0 < i ∧ ∃ C bc wc, cells = C ++ [.sl bc wc 0 (cuE es i).length] ∧ GsR η.length bo H bc C (dnE es i) ∧ H[bc]? = some ⟨wc, 3, 1, (cuE es i).map (.int .i64)⟩ ∧ η.length ≤ bc ∧ bc ≠ bo)
theorem GrS.top {η H : List Blk} {bo wo i : Nat} {cells : List AV} {es : List (Int × Int)} (h : GrS η H bo wo i cells es) : GsR η.length bo H H.length cells (gpE es i) := by
  obtain ⟨hb, h | ⟨h0, C, bc, wc, rfl, hg, hc, h1, h2⟩⟩ := h
  · obtain ⟨rfl, rfl⟩ := h
    exact GsR.nil _ _ _ _
  · have lc := blt hc
    rw [gpE, if_neg (by omega)]
    exact (hg.mono (by omega) fun _ _ _ _ => rfl).snoc hc h1 h2 lc
theorem GrS.fresh {η H : List Blk} {bo wo i : Nat} {cells : List AV} {es : List (Int × Int)} (h : GrS η H bo wo i cells es) (hf : frE es i = true) : GsR η.length bo H H.length cells (dnE es (i + 1)) := by
  have := h.top
  obtain ⟨hb, h | ⟨h0, _⟩⟩ := h
  · obtain ⟨rfl, rfl⟩ := h
    exact GsR.nil _ _ _ _
  · rw [dnE, if_pos ⟨h0, hf⟩]
    rwa [gpE, if_neg (by omega)] at this

def invGrp (η : List Blk) (r : Int) (v w : AV) (l : List Id3) (es : List (Int × Int)) (st : St) : Prop := ∃ i : Nat, ∃ H : List Blk, ∃ bo : Nat, ∃ wo : Nat, ∃ cells : List AV, (i ≤ es.length) ∧ (ftsE l.length es i = true) ∧ (Ext η H ∧ η.length ≤ bo) ∧ (GrS η H bo wo i cells es) ∧ st.n = 80 ∧ st.τ 1 = w ∧ st.τ 2 = .loc 2 1 0 ∧ st.τ 6 = .sl bo wo 0 cells.length ∧ st.τ 11 = w ∧ st.τ 12 = .int .i64 es.length ∧ st.τ 13 = .int .i64 i ∧ st.lam 2 = ⟨1, [.int .i64 r, v]⟩ ∧ st.η = H

/- impl.groups -/
def Sp53 (lo : Nat) : Spec := fun g args η K => match g with | 98 => SIn args η K | 99 => SCtI args η K | _ => False
theorem Sp53_ok {lo : Nat} : Sound Try.prog lo (Sp53 lo) := by
  intro g args η K h
  unfold Sp53 at h
  split at h
  · exact .inl (f98_ok h)
  · exact .inl (f99_ok h)
  · exact h.elim
def Dr53 : Draws := fun id => match id with | 5 => ([0, 1, 3, 7, 15, 7, 7, 71, 231, 487, 999, 2047, 4095, 8191, 16383, 32767, 16383, 81919, 212991, 475135, 1048575, 2097151, 4194303], [], [], (.one 0 (.one 1 (.one 2 (.one 3 (.one 4 (.one 5 (.one 6 (.one 7 (.one 8 (.one 9 (.one 10 (.one 11 (.one 12 (.one 13 (.one 14 (.one 15 (.one 16 (.one 17 (.one 18 (.one 19 (.one 20 (.one 21 (.one 22 .nil)))))))))))))))))))))))) | 7 => ([0, 1, 3, 7, 15, 7, 7, 71, 231, 487, 999, 2047, 4095], [], [], (.one 0 (.one 1 (.one 2 (.one 3 (.one 4 (.one 5 (.one 6 (.one 7 (.one 8 (.one 9 (.one 10 (.one 11 (.one 12 .nil)))))))))))))) | 10 => ([0, 0, 3, 7, 0, 16, 63], [], [], (.one 0 (.one 1 (.one 2 (.one 3 (.one 4 (.one 5 (.one 6 .nil)))))))) | 12 => ([0, 0, 0, 0, 12, 28, 0, 64, 192, 508, 1023, 2047], [8, 3009], [(3000, 0), (3001, 0)], (.one 0 (.one 1 (.one 2 (.one 3 (.one 4 (.one 5 (.one 6 (.one 7 (.one 8 (.one 9 (.one 10 (.one 11 .nil))))))))))))) | _ => ([], [], [], .nil)
theorem f53_ok {lo : Nat} {args : List AV} {η : List Blk} {K : AV → List Blk → Prop} (h : SGrp args η K) : AF Try.prog lo 53 args η K := by
  unfold SGrp at h
  split at h
  · obtain ⟨l, es, ⟨hr, hl⟩, ⟨hw, hwl⟩, hK, hN⟩ := h
    rename_i r _ _
    obtain ⟨b, ver, rfl, hb⟩ := hr
    obtain ⟨bw, vw, rfl, hbw⟩ := hw
    refine AF_run Sp53_ok Dr53 [] [.tmp 4, .tmp 5] hm Try.func53 rfl (by decide) Try.ntmps53 rfl (by kernel_rfl) (Nat.le_of_ble_eq_true rfl) ?_; intro hlo
    repeat' (first | with_reducible refine iteI (fun _ => ?_) (fun _ => ?_) | ((first | unfold AOpsC | unfold AOpsD | skip); simp (maxSteps := 1000000) (disch := (first | omega | assumption | (simp only [List.length_append, List.length_cons, List.length_nil, List.length_set]; omega))) only [go_sem, ↓skipC, ↓exitC, ↓retC, ↓seqC, ↓blockC, ↓condC, ↓regC, ↓drawC, ↓drawStep, ↓AOpC, ↓AOpF, ↓AOpE, ↓AEff, ↓contE_at, ↓contC_at, ↓keepC_at, ↓keepW_at, ↓keepO_at, ↓keepL_at, ↓map_parts, ↓reduceIte, reduceCtorEq, Nat.reduceLT, Nat.reduceEqDiff, Nat.reduceAdd, Nat.reduceMul, Nat.reduceLeDiff, Nat.reduceSub, Nat.reduceBEq, Nat.reduceBNe, Nat.reduceBneDiff, Nat.reduceBeqDiff, ag_24, ag_26, ag_27, ag_3, ag_45, ag_63, ag_76, ag_81, by_24, by_26, by_27, by_3, by_45, by_63, by_76, by_81, el_24, el_27, el_45, el_81, en_3, fi_26_1, fi_76_0, fi_76_1, in_3, nf_26, nf_63, nf_76, pl_26, pl_63, pl_76, ps_26, ps_63, ps_76, sz_24, sz_26, sz_27, sz_3, sz_45, sz_63, sz_76, sz_81, ze_24, ze_26, ze_27, ze_3, ze_45, ze_63, ze_76, ze_81, Sp53, SIn, Dr53, hb, hbw]))
    refine ⟨invGrp η r (.sl b ver 0 l.length) (.sl bw vw 0 es.length) l es, fun st => ctr es.length st 13, .inr ⟨6, 27, 1, Nat.le_of_ble_eq_true rfl, rfl, 0, _, η.length, 0, [], Nat.zero_le _, rfl, ⟨(Ext.refl η).app _, Nat.le_refl _⟩, ⟨app_last _ _, .inl ⟨rfl, rfl⟩⟩, rfl, by simp [RecE, upd], by simp [RecE, upd], by simp [RecE, upd], by simp [RecE, upd], by simp [RecE, upd], by simp [RecE, upd], by simp [RecE, upd], rfl⟩, ?_⟩
    rintro ⟨n, τ, lam, η'⟩ ⟨i, H, bo, wo, cells, g0, g1, g2, g3, hn, t1, t2, t6, t11, t12, t13, l2, hη⟩; simp only at hn t1 t2 t6 t11 t12 t13 l2 hη; subst hn hη
    obtain ⟨x, hbo⟩ := g2
    have hb' := x.blk hb
    have hbw' := x.blk hbw
    have hgo := g3.1
    have lgo := blt hgo
    have hx := x.len
    by_cases hlt : i < es.length
    · have hno : ∀ c, ftE l.length es i = c → c = false → ftsE l.length es es.length = false := fun c h1 h2 => fts_no (h1.trans h2) hlt
      have hgl : ∀ y : AV, (cells ++ [y])[cells.length]? = some y := fun y => List.getElem?_concat_length
      have hgp : ∀ y z : AV, List.take cells.length (cells ++ [y]) ++ [z] ++ List.drop (cells.length + 1) (cells ++ [y]) = cells ++ [z] := fun y z => by simp
      have hgn : (((cells.length + 1 : Nat) : Int) - 1) = (cells.length : Int) := by omega
      have hcl : cells.length ≤ es.length + 1 := by
        have := g3.top.1
        have := gp_len es i
        omega
      have hct : cells.take cells.length = cells := List.take_length
      have hL2 : ∀ a c d : Blk, (η'.set bo a ++ [c] ++ [d]).length = η'.length + 2 := fun _ _ _ => by simp
      by_cases h0 : 0 < i
      · have hi1 : ((i : Int) - 1).toNat = i - 1 := by omega
        by_cases htk : (es.getD i (0, 0)).1 < (es.getD (i - 1) (0, 0)).1
        · have hf : ftE l.length es i = false := by
            have : ¬ i = 0 := by omega
            simp [ftE, tkA, this, ← List.getD_eq_getElem?_getD, htk]
          repeat' (first | with_reducible refine iteI (fun _ => ?_) (fun _ => ?_) | ((first | unfold AOpsC | unfold AOpsD | skip); simp (maxSteps := 1000000) (disch := (first | omega | assumption | (simp only [List.length_append, List.length_cons, List.length_nil, List.length_set]; omega))) only [go_sem, ↓skipC, ↓exitC, ↓retC, ↓seqC, ↓blockC, ↓condC, ↓regC, ↓drawC, ↓drawStep, ↓AOpC, ↓AOpF, ↓AOpE, ↓AEff, ↓contE_at, ↓contC_at, ↓keepC_at, ↓keepW_at, ↓keepO_at, ↓keepL_at, ↓map_parts, ↓reduceIte, reduceCtorEq, Nat.reduceLT, Nat.reduceEqDiff, Nat.reduceAdd, Nat.reduceMul, Nat.reduceLeDiff, Nat.reduceSub, Nat.reduceBEq, Nat.reduceBNe, Nat.reduceBneDiff, Nat.reduceBeqDiff, ag_24, ag_26, ag_27, ag_3, ag_45, ag_63, ag_76, ag_81, by_24, by_26, by_27, by_3, by_45, by_63, by_76, by_81, el_24, el_27, el_45, el_81, en_3, fi_26_1, fi_76_0, fi_76_1, in_3, nf_26, nf_63, nf_76, pl_26, pl_63, pl_76, ps_26, ps_63, ps_76, sz_24, sz_26, sz_27, sz_3, sz_45, sz_63, sz_76, sz_81, ze_24, ze_26, ze_27, ze_3, ze_45, ze_63, ze_76, ze_81, Sp53, SIn, Dr53, hb', hbw', hi1, htk, t1, t2, t6, t11, t12, t13, l2]))
          exact hN (hno _ hf rfl) _ x
        cases hin : inB (es.getD i (0, 0)).2 0 ((l.length : Int) - 2)
        · have hf : ftE l.length es i = false := by simp only [ftE, fcA, hin, Bool.false_and, Bool.and_false]
          repeat' (first | with_reducible refine iteI (fun _ => ?_) (fun _ => ?_) | ((first | unfold AOpsC | unfold AOpsD | skip); simp (maxSteps := 1000000) (disch := (first | omega | assumption | (simp only [List.length_append, List.length_cons, List.length_nil, List.length_set]; omega))) only [go_sem, ↓skipC, ↓exitC, ↓retC, ↓seqC, ↓blockC, ↓condC, ↓regC, ↓drawC, ↓drawStep, ↓AOpC, ↓AOpF, ↓AOpE, ↓AEff, ↓contE_at, ↓contC_at, ↓keepC_at, ↓keepW_at, ↓keepO_at, ↓keepL_at, ↓map_parts, ↓reduceIte, reduceCtorEq, Nat.reduceLT, Nat.reduceEqDiff, Nat.reduceAdd, Nat.reduceMul, Nat.reduceLeDiff, Nat.reduceSub, Nat.reduceBEq, Nat.reduceBNe, Nat.reduceBneDiff, Nat.reduceBeqDiff, ag_24, ag_26, ag_27, ag_3, ag_45, ag_63, ag_76, ag_81, by_24, by_26, by_27, by_3, by_45, by_63, by_76, by_81, el_24, el_27, el_45, el_81, en_3, fi_26_1, fi_76_0, fi_76_1, in_3, nf_26, nf_63, nf_76, pl_26, pl_63, pl_76, ps_26, ps_63, ps_76, sz_24, sz_26, sz_27, sz_3, sz_45, sz_63, sz_76, sz_81, ze_24, ze_26, ze_27, ze_3, ze_45, ze_63, ze_76, ze_81, Sp53, SIn, Dr53, hb', hbw', hi1, htk, hin, t1, t2, t6, t11, t12, t13, l2]))
          exact hN (hno _ hf rfl) _ x
        by_cases hne : (es.getD i (0, 0)).1 = (es.getD (i - 1) (0, 0)).1
        · obtain ⟨_, ⟨hz, _⟩ | ⟨_, C, bc, wc, rfl, hg, hc, hlc, hbc⟩⟩ := g3
          · omega
          have lc := blt hc
          have hCl : (C ++ [AV.sl bc wc 0 (cuE es i).length]).length = C.length + 1 := by simp
          have hgl' : ∀ y : AV, (C ++ [y])[C.length]? = some y := fun y => List.getElem?_concat_length
          have hgp' : ∀ y z : AV, List.take C.length (C ++ [y]) ++ [z] ++ List.drop (C.length + 1) (C ++ [y]) = C ++ [z] := fun y z => by simp
          have hgn' : (((C.length + 1 : Nat) : Int) - 1) = (C.length : Int) := by omega
          have hcu := cu_len es i
          rw [hCl] at t6 hcl
          repeat' (first | with_reducible refine iteI (fun _ => ?_) (fun _ => ?_) | ((first | unfold AOpsC | unfold AOpsD | skip); simp (maxSteps := 1000000) (disch := (first | omega | assumption | (simp only [List.length_append, List.length_cons, List.length_nil, List.length_set]; omega))) only [go_sem, ↓skipC, ↓exitC, ↓retC, ↓seqC, ↓blockC, ↓condC, ↓regC, ↓drawC, ↓drawStep, ↓AOpC, ↓AOpF, ↓AOpE, ↓AEff, ↓contE_at, ↓contC_at, ↓keepC_at, ↓keepW_at, ↓keepO_at, ↓keepL_at, ↓map_parts, ↓reduceIte, reduceCtorEq, Nat.reduceLT, Nat.reduceEqDiff, Nat.reduceAdd, Nat.reduceMul, Nat.reduceLeDiff, Nat.reduceSub, Nat.reduceBEq, Nat.reduceBNe, Nat.reduceBneDiff, Nat.reduceBeqDiff, ag_24, ag_26, ag_27, ag_3, ag_45, ag_63, ag_76, ag_81, by_24, by_26, by_27, by_3, by_45, by_63, by_76, by_81, el_24, el_27, el_45, el_81, en_3, fi_26_1, fi_76_0, fi_76_1, in_3, nf_26, nf_63, nf_76, pl_26, pl_63, pl_76, ps_26, ps_63, ps_76, sz_24, sz_26, sz_27, sz_3, sz_45, sz_63, sz_76, sz_81, ze_24, ze_26, ze_27, ze_3, ze_45, ze_63, ze_76, ze_81, Sp53, SIn, Dr53, hb', hbw', hi1, htk, hin, hne, hgo, hgl', hgp', hgn', hCl, t1, t2, t6, t11, t12, t13, l2]))
          unfold SCtI
          refine ⟨cuE es i, .inr ⟨bc, wc, rfl, hc⟩, by omega, ?_⟩
          by_cases hm : (es.getD i (0, 0)).2 ∈ cuE es i
          · have hf : ftE l.length es i = false := by
              have hi0 : ¬ i = 0 := by omega
              simp [ftE, frE, tkA, fcA, hi0, ← List.getD_eq_getElem?_getD, hne, hm]
            repeat' (first | with_reducible refine iteI (fun _ => ?_) (fun _ => ?_) | ((first | unfold AOpsC | unfold AOpsD | skip); simp (maxSteps := 1000000) (disch := (first | omega | assumption | (simp only [List.length_append, List.length_cons, List.length_nil, List.length_set]; omega))) only [go_sem, ↓skipC, ↓exitC, ↓retC, ↓seqC, ↓blockC, ↓condC, ↓regC, ↓drawC, ↓drawStep, ↓AOpC, ↓AOpF, ↓AOpE, ↓AEff, ↓contE_at, ↓contC_at, ↓keepC_at, ↓keepW_at, ↓keepO_at, ↓keepL_at, ↓map_parts, ↓reduceIte, reduceCtorEq, Nat.reduceLT, Nat.reduceEqDiff, Nat.reduceAdd, Nat.reduceMul, Nat.reduceLeDiff, Nat.reduceSub, Nat.reduceBEq, Nat.reduceBNe, Nat.reduceBneDiff, Nat.reduceBeqDiff, ag_24, ag_26, ag_27, ag_3, ag_45, ag_63, ag_76, ag_81, by_24, by_26, by_27, by_3, by_45, by_63, by_76, by_81, el_24, el_27, el_45, el_81, en_3, fi_26_1, fi_76_0, fi_76_1, in_3, nf_26, nf_63, nf_76, pl_26, pl_63, pl_76, ps_26, ps_63, ps_76, sz_24, sz_26, sz_27, sz_3, sz_45, sz_63, sz_76, sz_81, ze_24, ze_26, ze_27, ze_3, ze_45, ze_63, ze_76, ze_81, Sp53, SIn, Dr53, hb', hbw', hm, t1, t2, t6, t11, t12, t13, l2]))
            exact hN (hno _ hf rfl) _ x
          · have hi0 : ¬ i = 0 := by omega
            have hfr : frE es i = false := by simp [frE, tkA, hi0, ← List.getD_eq_getElem?_getD, hne]
            have hft : ftE l.length es i = true := by simp [ftE, tkA, fcA, hi0, ← List.getD_eq_getElem?_getD, htk, hin, hm]
            have hcs : cuE es (i + 1) = cuE es i ++ [(es.getD i (0, 0)).2] := by rw [cuE, hfr, if_neg (by simp)]; rfl
            have hds : dnE es (i + 1) = dnE es i := by rw [dnE, hfr, if_neg (by simp)]
            repeat' (first | with_reducible refine iteI (fun _ => ?_) (fun _ => ?_) | ((first | unfold AOpsC | unfold AOpsD | skip); simp (maxSteps := 1000000) (disch := (first | omega | assumption | (simp only [List.length_append, List.length_cons, List.length_nil, List.length_set]; omega))) only [go_sem, ↓skipC, ↓exitC, ↓retC, ↓seqC, ↓blockC, ↓condC, ↓regC, ↓drawC, ↓drawStep, ↓AOpC, ↓AOpF, ↓AOpE, ↓AEff, ↓contE_at, ↓contC_at, ↓keepC_at, ↓keepW_at, ↓keepO_at, ↓keepL_at, ↓map_parts, ↓reduceIte, reduceCtorEq, Nat.reduceLT, Nat.reduceEqDiff, Nat.reduceAdd, Nat.reduceMul, Nat.reduceLeDiff, Nat.reduceSub, Nat.reduceBEq, Nat.reduceBNe, Nat.reduceBneDiff, Nat.reduceBeqDiff, ag_24, ag_26, ag_27, ag_3, ag_45, ag_63, ag_76, ag_81, by_24, by_26, by_27, by_3, by_45, by_63, by_76, by_81, el_24, el_27, el_45, el_81, en_3, fi_26_1, fi_76_0, fi_76_1, in_3, nf_26, nf_63, nf_76, pl_26, pl_63, pl_76, ps_26, ps_63, ps_76, sz_24, sz_26, sz_27, sz_3, sz_45, sz_63, sz_76, sz_81, ze_24, ze_26, ze_27, ze_3, ze_45, ze_63, ze_76, ze_81, Sp53, SIn, Dr53, hb', hbw', hgo, hc, hgl', hgp', hgn', hCl, hm, takeMap, t1, t2, t6, t11, t12, t13, l2]))
            refine ⟨⟨i + 1, _, bo, wo, C ++ [.sl bc (wc + 1) 0 ((cuE es i).length + 1)], hlt, by rw [fts_succ, g1, hft]; rfl, ⟨((x.set hlc _).set hbo _).app _, hbo⟩, ⟨by rw [app_get (by simpa using lgo), set_eq (by simpa using lgo)], .inr ⟨by omega, C, bc, wc + 1, by rw [hcs, List.length_append]; rfl, by rw [hds]; exact hg.mono (Nat.le_refl _) fun q q1 q2 q3 => by rw [app_get (by simp only [List.length_set]; omega), set_ne q2.symm, set_ne (by omega)], by rw [app_get (by simpa using lc), set_ne hbc.symm, set_eq lc, hcs]; simp, hlc, hbc⟩⟩, rfl, by simp [upd, t1], by simp [upd, t2], by simp [upd, t6], by simp [upd, t11], by simp [upd, t12], by simp [upd], by simp [upd, l2], rfl⟩, by simp [ctr, upd, t13]; omega⟩
        · have hi0 : ¬ i = 0 := by omega
          have hfr : frE es i = true := by simp [frE, tkA, hi0, ← List.getD_eq_getElem?_getD, hne]
          have hft : ftE l.length es i = true := by simp [ftE, tkA, fcA, hi0, ← List.getD_eq_getElem?_getD, htk, hin, hfr]
          have hcs : cuE es (i + 1) = [(es.getD i (0, 0)).2] := by rw [cuE, if_pos hfr]; rfl
          have hgs := g3.fresh hfr
          repeat' (first | with_reducible refine iteI (fun _ => ?_) (fun _ => ?_) | ((first | unfold AOpsC | unfold AOpsD | skip); simp (maxSteps := 1000000) (disch := (first | omega | assumption | (simp only [List.length_append, List.length_cons, List.length_nil, List.length_set]; omega))) only [go_sem, ↓skipC, ↓exitC, ↓retC, ↓seqC, ↓blockC, ↓condC, ↓regC, ↓drawC, ↓drawStep, ↓AOpC, ↓AOpF, ↓AOpE, ↓AEff, ↓contE_at, ↓contC_at, ↓keepC_at, ↓keepW_at, ↓keepO_at, ↓keepL_at, ↓map_parts, ↓reduceIte, reduceCtorEq, Nat.reduceLT, Nat.reduceEqDiff, Nat.reduceAdd, Nat.reduceMul, Nat.reduceLeDiff, Nat.reduceSub, Nat.reduceBEq, Nat.reduceBNe, Nat.reduceBneDiff, Nat.reduceBeqDiff, ag_24, ag_26, ag_27, ag_3, ag_45, ag_63, ag_76, ag_81, by_24, by_26, by_27, by_3, by_45, by_63, by_76, by_81, el_24, el_27, el_45, el_81, en_3, fi_26_1, fi_76_0, fi_76_1, in_3, nf_26, nf_63, nf_76, pl_26, pl_63, pl_76, ps_26, ps_63, ps_76, sz_24, sz_26, sz_27, sz_3, sz_45, sz_63, sz_76, sz_81, ze_24, ze_26, ze_27, ze_3, ze_45, ze_63, ze_76, ze_81, Sp53, SIn, Dr53, hb', hbw', hi1, htk, hin, hne, hgo, hgl, hgp, hgn, hct, t1, t2, t6, t11, t12, t13, l2]))
          unfold SCtI
          refine ⟨[], .inl ⟨rfl, rfl⟩, Nat.zero_le _, ?_⟩
          repeat' (first | with_reducible refine iteI (fun _ => ?_) (fun _ => ?_) | ((first | unfold AOpsC | unfold AOpsD | skip); simp (maxSteps := 1000000) (disch := (first | omega | assumption | (simp only [List.length_append, List.length_cons, List.length_nil, List.length_set]; omega))) only [go_sem, ↓skipC, ↓exitC, ↓retC, ↓seqC, ↓blockC, ↓condC, ↓regC, ↓drawC, ↓drawStep, ↓AOpC, ↓AOpF, ↓AOpE, ↓AEff, ↓contE_at, ↓contC_at, ↓keepC_at, ↓keepW_at, ↓keepO_at, ↓keepL_at, ↓map_parts, ↓reduceIte, reduceCtorEq, Nat.reduceLT, Nat.reduceEqDiff, Nat.reduceAdd, Nat.reduceMul, Nat.reduceLeDiff, Nat.reduceSub, Nat.reduceBEq, Nat.reduceBNe, Nat.reduceBneDiff, Nat.reduceBeqDiff, ag_24, ag_26, ag_27, ag_3, ag_45, ag_63, ag_76, ag_81, by_24, by_26, by_27, by_3, by_45, by_63, by_76, by_81, el_24, el_27, el_45, el_81, en_3, fi_26_1, fi_76_0, fi_76_1, in_3, nf_26, nf_63, nf_76, pl_26, pl_63, pl_76, ps_26, ps_63, ps_76, sz_24, sz_26, sz_27, sz_3, sz_45, sz_63, sz_76, sz_81, ze_24, ze_26, ze_27, ze_3, ze_45, ze_63, ze_76, ze_81, Sp53, SIn, Dr53, hb', hbw', hgl, hgp, hgn, hct, hL2, List.not_mem_nil, decide_false, List.set_set, t1, t2, t6, t11, t12, t13, l2]))
          refine ⟨⟨i + 1, _, bo, wo + 1, cells ++ [.sl (η'.length + 2) 0 0 1], hlt, by rw [fts_succ, g1, hft]; rfl, ⟨(((x.set hbo _).app _).app _).app _, hbo⟩, ⟨by rw [app_get (by simp only [List.length_append, List.length_set]; omega), app_get (by simp only [List.length_append, List.length_set]; omega), app_get (by simpa using lgo), set_eq lgo], .inr ⟨by omega, cells, η'.length + 2, 0, by rw [hcs]; rfl, hgs.mono (by omega) fun q q1 q2 q3 => by rw [app_get (by simp only [List.length_append, List.length_set]; omega), app_get (by simp only [List.length_append, List.length_set]; omega), app_get (by simp only [List.length_set]; omega), set_ne q2.symm], by rw [hcs]; simp, by omega, by omega⟩⟩, rfl, by simp [upd, t1], by simp [upd, t2], by simp [upd], by simp [upd, t11], by simp [upd, t12], by simp [upd], by simp [upd, l2], rfl⟩, by simp [ctr, upd, t13]; omega⟩
      · have hi0 : i = 0 := by omega
        cases hin : inB (es.getD i (0, 0)).2 0 ((l.length : Int) - 2)
        · have hf : ftE l.length es i = false := by simp only [ftE, fcA, hin, Bool.false_and, Bool.and_false]
          repeat' (first | with_reducible refine iteI (fun _ => ?_) (fun _ => ?_) | ((first | unfold AOpsC | unfold AOpsD | skip); simp (maxSteps := 1000000) (disch := (first | omega | assumption | (simp only [List.length_append, List.length_cons, List.length_nil, List.length_set]; omega))) only [go_sem, ↓skipC, ↓exitC, ↓retC, ↓seqC, ↓blockC, ↓condC, ↓regC, ↓drawC, ↓drawStep, ↓AOpC, ↓AOpF, ↓AOpE, ↓AEff, ↓contE_at, ↓contC_at, ↓keepC_at, ↓keepW_at, ↓keepO_at, ↓keepL_at, ↓map_parts, ↓reduceIte, reduceCtorEq, Nat.reduceLT, Nat.reduceEqDiff, Nat.reduceAdd, Nat.reduceMul, Nat.reduceLeDiff, Nat.reduceSub, Nat.reduceBEq, Nat.reduceBNe, Nat.reduceBneDiff, Nat.reduceBeqDiff, ag_24, ag_26, ag_27, ag_3, ag_45, ag_63, ag_76, ag_81, by_24, by_26, by_27, by_3, by_45, by_63, by_76, by_81, el_24, el_27, el_45, el_81, en_3, fi_26_1, fi_76_0, fi_76_1, in_3, nf_26, nf_63, nf_76, pl_26, pl_63, pl_76, ps_26, ps_63, ps_76, sz_24, sz_26, sz_27, sz_3, sz_45, sz_63, sz_76, sz_81, ze_24, ze_26, ze_27, ze_3, ze_45, ze_63, ze_76, ze_81, Sp53, SIn, Dr53, hb', hbw', h0, hin, t1, t2, t6, t11, t12, t13, l2]))
          exact hN (hno _ hf rfl) _ x
        · have hfr : frE es i = true := by simp [frE, hi0]
          have hft : ftE l.length es i = true := by simp [ftE, fcA, hi0, frE]; rw [hi0] at hin; simpa using hin
          have hcs : cuE es (i + 1) = [(es.getD i (0, 0)).2] := by rw [cuE, if_pos hfr]; rfl
          have hgs := g3.fresh hfr
          have hi0' : (i : Int) = 0 := by omega
          repeat' (first | with_reducible refine iteI (fun _ => ?_) (fun _ => ?_) | ((first | unfold AOpsC | unfold AOpsD | skip); simp (maxSteps := 1000000) (disch := (first | omega | assumption | (simp only [List.length_append, List.length_cons, List.length_nil, List.length_set]; omega))) only [go_sem, ↓skipC, ↓exitC, ↓retC, ↓seqC, ↓blockC, ↓condC, ↓regC, ↓drawC, ↓drawStep, ↓AOpC, ↓AOpF, ↓AOpE, ↓AEff, ↓contE_at, ↓contC_at, ↓keepC_at, ↓keepW_at, ↓keepO_at, ↓keepL_at, ↓map_parts, ↓reduceIte, reduceCtorEq, Nat.reduceLT, Nat.reduceEqDiff, Nat.reduceAdd, Nat.reduceMul, Nat.reduceLeDiff, Nat.reduceSub, Nat.reduceBEq, Nat.reduceBNe, Nat.reduceBneDiff, Nat.reduceBeqDiff, ag_24, ag_26, ag_27, ag_3, ag_45, ag_63, ag_76, ag_81, by_24, by_26, by_27, by_3, by_45, by_63, by_76, by_81, el_24, el_27, el_45, el_81, en_3, fi_26_1, fi_76_0, fi_76_1, in_3, nf_26, nf_63, nf_76, pl_26, pl_63, pl_76, ps_26, ps_63, ps_76, sz_24, sz_26, sz_27, sz_3, sz_45, sz_63, sz_76, sz_81, ze_24, ze_26, ze_27, ze_3, ze_45, ze_63, ze_76, ze_81, Sp53, SIn, Dr53, hb', hbw', h0, hin, hgo, hgl, hgp, hgn, hct, t1, t2, t6, t11, t12, t13, l2]))
          unfold SCtI
          refine ⟨[], .inl ⟨rfl, rfl⟩, Nat.zero_le _, ?_⟩
          repeat' (first | with_reducible refine iteI (fun _ => ?_) (fun _ => ?_) | ((first | unfold AOpsC | unfold AOpsD | skip); simp (maxSteps := 1000000) (disch := (first | omega | assumption | (simp only [List.length_append, List.length_cons, List.length_nil, List.length_set]; omega))) only [go_sem, ↓skipC, ↓exitC, ↓retC, ↓seqC, ↓blockC, ↓condC, ↓regC, ↓drawC, ↓drawStep, ↓AOpC, ↓AOpF, ↓AOpE, ↓AEff, ↓contE_at, ↓contC_at, ↓keepC_at, ↓keepW_at, ↓keepO_at, ↓keepL_at, ↓map_parts, ↓reduceIte, reduceCtorEq, Nat.reduceLT, Nat.reduceEqDiff, Nat.reduceAdd, Nat.reduceMul, Nat.reduceLeDiff, Nat.reduceSub, Nat.reduceBEq, Nat.reduceBNe, Nat.reduceBneDiff, Nat.reduceBeqDiff, ag_24, ag_26, ag_27, ag_3, ag_45, ag_63, ag_76, ag_81, by_24, by_26, by_27, by_3, by_45, by_63, by_76, by_81, el_24, el_27, el_45, el_81, en_3, fi_26_1, fi_76_0, fi_76_1, in_3, nf_26, nf_63, nf_76, pl_26, pl_63, pl_76, ps_26, ps_63, ps_76, sz_24, sz_26, sz_27, sz_3, sz_45, sz_63, sz_76, sz_81, ze_24, ze_26, ze_27, ze_3, ze_45, ze_63, ze_76, ze_81, Sp53, SIn, Dr53, hb', hbw', hgl, hgp, hgn, hct, hL2, List.not_mem_nil, decide_false, List.set_set, t1, t2, t6, t11, t12, t13, l2]))
          refine ⟨⟨i + 1, _, bo, wo + 1, cells ++ [.sl (η'.length + 2) 0 0 1], hlt, by rw [fts_succ, g1, hft]; rfl, ⟨(((x.set hbo _).app _).app _).app _, hbo⟩, ⟨by rw [app_get (by simp only [List.length_append, List.length_set]; omega), app_get (by simp only [List.length_append, List.length_set]; omega), app_get (by simpa using lgo), set_eq lgo], .inr ⟨by omega, cells, η'.length + 2, 0, by rw [hcs]; rfl, hgs.mono (by omega) fun q q1 q2 q3 => by rw [app_get (by simp only [List.length_append, List.length_set]; omega), app_get (by simp only [List.length_append, List.length_set]; omega), app_get (by simp only [List.length_set]; omega), set_ne q2.symm], by rw [hcs]; simp, by omega, by omega⟩⟩, rfl, by simp [upd, t1], by simp [upd, t2], by simp [upd], by simp [upd, t11], by simp [upd, t12], by simp [upd], by simp [upd, l2], rfl⟩, by simp [ctr, upd, t13]; omega⟩
    · obtain rfl : i = es.length := by omega
      repeat' (first | with_reducible refine iteI (fun _ => ?_) (fun _ => ?_) | ((first | unfold AOpsC | unfold AOpsD | skip); simp (maxSteps := 1000000) (disch := (first | omega | assumption | (simp only [List.length_append, List.length_cons, List.length_nil, List.length_set]; omega))) only [go_sem, ↓skipC, ↓exitC, ↓retC, ↓seqC, ↓blockC, ↓condC, ↓regC, ↓drawC, ↓drawStep, ↓AOpC, ↓AOpF, ↓AOpE, ↓AEff, ↓contE_at, ↓contC_at, ↓keepC_at, ↓keepW_at, ↓keepO_at, ↓keepL_at, ↓map_parts, ↓reduceIte, reduceCtorEq, Nat.reduceLT, Nat.reduceEqDiff, Nat.reduceAdd, Nat.reduceMul, Nat.reduceLeDiff, Nat.reduceSub, Nat.reduceBEq, Nat.reduceBNe, Nat.reduceBneDiff, Nat.reduceBeqDiff, ag_24, ag_26, ag_27, ag_3, ag_45, ag_63, ag_76, ag_81, by_24, by_26, by_27, by_3, by_45, by_63, by_76, by_81, el_24, el_27, el_45, el_81, en_3, fi_26_1, fi_76_0, fi_76_1, in_3, nf_26, nf_63, nf_76, pl_26, pl_63, pl_76, ps_26, ps_63, ps_76, sz_24, sz_26, sz_27, sz_3, sz_45, sz_63, sz_76, sz_81, ze_24, ze_26, ze_27, ze_3, ze_45, ze_63, ze_76, ze_81, Sp53, SIn, Dr53, hb', hbw', t1, t2, t6, t11, t12, t13, l2]))
      exact hK g1 _ _ _ _ hgo hbo g3.top x
  · exact h.elim

end Go.Proofs.Ytaalpmbopkbdiaa
